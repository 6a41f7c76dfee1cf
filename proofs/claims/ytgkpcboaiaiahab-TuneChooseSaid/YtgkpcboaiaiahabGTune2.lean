/- Each function of the group Tune does what its plain function says, and changes nothing that was there; proved by walking its code. No condition. -/
import Derived.Test.YtgkpcboaiaiahabQw
import Derived.Test.YtgkpcboaiaiahabMTune
import Derived.Test.YtgkpcboaiaiahabGTune0
import Derived.Test.YtgkpcboaiaiahabGTune1
namespace Go.Proofs.Ytgkpcboaiaiahab.C
open Go.RowKit Go.Proofs.YtgkpcboaiaiahabW.PrintWords Go.Proofs.YtgkpcboaiaiahabW.PrintLast Go.Proofs.YtgkpcboaiaiahabW.PrintMore Go.Proofs.Ytgkpcboaiaiahab.Q Go.Proofs.Ytgkpcboaiaiahab.M
set_option linter.unusedVariables false
set_option linter.unusedSimpArgs false
set_option maxHeartbeats 4000000 in
set_option maxRecDepth 100000 in
theorem twin_Spare.calls (k : Nat) (a172 : Int) (a173 : Int) (a174 : Int) (a175 : Int) (r : Int) (w : World)  (HS : Aside0 (Sep (fps []) w [] w)) (H : Aside0 (twin_Spare.f k a172 a173 a174 a175 = some r)) :
    Calls Try.prog 50 #[.agg #[.int .i64 a172, .int .i64 a173, .int .i64 a174, .int .i64 a175]] w fun e w' => e = .returned (.int .i64 r) ∧ Sep (fps []) w [] w' := by
  unfold twin_Spare.f at H
  go_enter Try.func50, Try.ntmps50
  go_wp2_with (first | ((with_reducible refine gate_dst (N := 1) rfl ?_); refine box_on ?hg (N := 1) ?hd (cs := #[.int .i64 a172, .int .i64 a173, .int .i64 a174, .int .i64 a175]) (t := 32) ?hr ?_; (case hd => rfl); (case hg => rfl); (case hr => first | (go_simp; done) | (go_simp; rfl)); intro g176 hg w177 hbox hb; have HS_ : Aside0 (Sep (fps []) w [blk g176 #[.int .i64 a172, .int .i64 a173, .int .i64 a174, .int .i64 a175] 32] w177) := ⟨HS.out.box hg hbox hb⟩; clear HS hg hbox hb; have HS := HS_; clear HS_; have hc179 : w177.cell? ⟨g176, 0, none⟩ = some (.int .i64 a172) := blk_cellv (HS.out.at0) 0 rfl; have hc180 : w177.cell? ⟨g176, 1, none⟩ = some (.int .i64 a173) := blk_cellv (HS.out.at0) 1 rfl; have hc181 : w177.cell? ⟨g176, 2, none⟩ = some (.int .i64 a174) := blk_cellv (HS.out.at0) 2 rfl; have hc182 : w177.cell? ⟨g176, 3, none⟩ = some (.int .i64 a175) := blk_cellv (HS.out.at0) 3 rfl))
  clear hc179 hc180 hc181 hc182
  obtain ⟨t702, HA703, H⟩ := bind_some H
  refine (plan_Of.calls _ a172 a173 a174 a175 t702 _ ⟨HS.out.begin (l := []) (rest := [blk g176 #[.int .i64 a172, .int .i64 a173, .int .i64 a174, .int .i64 a175] 32])⟩ HA703).mono ?_
  rintro e_ w704 ⟨rfl, hS⟩
  have HS_ : Aside0 (Sep (fps []) w [blk g176 #[.int .i64 a172, .int .i64 a173, .int .i64 a174, .int .i64 a175] 32] w704) := ⟨HS.out.call (l := []) (rest := [blk g176 #[.int .i64 a172, .int .i64 a173, .int .i64 a174, .int .i64 a175] 32]) hS⟩
  clear HS hS
  have HS := HS_
  clear HS_
  by_cases c725 : t702.2.2.2.2.2.2.2.2 = 0
  · have H := if_yes c725 H
    have c725b0 : (t702.2.2.2.2.2.2.2.2 == 0) = true := beq_iff_eq.mpr c725
    have c725b1 : (t702.2.2.2.2.2.2.2.2 != 0) = false := bne_eq_false_iff_eq.mpr c725
    clear c725
    by_cases c728 : (wrap64 (a172 - t702.2.2.2.2.2.2.1)) < 0
    · have H := if_yes c728 H
      have c728b0 : decide ((wrap64 (a172 - t702.2.2.2.2.2.2.1)) < 0) = true := decide_eq_true c728
      go_wp2_with (first | ((with_reducible refine gate_dst (N := 3) rfl ?_); refine box_on ?hg (N := 3) ?hd (cs := #[.int .i64 0, .int .i64 0, .int .i64 0, .int .i64 0, .int .i64 0, .int .i64 0, .int .i64 0, .int .i64 0]) (t := 38) ?hr ?_; (case hd => rfl); (case hg => rfl); (case hr => first | (go_simp; done) | (go_simp; rfl)); intro g705 hg w706 hbox hb; have HS_ : Aside0 (Sep (fps []) w [blk g176 #[.int .i64 a172, .int .i64 a173, .int .i64 a174, .int .i64 a175] 32, blk g705 #[.int .i64 0, .int .i64 0, .int .i64 0, .int .i64 0, .int .i64 0, .int .i64 0, .int .i64 0, .int .i64 0] 38] w706) := ⟨HS.out.box hg hbox hb⟩; clear HS hg hbox hb; have HS := HS_; clear HS_; have hc708 : w706.cell? ⟨g705, 0, none⟩ = some (.int .i64 0) := blk_cellv (HS.out.at1) 0 rfl; have hz709 : w706.frozen? ⟨g705, 0, none⟩ = false := blk_fz (HS.out.at1) 0; have hc710 : w706.cell? ⟨g705, 1, none⟩ = some (.int .i64 0) := blk_cellv (HS.out.at1) 1 rfl; have hz711 : w706.frozen? ⟨g705, 1, none⟩ = false := blk_fz (HS.out.at1) 1; have hc712 : w706.cell? ⟨g705, 2, none⟩ = some (.int .i64 0) := blk_cellv (HS.out.at1) 2 rfl; have hz713 : w706.frozen? ⟨g705, 2, none⟩ = false := blk_fz (HS.out.at1) 2; have hc714 : w706.cell? ⟨g705, 3, none⟩ = some (.int .i64 0) := blk_cellv (HS.out.at1) 3 rfl; have hz715 : w706.frozen? ⟨g705, 3, none⟩ = false := blk_fz (HS.out.at1) 3; have hc716 : w706.cell? ⟨g705, 4, none⟩ = some (.int .i64 0) := blk_cellv (HS.out.at1) 4 rfl; have hz717 : w706.frozen? ⟨g705, 4, none⟩ = false := blk_fz (HS.out.at1) 4; have hc718 : w706.cell? ⟨g705, 5, none⟩ = some (.int .i64 0) := blk_cellv (HS.out.at1) 5 rfl; have hz719 : w706.frozen? ⟨g705, 5, none⟩ = false := blk_fz (HS.out.at1) 5; have hc720 : w706.cell? ⟨g705, 6, none⟩ = some (.int .i64 0) := blk_cellv (HS.out.at1) 6 rfl; have hz721 : w706.frozen? ⟨g705, 6, none⟩ = false := blk_fz (HS.out.at1) 6; have hc722 : w706.cell? ⟨g705, 7, none⟩ = some (.int .i64 0) := blk_cellv (HS.out.at1) 7 rfl; have hz723 : w706.frozen? ⟨g705, 7, none⟩ = false := blk_fz (HS.out.at1) 7) | ((with_reducible refine gate_store (t := 38) (p := 3) rfl ?_); refine store_event (w1 := (World.setCell (World.setCell (World.setCell (World.setCell (World.setCell (World.setCell (World.setCell (World.setCell w706 ⟨g705, 0, none⟩ (.int .i64 t702.1)) ⟨g705, 1, none⟩ (.int .i64 t702.2.1)) ⟨g705, 2, none⟩ (.int .i64 t702.2.2.1)) ⟨g705, 3, none⟩ (.int .i64 t702.2.2.2.1)) ⟨g705, 4, none⟩ (.int .i64 t702.2.2.2.2.1)) ⟨g705, 5, none⟩ (.int .i64 t702.2.2.2.2.2.1)) ⟨g705, 6, none⟩ (.int .i64 t702.2.2.2.2.2.2.1)) ⟨g705, 7, none⟩ (.int .i64 t702.2.2.2.2.2.2.2.1))) rfl (t := 38) (p := 3) rfl rfl ?hr ?_; (case hr => first | (go_simp; done) | (go_simp; rfl)); intro w724 hst; clear hc708 hz709 hc710 hz711 hc712 hz713 hc714 hz715 hc716 hz717 hc718 hz719 hc720 hz721 hc722 hz723; have hq0 : Sep (fps []) w [blk g176 #[.int .i64 a172, .int .i64 a173, .int .i64 a174, .int .i64 a175] 32, blk g705 #[.int .i64 t702.1, .int .i64 0, .int .i64 0, .int .i64 0, .int .i64 0, .int .i64 0, .int .i64 0, .int .i64 0] 38] (World.setCell w706 ⟨g705, 0, none⟩ (.int .i64 t702.1)) := (HS.out).set1 (l1 := [blk g176 #[.int .i64 a172, .int .i64 a173, .int .i64 a174, .int .i64 a175] 32]) (l2 := []) 0 (.int .i64 t702.1); have hq1 : Sep (fps []) w [blk g176 #[.int .i64 a172, .int .i64 a173, .int .i64 a174, .int .i64 a175] 32, blk g705 #[.int .i64 t702.1, .int .i64 t702.2.1, .int .i64 0, .int .i64 0, .int .i64 0, .int .i64 0, .int .i64 0, .int .i64 0] 38] (World.setCell (World.setCell w706 ⟨g705, 0, none⟩ (.int .i64 t702.1)) ⟨g705, 1, none⟩ (.int .i64 t702.2.1)) := (hq0).set1 (l1 := [blk g176 #[.int .i64 a172, .int .i64 a173, .int .i64 a174, .int .i64 a175] 32]) (l2 := []) 1 (.int .i64 t702.2.1); have hq2 : Sep (fps []) w [blk g176 #[.int .i64 a172, .int .i64 a173, .int .i64 a174, .int .i64 a175] 32, blk g705 #[.int .i64 t702.1, .int .i64 t702.2.1, .int .i64 t702.2.2.1, .int .i64 0, .int .i64 0, .int .i64 0, .int .i64 0, .int .i64 0] 38] (World.setCell (World.setCell (World.setCell w706 ⟨g705, 0, none⟩ (.int .i64 t702.1)) ⟨g705, 1, none⟩ (.int .i64 t702.2.1)) ⟨g705, 2, none⟩ (.int .i64 t702.2.2.1)) := (hq1).set1 (l1 := [blk g176 #[.int .i64 a172, .int .i64 a173, .int .i64 a174, .int .i64 a175] 32]) (l2 := []) 2 (.int .i64 t702.2.2.1); have hq3 : Sep (fps []) w [blk g176 #[.int .i64 a172, .int .i64 a173, .int .i64 a174, .int .i64 a175] 32, blk g705 #[.int .i64 t702.1, .int .i64 t702.2.1, .int .i64 t702.2.2.1, .int .i64 t702.2.2.2.1, .int .i64 0, .int .i64 0, .int .i64 0, .int .i64 0] 38] (World.setCell (World.setCell (World.setCell (World.setCell w706 ⟨g705, 0, none⟩ (.int .i64 t702.1)) ⟨g705, 1, none⟩ (.int .i64 t702.2.1)) ⟨g705, 2, none⟩ (.int .i64 t702.2.2.1)) ⟨g705, 3, none⟩ (.int .i64 t702.2.2.2.1)) := (hq2).set1 (l1 := [blk g176 #[.int .i64 a172, .int .i64 a173, .int .i64 a174, .int .i64 a175] 32]) (l2 := []) 3 (.int .i64 t702.2.2.2.1); have hq4 : Sep (fps []) w [blk g176 #[.int .i64 a172, .int .i64 a173, .int .i64 a174, .int .i64 a175] 32, blk g705 #[.int .i64 t702.1, .int .i64 t702.2.1, .int .i64 t702.2.2.1, .int .i64 t702.2.2.2.1, .int .i64 t702.2.2.2.2.1, .int .i64 0, .int .i64 0, .int .i64 0] 38] (World.setCell (World.setCell (World.setCell (World.setCell (World.setCell w706 ⟨g705, 0, none⟩ (.int .i64 t702.1)) ⟨g705, 1, none⟩ (.int .i64 t702.2.1)) ⟨g705, 2, none⟩ (.int .i64 t702.2.2.1)) ⟨g705, 3, none⟩ (.int .i64 t702.2.2.2.1)) ⟨g705, 4, none⟩ (.int .i64 t702.2.2.2.2.1)) := (hq3).set1 (l1 := [blk g176 #[.int .i64 a172, .int .i64 a173, .int .i64 a174, .int .i64 a175] 32]) (l2 := []) 4 (.int .i64 t702.2.2.2.2.1); have hq5 : Sep (fps []) w [blk g176 #[.int .i64 a172, .int .i64 a173, .int .i64 a174, .int .i64 a175] 32, blk g705 #[.int .i64 t702.1, .int .i64 t702.2.1, .int .i64 t702.2.2.1, .int .i64 t702.2.2.2.1, .int .i64 t702.2.2.2.2.1, .int .i64 t702.2.2.2.2.2.1, .int .i64 0, .int .i64 0] 38] (World.setCell (World.setCell (World.setCell (World.setCell (World.setCell (World.setCell w706 ⟨g705, 0, none⟩ (.int .i64 t702.1)) ⟨g705, 1, none⟩ (.int .i64 t702.2.1)) ⟨g705, 2, none⟩ (.int .i64 t702.2.2.1)) ⟨g705, 3, none⟩ (.int .i64 t702.2.2.2.1)) ⟨g705, 4, none⟩ (.int .i64 t702.2.2.2.2.1)) ⟨g705, 5, none⟩ (.int .i64 t702.2.2.2.2.2.1)) := (hq4).set1 (l1 := [blk g176 #[.int .i64 a172, .int .i64 a173, .int .i64 a174, .int .i64 a175] 32]) (l2 := []) 5 (.int .i64 t702.2.2.2.2.2.1); have hq6 : Sep (fps []) w [blk g176 #[.int .i64 a172, .int .i64 a173, .int .i64 a174, .int .i64 a175] 32, blk g705 #[.int .i64 t702.1, .int .i64 t702.2.1, .int .i64 t702.2.2.1, .int .i64 t702.2.2.2.1, .int .i64 t702.2.2.2.2.1, .int .i64 t702.2.2.2.2.2.1, .int .i64 t702.2.2.2.2.2.2.1, .int .i64 0] 38] (World.setCell (World.setCell (World.setCell (World.setCell (World.setCell (World.setCell (World.setCell w706 ⟨g705, 0, none⟩ (.int .i64 t702.1)) ⟨g705, 1, none⟩ (.int .i64 t702.2.1)) ⟨g705, 2, none⟩ (.int .i64 t702.2.2.1)) ⟨g705, 3, none⟩ (.int .i64 t702.2.2.2.1)) ⟨g705, 4, none⟩ (.int .i64 t702.2.2.2.2.1)) ⟨g705, 5, none⟩ (.int .i64 t702.2.2.2.2.2.1)) ⟨g705, 6, none⟩ (.int .i64 t702.2.2.2.2.2.2.1)) := (hq5).set1 (l1 := [blk g176 #[.int .i64 a172, .int .i64 a173, .int .i64 a174, .int .i64 a175] 32]) (l2 := []) 6 (.int .i64 t702.2.2.2.2.2.2.1); have hq7 : Sep (fps []) w [blk g176 #[.int .i64 a172, .int .i64 a173, .int .i64 a174, .int .i64 a175] 32, blk g705 #[.int .i64 t702.1, .int .i64 t702.2.1, .int .i64 t702.2.2.1, .int .i64 t702.2.2.2.1, .int .i64 t702.2.2.2.2.1, .int .i64 t702.2.2.2.2.2.1, .int .i64 t702.2.2.2.2.2.2.1, .int .i64 t702.2.2.2.2.2.2.2.1] 38] (World.setCell (World.setCell (World.setCell (World.setCell (World.setCell (World.setCell (World.setCell (World.setCell w706 ⟨g705, 0, none⟩ (.int .i64 t702.1)) ⟨g705, 1, none⟩ (.int .i64 t702.2.1)) ⟨g705, 2, none⟩ (.int .i64 t702.2.2.1)) ⟨g705, 3, none⟩ (.int .i64 t702.2.2.2.1)) ⟨g705, 4, none⟩ (.int .i64 t702.2.2.2.2.1)) ⟨g705, 5, none⟩ (.int .i64 t702.2.2.2.2.2.1)) ⟨g705, 6, none⟩ (.int .i64 t702.2.2.2.2.2.2.1)) ⟨g705, 7, none⟩ (.int .i64 t702.2.2.2.2.2.2.2.1)) := (hq6).set1 (l1 := [blk g176 #[.int .i64 a172, .int .i64 a173, .int .i64 a174, .int .i64 a175] 32]) (l2 := []) 7 (.int .i64 t702.2.2.2.2.2.2.2.1); have HS_ : Aside0 (Sep (fps []) w [blk g176 #[.int .i64 a172, .int .i64 a173, .int .i64 a174, .int .i64 a175] 32, blk g705 #[.int .i64 t702.1, .int .i64 t702.2.1, .int .i64 t702.2.2.1, .int .i64 t702.2.2.2.1, .int .i64 t702.2.2.2.2.1, .int .i64 t702.2.2.2.2.2.1, .int .i64 t702.2.2.2.2.2.2.1, .int .i64 t702.2.2.2.2.2.2.2.1] 38] w724) := ⟨by rw [hst]; exact hq7⟩; clear hq0 hq1 hq2 hq3 hq4 hq5 hq6 hq7; clear HS hst; have HS := HS_; clear HS_; have hc726 : w724.cell? ⟨g176, 0, none⟩ = some (.int .i64 a172) := blk_cellv (HS.out.at0) 0 rfl; have hc727 : w724.cell? ⟨g705, 6, none⟩ = some (.int .i64 t702.2.2.2.2.2.2.1) := blk_cellv (HS.out.at1) 6 rfl; skip))
      clear hc726 hc727 c728
      go_ret
      rw [← some_eq H]
      exact ⟨(by first | rfl | (simp [IntKind.wrap_u32]; done)), (HS.out).keep (l := []) (rest := [blk g176 #[.int .i64 a172, .int .i64 a173, .int .i64 a174, .int .i64 a175] 32, blk g705 #[.int .i64 t702.1, .int .i64 t702.2.1, .int .i64 t702.2.2.1, .int .i64 t702.2.2.2.1, .int .i64 t702.2.2.2.2.1, .int .i64 t702.2.2.2.2.2.1, .int .i64 t702.2.2.2.2.2.2.1, .int .i64 t702.2.2.2.2.2.2.2.1] 38])⟩
    · have H := if_no c728 H
      have c728b0 : decide ((wrap64 (a172 - t702.2.2.2.2.2.2.1)) < 0) = false := decide_eq_false c728
      go_wp2_with (first | ((with_reducible refine gate_dst (N := 3) rfl ?_); refine box_on ?hg (N := 3) ?hd (cs := #[.int .i64 0, .int .i64 0, .int .i64 0, .int .i64 0, .int .i64 0, .int .i64 0, .int .i64 0, .int .i64 0]) (t := 38) ?hr ?_; (case hd => rfl); (case hg => rfl); (case hr => first | (go_simp; done) | (go_simp; rfl)); intro g705 hg w706 hbox hb; have HS_ : Aside0 (Sep (fps []) w [blk g176 #[.int .i64 a172, .int .i64 a173, .int .i64 a174, .int .i64 a175] 32, blk g705 #[.int .i64 0, .int .i64 0, .int .i64 0, .int .i64 0, .int .i64 0, .int .i64 0, .int .i64 0, .int .i64 0] 38] w706) := ⟨HS.out.box hg hbox hb⟩; clear HS hg hbox hb; have HS := HS_; clear HS_; have hc708 : w706.cell? ⟨g705, 0, none⟩ = some (.int .i64 0) := blk_cellv (HS.out.at1) 0 rfl; have hz709 : w706.frozen? ⟨g705, 0, none⟩ = false := blk_fz (HS.out.at1) 0; have hc710 : w706.cell? ⟨g705, 1, none⟩ = some (.int .i64 0) := blk_cellv (HS.out.at1) 1 rfl; have hz711 : w706.frozen? ⟨g705, 1, none⟩ = false := blk_fz (HS.out.at1) 1; have hc712 : w706.cell? ⟨g705, 2, none⟩ = some (.int .i64 0) := blk_cellv (HS.out.at1) 2 rfl; have hz713 : w706.frozen? ⟨g705, 2, none⟩ = false := blk_fz (HS.out.at1) 2; have hc714 : w706.cell? ⟨g705, 3, none⟩ = some (.int .i64 0) := blk_cellv (HS.out.at1) 3 rfl; have hz715 : w706.frozen? ⟨g705, 3, none⟩ = false := blk_fz (HS.out.at1) 3; have hc716 : w706.cell? ⟨g705, 4, none⟩ = some (.int .i64 0) := blk_cellv (HS.out.at1) 4 rfl; have hz717 : w706.frozen? ⟨g705, 4, none⟩ = false := blk_fz (HS.out.at1) 4; have hc718 : w706.cell? ⟨g705, 5, none⟩ = some (.int .i64 0) := blk_cellv (HS.out.at1) 5 rfl; have hz719 : w706.frozen? ⟨g705, 5, none⟩ = false := blk_fz (HS.out.at1) 5; have hc720 : w706.cell? ⟨g705, 6, none⟩ = some (.int .i64 0) := blk_cellv (HS.out.at1) 6 rfl; have hz721 : w706.frozen? ⟨g705, 6, none⟩ = false := blk_fz (HS.out.at1) 6; have hc722 : w706.cell? ⟨g705, 7, none⟩ = some (.int .i64 0) := blk_cellv (HS.out.at1) 7 rfl; have hz723 : w706.frozen? ⟨g705, 7, none⟩ = false := blk_fz (HS.out.at1) 7) | ((with_reducible refine gate_store (t := 38) (p := 3) rfl ?_); refine store_event (w1 := (World.setCell (World.setCell (World.setCell (World.setCell (World.setCell (World.setCell (World.setCell (World.setCell w706 ⟨g705, 0, none⟩ (.int .i64 t702.1)) ⟨g705, 1, none⟩ (.int .i64 t702.2.1)) ⟨g705, 2, none⟩ (.int .i64 t702.2.2.1)) ⟨g705, 3, none⟩ (.int .i64 t702.2.2.2.1)) ⟨g705, 4, none⟩ (.int .i64 t702.2.2.2.2.1)) ⟨g705, 5, none⟩ (.int .i64 t702.2.2.2.2.2.1)) ⟨g705, 6, none⟩ (.int .i64 t702.2.2.2.2.2.2.1)) ⟨g705, 7, none⟩ (.int .i64 t702.2.2.2.2.2.2.2.1))) rfl (t := 38) (p := 3) rfl rfl ?hr ?_; (case hr => first | (go_simp; done) | (go_simp; rfl)); intro w724 hst; clear hc708 hz709 hc710 hz711 hc712 hz713 hc714 hz715 hc716 hz717 hc718 hz719 hc720 hz721 hc722 hz723; have hq0 : Sep (fps []) w [blk g176 #[.int .i64 a172, .int .i64 a173, .int .i64 a174, .int .i64 a175] 32, blk g705 #[.int .i64 t702.1, .int .i64 0, .int .i64 0, .int .i64 0, .int .i64 0, .int .i64 0, .int .i64 0, .int .i64 0] 38] (World.setCell w706 ⟨g705, 0, none⟩ (.int .i64 t702.1)) := (HS.out).set1 (l1 := [blk g176 #[.int .i64 a172, .int .i64 a173, .int .i64 a174, .int .i64 a175] 32]) (l2 := []) 0 (.int .i64 t702.1); have hq1 : Sep (fps []) w [blk g176 #[.int .i64 a172, .int .i64 a173, .int .i64 a174, .int .i64 a175] 32, blk g705 #[.int .i64 t702.1, .int .i64 t702.2.1, .int .i64 0, .int .i64 0, .int .i64 0, .int .i64 0, .int .i64 0, .int .i64 0] 38] (World.setCell (World.setCell w706 ⟨g705, 0, none⟩ (.int .i64 t702.1)) ⟨g705, 1, none⟩ (.int .i64 t702.2.1)) := (hq0).set1 (l1 := [blk g176 #[.int .i64 a172, .int .i64 a173, .int .i64 a174, .int .i64 a175] 32]) (l2 := []) 1 (.int .i64 t702.2.1); have hq2 : Sep (fps []) w [blk g176 #[.int .i64 a172, .int .i64 a173, .int .i64 a174, .int .i64 a175] 32, blk g705 #[.int .i64 t702.1, .int .i64 t702.2.1, .int .i64 t702.2.2.1, .int .i64 0, .int .i64 0, .int .i64 0, .int .i64 0, .int .i64 0] 38] (World.setCell (World.setCell (World.setCell w706 ⟨g705, 0, none⟩ (.int .i64 t702.1)) ⟨g705, 1, none⟩ (.int .i64 t702.2.1)) ⟨g705, 2, none⟩ (.int .i64 t702.2.2.1)) := (hq1).set1 (l1 := [blk g176 #[.int .i64 a172, .int .i64 a173, .int .i64 a174, .int .i64 a175] 32]) (l2 := []) 2 (.int .i64 t702.2.2.1); have hq3 : Sep (fps []) w [blk g176 #[.int .i64 a172, .int .i64 a173, .int .i64 a174, .int .i64 a175] 32, blk g705 #[.int .i64 t702.1, .int .i64 t702.2.1, .int .i64 t702.2.2.1, .int .i64 t702.2.2.2.1, .int .i64 0, .int .i64 0, .int .i64 0, .int .i64 0] 38] (World.setCell (World.setCell (World.setCell (World.setCell w706 ⟨g705, 0, none⟩ (.int .i64 t702.1)) ⟨g705, 1, none⟩ (.int .i64 t702.2.1)) ⟨g705, 2, none⟩ (.int .i64 t702.2.2.1)) ⟨g705, 3, none⟩ (.int .i64 t702.2.2.2.1)) := (hq2).set1 (l1 := [blk g176 #[.int .i64 a172, .int .i64 a173, .int .i64 a174, .int .i64 a175] 32]) (l2 := []) 3 (.int .i64 t702.2.2.2.1); have hq4 : Sep (fps []) w [blk g176 #[.int .i64 a172, .int .i64 a173, .int .i64 a174, .int .i64 a175] 32, blk g705 #[.int .i64 t702.1, .int .i64 t702.2.1, .int .i64 t702.2.2.1, .int .i64 t702.2.2.2.1, .int .i64 t702.2.2.2.2.1, .int .i64 0, .int .i64 0, .int .i64 0] 38] (World.setCell (World.setCell (World.setCell (World.setCell (World.setCell w706 ⟨g705, 0, none⟩ (.int .i64 t702.1)) ⟨g705, 1, none⟩ (.int .i64 t702.2.1)) ⟨g705, 2, none⟩ (.int .i64 t702.2.2.1)) ⟨g705, 3, none⟩ (.int .i64 t702.2.2.2.1)) ⟨g705, 4, none⟩ (.int .i64 t702.2.2.2.2.1)) := (hq3).set1 (l1 := [blk g176 #[.int .i64 a172, .int .i64 a173, .int .i64 a174, .int .i64 a175] 32]) (l2 := []) 4 (.int .i64 t702.2.2.2.2.1); have hq5 : Sep (fps []) w [blk g176 #[.int .i64 a172, .int .i64 a173, .int .i64 a174, .int .i64 a175] 32, blk g705 #[.int .i64 t702.1, .int .i64 t702.2.1, .int .i64 t702.2.2.1, .int .i64 t702.2.2.2.1, .int .i64 t702.2.2.2.2.1, .int .i64 t702.2.2.2.2.2.1, .int .i64 0, .int .i64 0] 38] (World.setCell (World.setCell (World.setCell (World.setCell (World.setCell (World.setCell w706 ⟨g705, 0, none⟩ (.int .i64 t702.1)) ⟨g705, 1, none⟩ (.int .i64 t702.2.1)) ⟨g705, 2, none⟩ (.int .i64 t702.2.2.1)) ⟨g705, 3, none⟩ (.int .i64 t702.2.2.2.1)) ⟨g705, 4, none⟩ (.int .i64 t702.2.2.2.2.1)) ⟨g705, 5, none⟩ (.int .i64 t702.2.2.2.2.2.1)) := (hq4).set1 (l1 := [blk g176 #[.int .i64 a172, .int .i64 a173, .int .i64 a174, .int .i64 a175] 32]) (l2 := []) 5 (.int .i64 t702.2.2.2.2.2.1); have hq6 : Sep (fps []) w [blk g176 #[.int .i64 a172, .int .i64 a173, .int .i64 a174, .int .i64 a175] 32, blk g705 #[.int .i64 t702.1, .int .i64 t702.2.1, .int .i64 t702.2.2.1, .int .i64 t702.2.2.2.1, .int .i64 t702.2.2.2.2.1, .int .i64 t702.2.2.2.2.2.1, .int .i64 t702.2.2.2.2.2.2.1, .int .i64 0] 38] (World.setCell (World.setCell (World.setCell (World.setCell (World.setCell (World.setCell (World.setCell w706 ⟨g705, 0, none⟩ (.int .i64 t702.1)) ⟨g705, 1, none⟩ (.int .i64 t702.2.1)) ⟨g705, 2, none⟩ (.int .i64 t702.2.2.1)) ⟨g705, 3, none⟩ (.int .i64 t702.2.2.2.1)) ⟨g705, 4, none⟩ (.int .i64 t702.2.2.2.2.1)) ⟨g705, 5, none⟩ (.int .i64 t702.2.2.2.2.2.1)) ⟨g705, 6, none⟩ (.int .i64 t702.2.2.2.2.2.2.1)) := (hq5).set1 (l1 := [blk g176 #[.int .i64 a172, .int .i64 a173, .int .i64 a174, .int .i64 a175] 32]) (l2 := []) 6 (.int .i64 t702.2.2.2.2.2.2.1); have hq7 : Sep (fps []) w [blk g176 #[.int .i64 a172, .int .i64 a173, .int .i64 a174, .int .i64 a175] 32, blk g705 #[.int .i64 t702.1, .int .i64 t702.2.1, .int .i64 t702.2.2.1, .int .i64 t702.2.2.2.1, .int .i64 t702.2.2.2.2.1, .int .i64 t702.2.2.2.2.2.1, .int .i64 t702.2.2.2.2.2.2.1, .int .i64 t702.2.2.2.2.2.2.2.1] 38] (World.setCell (World.setCell (World.setCell (World.setCell (World.setCell (World.setCell (World.setCell (World.setCell w706 ⟨g705, 0, none⟩ (.int .i64 t702.1)) ⟨g705, 1, none⟩ (.int .i64 t702.2.1)) ⟨g705, 2, none⟩ (.int .i64 t702.2.2.1)) ⟨g705, 3, none⟩ (.int .i64 t702.2.2.2.1)) ⟨g705, 4, none⟩ (.int .i64 t702.2.2.2.2.1)) ⟨g705, 5, none⟩ (.int .i64 t702.2.2.2.2.2.1)) ⟨g705, 6, none⟩ (.int .i64 t702.2.2.2.2.2.2.1)) ⟨g705, 7, none⟩ (.int .i64 t702.2.2.2.2.2.2.2.1)) := (hq6).set1 (l1 := [blk g176 #[.int .i64 a172, .int .i64 a173, .int .i64 a174, .int .i64 a175] 32]) (l2 := []) 7 (.int .i64 t702.2.2.2.2.2.2.2.1); have HS_ : Aside0 (Sep (fps []) w [blk g176 #[.int .i64 a172, .int .i64 a173, .int .i64 a174, .int .i64 a175] 32, blk g705 #[.int .i64 t702.1, .int .i64 t702.2.1, .int .i64 t702.2.2.1, .int .i64 t702.2.2.2.1, .int .i64 t702.2.2.2.2.1, .int .i64 t702.2.2.2.2.2.1, .int .i64 t702.2.2.2.2.2.2.1, .int .i64 t702.2.2.2.2.2.2.2.1] 38] w724) := ⟨by rw [hst]; exact hq7⟩; clear hq0 hq1 hq2 hq3 hq4 hq5 hq6 hq7; clear HS hst; have HS := HS_; clear HS_; have hc726 : w724.cell? ⟨g176, 0, none⟩ = some (.int .i64 a172) := blk_cellv (HS.out.at0) 0 rfl; have hc727 : w724.cell? ⟨g705, 6, none⟩ = some (.int .i64 t702.2.2.2.2.2.2.1) := blk_cellv (HS.out.at1) 6 rfl; skip))
      clear hc726 hc727 c728
      go_ret
      rw [← some_eq H]
      exact ⟨(by first | rfl | (simp [IntKind.wrap_u32]; done)), (HS.out).keep (l := []) (rest := [blk g176 #[.int .i64 a172, .int .i64 a173, .int .i64 a174, .int .i64 a175] 32, blk g705 #[.int .i64 t702.1, .int .i64 t702.2.1, .int .i64 t702.2.2.1, .int .i64 t702.2.2.2.1, .int .i64 t702.2.2.2.2.1, .int .i64 t702.2.2.2.2.2.1, .int .i64 t702.2.2.2.2.2.2.1, .int .i64 t702.2.2.2.2.2.2.2.1] 38])⟩
  · have H := if_no c725 H
    have c725b0 : (t702.2.2.2.2.2.2.2.2 == 0) = false := beq_eq_false_iff_ne.mpr c725
    have c725b1 : (t702.2.2.2.2.2.2.2.2 != 0) = true := bne_iff_ne.mpr c725
    clear c725
    go_wp2_with (first | ((with_reducible refine gate_dst (N := 3) rfl ?_); refine box_on ?hg (N := 3) ?hd (cs := #[.int .i64 0, .int .i64 0, .int .i64 0, .int .i64 0, .int .i64 0, .int .i64 0, .int .i64 0, .int .i64 0]) (t := 38) ?hr ?_; (case hd => rfl); (case hg => rfl); (case hr => first | (go_simp; done) | (go_simp; rfl)); intro g705 hg w706 hbox hb; have HS_ : Aside0 (Sep (fps []) w [blk g176 #[.int .i64 a172, .int .i64 a173, .int .i64 a174, .int .i64 a175] 32, blk g705 #[.int .i64 0, .int .i64 0, .int .i64 0, .int .i64 0, .int .i64 0, .int .i64 0, .int .i64 0, .int .i64 0] 38] w706) := ⟨HS.out.box hg hbox hb⟩; clear HS hg hbox hb; have HS := HS_; clear HS_; have hc708 : w706.cell? ⟨g705, 0, none⟩ = some (.int .i64 0) := blk_cellv (HS.out.at1) 0 rfl; have hz709 : w706.frozen? ⟨g705, 0, none⟩ = false := blk_fz (HS.out.at1) 0; have hc710 : w706.cell? ⟨g705, 1, none⟩ = some (.int .i64 0) := blk_cellv (HS.out.at1) 1 rfl; have hz711 : w706.frozen? ⟨g705, 1, none⟩ = false := blk_fz (HS.out.at1) 1; have hc712 : w706.cell? ⟨g705, 2, none⟩ = some (.int .i64 0) := blk_cellv (HS.out.at1) 2 rfl; have hz713 : w706.frozen? ⟨g705, 2, none⟩ = false := blk_fz (HS.out.at1) 2; have hc714 : w706.cell? ⟨g705, 3, none⟩ = some (.int .i64 0) := blk_cellv (HS.out.at1) 3 rfl; have hz715 : w706.frozen? ⟨g705, 3, none⟩ = false := blk_fz (HS.out.at1) 3; have hc716 : w706.cell? ⟨g705, 4, none⟩ = some (.int .i64 0) := blk_cellv (HS.out.at1) 4 rfl; have hz717 : w706.frozen? ⟨g705, 4, none⟩ = false := blk_fz (HS.out.at1) 4; have hc718 : w706.cell? ⟨g705, 5, none⟩ = some (.int .i64 0) := blk_cellv (HS.out.at1) 5 rfl; have hz719 : w706.frozen? ⟨g705, 5, none⟩ = false := blk_fz (HS.out.at1) 5; have hc720 : w706.cell? ⟨g705, 6, none⟩ = some (.int .i64 0) := blk_cellv (HS.out.at1) 6 rfl; have hz721 : w706.frozen? ⟨g705, 6, none⟩ = false := blk_fz (HS.out.at1) 6; have hc722 : w706.cell? ⟨g705, 7, none⟩ = some (.int .i64 0) := blk_cellv (HS.out.at1) 7 rfl; have hz723 : w706.frozen? ⟨g705, 7, none⟩ = false := blk_fz (HS.out.at1) 7) | ((with_reducible refine gate_store (t := 38) (p := 3) rfl ?_); refine store_event (w1 := (World.setCell (World.setCell (World.setCell (World.setCell (World.setCell (World.setCell (World.setCell (World.setCell w706 ⟨g705, 0, none⟩ (.int .i64 t702.1)) ⟨g705, 1, none⟩ (.int .i64 t702.2.1)) ⟨g705, 2, none⟩ (.int .i64 t702.2.2.1)) ⟨g705, 3, none⟩ (.int .i64 t702.2.2.2.1)) ⟨g705, 4, none⟩ (.int .i64 t702.2.2.2.2.1)) ⟨g705, 5, none⟩ (.int .i64 t702.2.2.2.2.2.1)) ⟨g705, 6, none⟩ (.int .i64 t702.2.2.2.2.2.2.1)) ⟨g705, 7, none⟩ (.int .i64 t702.2.2.2.2.2.2.2.1))) rfl (t := 38) (p := 3) rfl rfl ?hr ?_; (case hr => first | (go_simp; done) | (go_simp; rfl)); intro w724 hst; clear hc708 hz709 hc710 hz711 hc712 hz713 hc714 hz715 hc716 hz717 hc718 hz719 hc720 hz721 hc722 hz723; have hq0 : Sep (fps []) w [blk g176 #[.int .i64 a172, .int .i64 a173, .int .i64 a174, .int .i64 a175] 32, blk g705 #[.int .i64 t702.1, .int .i64 0, .int .i64 0, .int .i64 0, .int .i64 0, .int .i64 0, .int .i64 0, .int .i64 0] 38] (World.setCell w706 ⟨g705, 0, none⟩ (.int .i64 t702.1)) := (HS.out).set1 (l1 := [blk g176 #[.int .i64 a172, .int .i64 a173, .int .i64 a174, .int .i64 a175] 32]) (l2 := []) 0 (.int .i64 t702.1); have hq1 : Sep (fps []) w [blk g176 #[.int .i64 a172, .int .i64 a173, .int .i64 a174, .int .i64 a175] 32, blk g705 #[.int .i64 t702.1, .int .i64 t702.2.1, .int .i64 0, .int .i64 0, .int .i64 0, .int .i64 0, .int .i64 0, .int .i64 0] 38] (World.setCell (World.setCell w706 ⟨g705, 0, none⟩ (.int .i64 t702.1)) ⟨g705, 1, none⟩ (.int .i64 t702.2.1)) := (hq0).set1 (l1 := [blk g176 #[.int .i64 a172, .int .i64 a173, .int .i64 a174, .int .i64 a175] 32]) (l2 := []) 1 (.int .i64 t702.2.1); have hq2 : Sep (fps []) w [blk g176 #[.int .i64 a172, .int .i64 a173, .int .i64 a174, .int .i64 a175] 32, blk g705 #[.int .i64 t702.1, .int .i64 t702.2.1, .int .i64 t702.2.2.1, .int .i64 0, .int .i64 0, .int .i64 0, .int .i64 0, .int .i64 0] 38] (World.setCell (World.setCell (World.setCell w706 ⟨g705, 0, none⟩ (.int .i64 t702.1)) ⟨g705, 1, none⟩ (.int .i64 t702.2.1)) ⟨g705, 2, none⟩ (.int .i64 t702.2.2.1)) := (hq1).set1 (l1 := [blk g176 #[.int .i64 a172, .int .i64 a173, .int .i64 a174, .int .i64 a175] 32]) (l2 := []) 2 (.int .i64 t702.2.2.1); have hq3 : Sep (fps []) w [blk g176 #[.int .i64 a172, .int .i64 a173, .int .i64 a174, .int .i64 a175] 32, blk g705 #[.int .i64 t702.1, .int .i64 t702.2.1, .int .i64 t702.2.2.1, .int .i64 t702.2.2.2.1, .int .i64 0, .int .i64 0, .int .i64 0, .int .i64 0] 38] (World.setCell (World.setCell (World.setCell (World.setCell w706 ⟨g705, 0, none⟩ (.int .i64 t702.1)) ⟨g705, 1, none⟩ (.int .i64 t702.2.1)) ⟨g705, 2, none⟩ (.int .i64 t702.2.2.1)) ⟨g705, 3, none⟩ (.int .i64 t702.2.2.2.1)) := (hq2).set1 (l1 := [blk g176 #[.int .i64 a172, .int .i64 a173, .int .i64 a174, .int .i64 a175] 32]) (l2 := []) 3 (.int .i64 t702.2.2.2.1); have hq4 : Sep (fps []) w [blk g176 #[.int .i64 a172, .int .i64 a173, .int .i64 a174, .int .i64 a175] 32, blk g705 #[.int .i64 t702.1, .int .i64 t702.2.1, .int .i64 t702.2.2.1, .int .i64 t702.2.2.2.1, .int .i64 t702.2.2.2.2.1, .int .i64 0, .int .i64 0, .int .i64 0] 38] (World.setCell (World.setCell (World.setCell (World.setCell (World.setCell w706 ⟨g705, 0, none⟩ (.int .i64 t702.1)) ⟨g705, 1, none⟩ (.int .i64 t702.2.1)) ⟨g705, 2, none⟩ (.int .i64 t702.2.2.1)) ⟨g705, 3, none⟩ (.int .i64 t702.2.2.2.1)) ⟨g705, 4, none⟩ (.int .i64 t702.2.2.2.2.1)) := (hq3).set1 (l1 := [blk g176 #[.int .i64 a172, .int .i64 a173, .int .i64 a174, .int .i64 a175] 32]) (l2 := []) 4 (.int .i64 t702.2.2.2.2.1); have hq5 : Sep (fps []) w [blk g176 #[.int .i64 a172, .int .i64 a173, .int .i64 a174, .int .i64 a175] 32, blk g705 #[.int .i64 t702.1, .int .i64 t702.2.1, .int .i64 t702.2.2.1, .int .i64 t702.2.2.2.1, .int .i64 t702.2.2.2.2.1, .int .i64 t702.2.2.2.2.2.1, .int .i64 0, .int .i64 0] 38] (World.setCell (World.setCell (World.setCell (World.setCell (World.setCell (World.setCell w706 ⟨g705, 0, none⟩ (.int .i64 t702.1)) ⟨g705, 1, none⟩ (.int .i64 t702.2.1)) ⟨g705, 2, none⟩ (.int .i64 t702.2.2.1)) ⟨g705, 3, none⟩ (.int .i64 t702.2.2.2.1)) ⟨g705, 4, none⟩ (.int .i64 t702.2.2.2.2.1)) ⟨g705, 5, none⟩ (.int .i64 t702.2.2.2.2.2.1)) := (hq4).set1 (l1 := [blk g176 #[.int .i64 a172, .int .i64 a173, .int .i64 a174, .int .i64 a175] 32]) (l2 := []) 5 (.int .i64 t702.2.2.2.2.2.1); have hq6 : Sep (fps []) w [blk g176 #[.int .i64 a172, .int .i64 a173, .int .i64 a174, .int .i64 a175] 32, blk g705 #[.int .i64 t702.1, .int .i64 t702.2.1, .int .i64 t702.2.2.1, .int .i64 t702.2.2.2.1, .int .i64 t702.2.2.2.2.1, .int .i64 t702.2.2.2.2.2.1, .int .i64 t702.2.2.2.2.2.2.1, .int .i64 0] 38] (World.setCell (World.setCell (World.setCell (World.setCell (World.setCell (World.setCell (World.setCell w706 ⟨g705, 0, none⟩ (.int .i64 t702.1)) ⟨g705, 1, none⟩ (.int .i64 t702.2.1)) ⟨g705, 2, none⟩ (.int .i64 t702.2.2.1)) ⟨g705, 3, none⟩ (.int .i64 t702.2.2.2.1)) ⟨g705, 4, none⟩ (.int .i64 t702.2.2.2.2.1)) ⟨g705, 5, none⟩ (.int .i64 t702.2.2.2.2.2.1)) ⟨g705, 6, none⟩ (.int .i64 t702.2.2.2.2.2.2.1)) := (hq5).set1 (l1 := [blk g176 #[.int .i64 a172, .int .i64 a173, .int .i64 a174, .int .i64 a175] 32]) (l2 := []) 6 (.int .i64 t702.2.2.2.2.2.2.1); have hq7 : Sep (fps []) w [blk g176 #[.int .i64 a172, .int .i64 a173, .int .i64 a174, .int .i64 a175] 32, blk g705 #[.int .i64 t702.1, .int .i64 t702.2.1, .int .i64 t702.2.2.1, .int .i64 t702.2.2.2.1, .int .i64 t702.2.2.2.2.1, .int .i64 t702.2.2.2.2.2.1, .int .i64 t702.2.2.2.2.2.2.1, .int .i64 t702.2.2.2.2.2.2.2.1] 38] (World.setCell (World.setCell (World.setCell (World.setCell (World.setCell (World.setCell (World.setCell (World.setCell w706 ⟨g705, 0, none⟩ (.int .i64 t702.1)) ⟨g705, 1, none⟩ (.int .i64 t702.2.1)) ⟨g705, 2, none⟩ (.int .i64 t702.2.2.1)) ⟨g705, 3, none⟩ (.int .i64 t702.2.2.2.1)) ⟨g705, 4, none⟩ (.int .i64 t702.2.2.2.2.1)) ⟨g705, 5, none⟩ (.int .i64 t702.2.2.2.2.2.1)) ⟨g705, 6, none⟩ (.int .i64 t702.2.2.2.2.2.2.1)) ⟨g705, 7, none⟩ (.int .i64 t702.2.2.2.2.2.2.2.1)) := (hq6).set1 (l1 := [blk g176 #[.int .i64 a172, .int .i64 a173, .int .i64 a174, .int .i64 a175] 32]) (l2 := []) 7 (.int .i64 t702.2.2.2.2.2.2.2.1); have HS_ : Aside0 (Sep (fps []) w [blk g176 #[.int .i64 a172, .int .i64 a173, .int .i64 a174, .int .i64 a175] 32, blk g705 #[.int .i64 t702.1, .int .i64 t702.2.1, .int .i64 t702.2.2.1, .int .i64 t702.2.2.2.1, .int .i64 t702.2.2.2.2.1, .int .i64 t702.2.2.2.2.2.1, .int .i64 t702.2.2.2.2.2.2.1, .int .i64 t702.2.2.2.2.2.2.2.1] 38] w724) := ⟨by rw [hst]; exact hq7⟩; clear hq0 hq1 hq2 hq3 hq4 hq5 hq6 hq7; clear HS hst; have HS := HS_; clear HS_))
    go_ret
    rw [← some_eq H]
    exact ⟨(by first | rfl | (simp [IntKind.wrap_u32]; done)), (HS.out).keep (l := []) (rest := [blk g176 #[.int .i64 a172, .int .i64 a173, .int .i64 a174, .int .i64 a175] 32, blk g705 #[.int .i64 t702.1, .int .i64 t702.2.1, .int .i64 t702.2.2.1, .int .i64 t702.2.2.2.1, .int .i64 t702.2.2.2.2.1, .int .i64 t702.2.2.2.2.2.1, .int .i64 t702.2.2.2.2.2.2.1, .int .i64 t702.2.2.2.2.2.2.2.1] 38])⟩

set_option maxHeartbeats 4000000 in
set_option maxRecDepth 100000 in
theorem tune_LeastK_1.calls (k : Nat) (a157 : Int) (a160 : Int) (a161 : Int) (a162 : Int) (a163 : Int) (a166 : Int) (g158 : Nat) (g164 : Nat) (r : Bool) (w : World)  (HS : Aside0 (Sep (fps [blk g158 #[.int .i64 a160, .int .i64 a161, .int .i64 a162, .int .i64 a163] 32, blk g164 #[.int .i64 a166] 3]) w [blk g158 #[.int .i64 a160, .int .i64 a161, .int .i64 a162, .int .i64 a163] 32, blk g164 #[.int .i64 a166] 3] w)) (H : Aside0 (tune_LeastK_1.f k a157 a160 a161 a162 a163 a166 = some r)) :
    Calls Try.prog 49 #[.int .i64 a157, .pointer (some ⟨g158, 0, none⟩), .pointer (some ⟨g164, 0, none⟩)] w fun e w' => e = .returned (.bool r) ∧ Sep (fps [blk g158 #[.int .i64 a160, .int .i64 a161, .int .i64 a162, .int .i64 a163] 32, blk g164 #[.int .i64 a166] 3]) w [blk g158 #[.int .i64 a160, .int .i64 a161, .int .i64 a162, .int .i64 a163] 32, blk g164 #[.int .i64 a166] 3] w' := by
  unfold tune_LeastK_1.f at H
  go_enter Try.func49, Try.ntmps49
  go_wp2_with fail
  refine start_ (n := 8) (S := (fun w' => w'.cell? ⟨g158, 0, none⟩ = some (.int .i64 a160) ∧ w'.cell? ⟨g158, 1, none⟩ = some (.int .i64 a161) ∧ w'.cell? ⟨g158, 2, none⟩ = some (.int .i64 a162) ∧ w'.cell? ⟨g158, 3, none⟩ = some (.int .i64 a163) ∧ w'.cell? ⟨g164, 0, none⟩ = some (.int .i64 a166))) (ds := []) #[false, false, false, false, false, false, false, false] (by kernel_rfl) rfl rfl (⟨blk_cellv ((HS.out.drew).at0) 0 rfl, blk_cellv ((HS.out.drew).at0) 1 rfl, blk_cellv ((HS.out.drew).at0) 2 rfl, blk_cellv ((HS.out.drew).at0) 3 rfl, blk_cellv ((HS.out.drew).at1) 0 rfl⟩) (fun hHeld => ?_)
  have HS_ := Aside0.mk HS.out.drew
  clear HS
  generalize World.drew _ = w168 at HS_ hHeld ⊢
  have HS := HS_
  clear HS_
  refine pure_ (i := 1) (N := some 6) (v := ?_) (a' := ?_) #[false, true, false, false, false, false, false, false] rfl rfl (by kernel_rfl) (fun _ _ _ h => h) (Or.inl ⟨by rfl, ?_⟩) ?_ ?_
  rotate_left
  · intro w'
    go_simp
    with_reducible rfl
  rotate_left
  · simp only [Act.put, List.setIfInBounds_toArray, List.set_cons_zero, List.set_cons_succ, i64_w, i32_w]
    rfl
  refine pure_ (i := 2) (N := some 7) (v := ?_) (a' := ?_) #[false, true, true, false, false, false, false, false] rfl rfl (by kernel_rfl) (fun _ _ _ h => h) (Or.inl ⟨by rfl, ?_⟩) ?_ ?_
  rotate_left
  · intro w'
    go_simp
    with_reducible rfl
  rotate_left
  · simp only [Act.put, List.setIfInBounds_toArray, List.set_cons_zero, List.set_cons_succ, i64_w, i32_w]
    rfl
  refine take_ (i := 0) (N := some 5) (v := ?_) (a' := ?_) #[true, true, true, false, false, false, false, false] rfl rfl (by kernel_rfl) (fun _ _ _ h => h) (Or.inl ⟨by rfl, ?_⟩) hHeld ?_ ?_
  rotate_left
  · rintro w' hS'
    obtain ⟨s0, s1, s2, s3, s4⟩ := hS'
    go_simp
    with_reducible rfl
  rotate_left
  · simp only [Act.put, List.setIfInBounds_toArray, List.set_cons_zero, List.set_cons_succ, i64_w, i32_w]
    rfl
  refine take_ (i := 5) (N := some 10) (v := ?_) (a' := ?_) #[true, true, true, false, false, true, false, false] rfl rfl (by kernel_rfl) (fun _ _ _ h => h) (Or.inl ⟨by rfl, ?_⟩) hHeld ?_ ?_
  rotate_left
  · rintro w' hS'
    obtain ⟨s0, s1, s2, s3, s4⟩ := hS'
    go_simp
    with_reducible rfl
  rotate_left
  · simp only [Act.put, List.setIfInBounds_toArray, List.set_cons_zero, List.set_cons_succ, i64_w, i32_w]
    rfl
  refine one_ (i := 3) (N := some 8) #[true, true, true, true, false, true, false, false] rfl rfl (by kernel_rfl) (by decide) (fun K hK => ?_)
  obtain ⟨t169, HA170, H⟩ := bind_some H
  refine goes_ Try.func46 (by kernel_rfl) rfl #[.agg #[.int .i64 a160, .int .i64 a161, .int .i64 a162, .int .i64 a163], .int .i64 (wrap64 (a157 + 1))] (by rfl) rfl rfl (by (try simp only [List.map_toArray, List.map_cons, List.map_nil]); first | done | rfl) ?_
  refine (tune_with.calls a160 a161 a162 a163 (wrap64 (a157 + 1)) t169 _ ⟨HS.out.begin (l := []) (rest := [blk g158 #[.int .i64 a160, .int .i64 a161, .int .i64 a162, .int .i64 a163] 32, blk g164 #[.int .i64 a166] 3])⟩ HA170).mono ?_
  rintro e_ w171 ⟨rfl, hS⟩
  have HS_ : Aside0 (Sep (fps [blk g158 #[.int .i64 a160, .int .i64 a161, .int .i64 a162, .int .i64 a163] 32, blk g164 #[.int .i64 a166] 3]) w [blk g158 #[.int .i64 a160, .int .i64 a161, .int .i64 a162, .int .i64 a163] 32, blk g164 #[.int .i64 a166] 3] w171) := ⟨HS.out.call (l := []) (rest := [blk g158 #[.int .i64 a160, .int .i64 a161, .int .i64 a162, .int .i64 a163] 32, blk g164 #[.int .i64 a166] 3]) hS⟩
  clear HS hS
  have HS := HS_
  clear HS_
  refine ⟨_, rfl, ?_⟩
  refine hK.out _ _ (⟨blk_cellv (HS.out.at0) 0 rfl, blk_cellv (HS.out.at0) 1 rfl, blk_cellv (HS.out.at0) 2 rfl, blk_cellv (HS.out.at0) 3 rfl, blk_cellv (HS.out.at1) 0 rfl⟩) (fun hHeld => ?_)
  clear hK K
  refine norm_ (a' := ?_) ?_ ?_
  rotate_left
  · show Act.put _ (some 8) _ = _
    simp only [Act.put, List.setIfInBounds_toArray, List.set_cons_zero, List.set_cons_succ, i64_w, i32_w]
    rfl
  refine one_ (i := 4) (N := some 9) #[true, true, true, true, true, true, false, false] rfl rfl (by kernel_rfl) (by decide) (fun K hK => ?_)
  obtain ⟨t729, HA730, H⟩ := bind_some H
  refine goes_ Try.func50 (by kernel_rfl) rfl #[.agg #[.int .i64 t169.1, .int .i64 t169.2.1, .int .i64 t169.2.2.1, .int .i64 t169.2.2.2]] (by rfl) rfl rfl (by (try simp only [List.map_toArray, List.map_cons, List.map_nil]); first | done | rfl) ?_
  refine (twin_Spare.calls _ t169.1 t169.2.1 t169.2.2.1 t169.2.2.2 t729 _ ⟨HS.out.begin (l := []) (rest := [blk g158 #[.int .i64 a160, .int .i64 a161, .int .i64 a162, .int .i64 a163] 32, blk g164 #[.int .i64 a166] 3])⟩ HA730).mono ?_
  rintro e_ w731 ⟨rfl, hS⟩
  have HS_ : Aside0 (Sep (fps [blk g158 #[.int .i64 a160, .int .i64 a161, .int .i64 a162, .int .i64 a163] 32, blk g164 #[.int .i64 a166] 3]) w [blk g158 #[.int .i64 a160, .int .i64 a161, .int .i64 a162, .int .i64 a163] 32, blk g164 #[.int .i64 a166] 3] w731) := ⟨HS.out.call (l := []) (rest := [blk g158 #[.int .i64 a160, .int .i64 a161, .int .i64 a162, .int .i64 a163] 32, blk g164 #[.int .i64 a166] 3]) hS⟩
  clear HS hS
  have HS := HS_
  clear HS_
  refine ⟨_, rfl, ?_⟩
  refine hK.out _ _ (⟨blk_cellv (HS.out.at0) 0 rfl, blk_cellv (HS.out.at0) 1 rfl, blk_cellv (HS.out.at0) 2 rfl, blk_cellv (HS.out.at0) 3 rfl, blk_cellv (HS.out.at1) 0 rfl⟩) (fun hHeld => ?_)
  clear hK K
  refine norm_ (a' := ?_) ?_ ?_
  rotate_left
  · show Act.put _ (some 9) _ = _
    simp only [Act.put, List.setIfInBounds_toArray, List.set_cons_zero, List.set_cons_succ, i64_w, i32_w]
    rfl
  refine pure_ (i := 6) (N := some 11) (v := ?_) (a' := ?_) #[true, true, true, true, true, true, true, false] rfl rfl (by kernel_rfl) (fun _ _ _ h => h) (Or.inl ⟨by rfl, ?_⟩) ?_ ?_
  rotate_left
  · intro w'
    go_simp
    with_reducible rfl
  rotate_left
  · simp only [Act.put, List.setIfInBounds_toArray, List.set_cons_zero, List.set_cons_succ, i64_w, i32_w]
    rfl
  refine pure_ (i := 7) (N := some 4) (v := ?_) (a' := ?_) #[true, true, true, true, true, true, true, true] rfl rfl (by kernel_rfl) (fun _ _ _ h => h) (Or.inl ⟨by rfl, ?_⟩) ?_ ?_
  rotate_left
  · intro w'
    go_simp
    with_reducible rfl
  rotate_left
  · simp only [Act.put, List.setIfInBounds_toArray, List.set_cons_zero, List.set_cons_succ, i64_w, i32_w]
    rfl
  refine done_ (by kernel_rfl) ?_
  go_wp2_with fail
  go_ret
  rw [← some_eq H]
  exact ⟨(by first | rfl | (simp [IntKind.wrap_u32]; done)), (((HS.out).front 1 (by simp)).front 1 (by simp)).keep (l := [blk g158 #[.int .i64 a160, .int .i64 a161, .int .i64 a162, .int .i64 a163] 32, blk g164 #[.int .i64 a166] 3]) (rest := [])⟩

set_option maxHeartbeats 4000000 in
set_option maxRecDepth 100000 in
theorem sort_Search.calls (k : Nat) (a139 : Int) (a142 : Int) (a143 : Int) (a144 : Int) (a145 : Int) (a148 : Int) (g140 : Nat) (g146 : Nat) (r : Int) (w : World)  (HS : Aside0 (Sep (fps [blk g140 #[.int .i64 a142, .int .i64 a143, .int .i64 a144, .int .i64 a145] 32, blk g146 #[.int .i64 a148] 3]) w [blk g140 #[.int .i64 a142, .int .i64 a143, .int .i64 a144, .int .i64 a145] 32, blk g146 #[.int .i64 a148] 3] w)) (H : Aside0 (sort_Search.f k a139 a142 a143 a144 a145 a148 = some r)) :
    Calls Try.prog 48 #[.int .i64 a139, .func (.func 49) #[] #[.pointer (some ⟨g140, 0, none⟩), .pointer (some ⟨g146, 0, none⟩)]] w fun e w' => e = .returned (.int .i64 r) ∧ Sep (fps [blk g140 #[.int .i64 a142, .int .i64 a143, .int .i64 a144, .int .i64 a145] 32, blk g146 #[.int .i64 a148] 3]) w [blk g140 #[.int .i64 a142, .int .i64 a143, .int .i64 a144, .int .i64 a145] 32, blk g146 #[.int .i64 a148] 3] w' := by
  unfold sort_Search.f at H
  go_enter Try.func48, Try.ntmps48
  go_wp2_with fail
  obtain ⟨o150, AL151, H⟩ := bind_some H
  go_loopg [5, 6] k (fun kq v5 v6 wc => ∃ (x154 : Int) (x155 : Int), v5 = .int .i64 x154 ∧ v6 = .int .i64 x155 ∧ Aside0 (sort_Search.lo0 kq a142 a143 a144 a145 a148 x154 x155 = some o150) ∧ Aside0 (Sep (fps [blk g140 #[.int .i64 a142, .int .i64 a143, .int .i64 a144, .int .i64 a145] 32, blk g146 #[.int .i64 a148] 3]) w [blk g140 #[.int .i64 a142, .int .i64 a143, .int .i64 a144, .int .i64 a145] 32, blk g146 #[.int .i64 a148] 3] wc))
  case atStart => exact ⟨(0), (a139), (by first | rfl | (simp [IntKind.wrap_u32]; done)), (by first | rfl | (simp [IntKind.wrap_u32]; done)), AL151, ⟨HS.out⟩⟩
  case round =>
    clear AL151 HS
    obtain ⟨x154, x155, rfl, rfl, AL151, HS⟩ := hrel
    obtain ⟨w152, rfl⟩ : ∃ x : World, x = wr := ⟨_, rfl⟩
    cases gk with
    | zero => exact absurd AL151.out (by simp [sort_Search.lo0])
    | succ k153 =>
      have AL0 := AL151.out
      rw [sort_Search.lo0] at AL0
      clear AL151
      have AL151 := Aside0.mk AL0
      clear AL0
      by_cases c156 : x154 < x155
      · have AL151 := if_yes c156 AL151
        have c156b0 : decide (x154 < x155) = true := decide_eq_true c156
        clear c156
        go_wp2_with fail
        have HS_ : Aside0 (Sep (fps [blk g140 #[.int .i64 a142, .int .i64 a143, .int .i64 a144, .int .i64 a145] 32, blk g146 #[.int .i64 a148] 3]) w [blk g146 #[.int .i64 a148] 3, blk g140 #[.int .i64 a142, .int .i64 a143, .int .i64 a144, .int .i64 a145] 32] w152) := ⟨HS.out.front 1 (by simp)⟩
        clear HS
        have HS := HS_
        clear HS_
        have HS_ : Aside0 (Sep (fps [blk g140 #[.int .i64 a142, .int .i64 a143, .int .i64 a144, .int .i64 a145] 32, blk g146 #[.int .i64 a148] 3]) w [blk g140 #[.int .i64 a142, .int .i64 a143, .int .i64 a144, .int .i64 a145] 32, blk g146 #[.int .i64 a148] 3] w152) := ⟨HS.out.front 1 (by simp)⟩
        clear HS
        have HS := HS_
        clear HS_
        obtain ⟨t732, HA733, AL151⟩ := bind_some AL151
        refine (tune_LeastK_1.calls _ (wrap64 ((IntKind.u64.wrap (wrap64 (x154 + x155))) / 2)) a142 a143 a144 a145 a148 g140 g146 t732 _ ⟨HS.out.begin (l := [blk g140 #[.int .i64 a142, .int .i64 a143, .int .i64 a144, .int .i64 a145] 32, blk g146 #[.int .i64 a148] 3]) (rest := [])⟩ HA733).mono ?_
        rintro e_ w734 ⟨rfl, hS⟩
        have HS_ : Aside0 (Sep (fps [blk g140 #[.int .i64 a142, .int .i64 a143, .int .i64 a144, .int .i64 a145] 32, blk g146 #[.int .i64 a148] 3]) w [blk g140 #[.int .i64 a142, .int .i64 a143, .int .i64 a144, .int .i64 a145] 32, blk g146 #[.int .i64 a148] 3] w734) := ⟨HS.out.call (l := [blk g140 #[.int .i64 a142, .int .i64 a143, .int .i64 a144, .int .i64 a145] 32, blk g146 #[.int .i64 a148] 3]) (rest := []) hS⟩
        clear HS hS
        have HS := HS_
        clear HS_
        by_cases c735 : t732 = true
        · have AL151 := if_yes c735 AL151
          have c735b0 : t732 = true := c735
          clear c735
          go_wp2_with fail
          go_roundg k153
          case measure => exact Nat.lt_succ_self _
          case rel => exact ⟨(x154), (wrap64 ((IntKind.u64.wrap (wrap64 (x154 + x155))) / 2)), (by first | rfl | (simp [IntKind.wrap_u32]; done)), (by first | rfl | (simp [IntKind.wrap_u32]; done)), Aside0.mk AL151.out, ⟨(((HS.out).front 1 (by simp)).front 1 (by simp)).keep (l := [blk g140 #[.int .i64 a142, .int .i64 a143, .int .i64 a144, .int .i64 a145] 32, blk g146 #[.int .i64 a148] 3]) (rest := [])⟩⟩
        · have AL151 := if_no c735 AL151
          have c735b0 : t732 = false := by simpa using c735
          clear c735
          go_wp2_with fail
          go_roundg k153
          case measure => exact Nat.lt_succ_self _
          case rel => exact ⟨(wrap64 ((wrap64 ((IntKind.u64.wrap (wrap64 (x154 + x155))) / 2)) + 1)), (x155), (by first | rfl | (simp [IntKind.wrap_u32]; done)), (by first | rfl | (simp [IntKind.wrap_u32]; done)), Aside0.mk AL151.out, ⟨(((HS.out).front 1 (by simp)).front 1 (by simp)).keep (l := [blk g140 #[.int .i64 a142, .int .i64 a143, .int .i64 a144, .int .i64 a145] 32, blk g146 #[.int .i64 a148] 3]) (rest := [])⟩⟩
      · have AL151 := if_no c156 AL151
        have c156b0 : decide (x154 < x155) = false := decide_eq_false c156
        clear c156
        have ho := some_eq AL151
        subst ho
        clear AL151
        go_wp2_with fail
        go_ret
        rw [← some_eq H]
        exact ⟨(by first | rfl | (simp [IntKind.wrap_u32]; done)), (((HS.out).front 1 (by simp)).front 1 (by simp)).keep (l := [blk g140 #[.int .i64 a142, .int .i64 a143, .int .i64 a144, .int .i64 a145] 32, blk g146 #[.int .i64 a148] 3]) (rest := [])⟩

set_option maxHeartbeats 4000000 in
set_option maxRecDepth 100000 in
theorem tune_LeastK.calls (k : Nat) (a31 : Int) (a32 : Int) (a33 : Int) (a34 : Int) (a35 : Int) (r : Int × Bool) (w : World)  (HS : Aside0 (Sep (fps []) w [] w)) (H : Aside0 (tune_LeastK.f k a31 a32 a33 a34 a35 = some r)) :
    Calls Try.prog 27 #[.agg #[.int .i64 a31, .int .i64 a32, .int .i64 a33, .int .i64 a34], .int .i64 a35] w fun e w' => e = .returned (.tuple #[.int .i64 r.1, .bool r.2]) ∧ Sep (fps []) w [] w' := by
  unfold tune_LeastK.f at H
  go_enter Try.func27, Try.ntmps27
  go_wp2_with (first | ((with_reducible refine gate_dst (N := 2) rfl ?_); refine box_on ?hg (N := 2) ?hd (cs := #[.int .i64 a31, .int .i64 a32, .int .i64 a33, .int .i64 a34]) (t := 32) ?hr ?_; (case hd => rfl); (case hg => rfl); (case hr => first | (go_simp; done) | (go_simp; rfl)); intro g36 hg w37 hbox hb; have HS_ : Aside0 (Sep (fps []) w [blk g36 #[.int .i64 a31, .int .i64 a32, .int .i64 a33, .int .i64 a34] 32] w37) := ⟨HS.out.box hg hbox hb⟩; clear HS hg hbox hb; have HS := HS_; clear HS_) | ((with_reducible refine gate_dst (N := 3) rfl ?_); refine box_on ?hg (N := 3) ?hd (cs := #[.int .i64 a35]) (t := 3) ?hr ?_; (case hd => rfl); (case hg => rfl); (case hr => first | (go_simp; done) | (go_simp; rfl)); intro g39 hg w40 hbox hb; have HS_ : Aside0 (Sep (fps []) w [blk g36 #[.int .i64 a31, .int .i64 a32, .int .i64 a33, .int .i64 a34] 32, blk g39 #[.int .i64 a35] 3] w40) := ⟨HS.out.box hg hbox hb⟩; clear HS hg hbox hb; have HS := HS_; clear HS_; have hc42 : w40.cell? ⟨g36, 0, none⟩ = some (.int .i64 a31) := blk_cellv (HS.out.at0) 0 rfl; have hc43 : w40.cell? ⟨g36, 1, none⟩ = some (.int .i64 a32) := blk_cellv (HS.out.at0) 1 rfl; have hc44 : w40.cell? ⟨g36, 2, none⟩ = some (.int .i64 a33) := blk_cellv (HS.out.at0) 2 rfl; have hc45 : w40.cell? ⟨g36, 3, none⟩ = some (.int .i64 a34) := blk_cellv (HS.out.at0) 3 rfl))
  clear hc42 hc43 hc44 hc45
  obtain ⟨t77, HA78, H⟩ := bind_some H
  refine (tune_with.calls a31 a32 a33 a34 1 t77 _ ⟨HS.out.begin (l := []) (rest := [blk g36 #[.int .i64 a31, .int .i64 a32, .int .i64 a33, .int .i64 a34] 32, blk g39 #[.int .i64 a35] 3])⟩ HA78).mono ?_
  rintro e_ w79 ⟨rfl, hS⟩
  have HS_ : Aside0 (Sep (fps []) w [blk g36 #[.int .i64 a31, .int .i64 a32, .int .i64 a33, .int .i64 a34] 32, blk g39 #[.int .i64 a35] 3] w79) := ⟨HS.out.call (l := []) (rest := [blk g36 #[.int .i64 a31, .int .i64 a32, .int .i64 a33, .int .i64 a34] 32, blk g39 #[.int .i64 a35] 3]) hS⟩
  clear HS hS
  have HS := HS_
  clear HS_
  go_wp2_with fail
  obtain ⟨t135, HA136, H⟩ := bind_some H
  refine (tune_may.calls t77.1 t77.2.1 t77.2.2.1 t77.2.2.2 t135 _ ⟨HS.out.begin (l := []) (rest := [blk g36 #[.int .i64 a31, .int .i64 a32, .int .i64 a33, .int .i64 a34] 32, blk g39 #[.int .i64 a35] 3])⟩ HA136).mono ?_
  rintro e_ w137 ⟨rfl, hS⟩
  have HS_ : Aside0 (Sep (fps []) w [blk g36 #[.int .i64 a31, .int .i64 a32, .int .i64 a33, .int .i64 a34] 32, blk g39 #[.int .i64 a35] 3] w137) := ⟨HS.out.call (l := []) (rest := [blk g36 #[.int .i64 a31, .int .i64 a32, .int .i64 a33, .int .i64 a34] 32, blk g39 #[.int .i64 a35] 3]) hS⟩
  clear HS hS
  have HS := HS_
  clear HS_
  by_cases c138 : t135 = true
  · have H := if_yes c138 H
    have c138b0 : t135 = true := c138
    clear c138
    go_wp2_with fail
    have HS_ : Aside0 (Sep (fps []) w [blk g39 #[.int .i64 a35] 3, blk g36 #[.int .i64 a31, .int .i64 a32, .int .i64 a33, .int .i64 a34] 32] w137) := ⟨HS.out.front 1 (by simp)⟩
    clear HS
    have HS := HS_
    clear HS_
    have HS_ : Aside0 (Sep (fps []) w [blk g36 #[.int .i64 a31, .int .i64 a32, .int .i64 a33, .int .i64 a34] 32, blk g39 #[.int .i64 a35] 3] w137) := ⟨HS.out.front 1 (by simp)⟩
    clear HS
    have HS := HS_
    clear HS_
    obtain ⟨t737, HA738, H⟩ := bind_some H
    refine (sort_Search.calls _ 65536 a31 a32 a33 a34 a35 g36 g39 t737 _ ⟨HS.out.begin (l := [blk g36 #[.int .i64 a31, .int .i64 a32, .int .i64 a33, .int .i64 a34] 32, blk g39 #[.int .i64 a35] 3]) (rest := [])⟩ HA738).mono ?_
    rintro e_ w739 ⟨rfl, hS⟩
    have HS_ : Aside0 (Sep (fps []) w [blk g36 #[.int .i64 a31, .int .i64 a32, .int .i64 a33, .int .i64 a34] 32, blk g39 #[.int .i64 a35] 3] w739) := ⟨HS.out.call (l := [blk g36 #[.int .i64 a31, .int .i64 a32, .int .i64 a33, .int .i64 a34] 32, blk g39 #[.int .i64 a35] 3]) (rest := []) hS⟩
    clear HS hS
    have HS := HS_
    clear HS_
    by_cases c740 : (wrap64 (1 + t737)) > 65536
    · have H := if_yes c740 H
      have c740b0 : decide (65536 < (wrap64 (1 + t737))) = true := decide_eq_true c740
      clear c740
      go_wp2_with fail
      go_ret2
      rw [← some_eq H]
      exact ⟨(by first | rfl | (simp [IntKind.wrap_u32]; done)), (HS.out).keep (l := []) (rest := [blk g36 #[.int .i64 a31, .int .i64 a32, .int .i64 a33, .int .i64 a34] 32, blk g39 #[.int .i64 a35] 3])⟩
    · have H := if_no c740 H
      have c740b0 : decide (65536 < (wrap64 (1 + t737))) = false := decide_eq_false c740
      clear c740
      go_wp2_with fail
      go_ret2
      rw [← some_eq H]
      exact ⟨(by first | rfl | (simp [IntKind.wrap_u32]; done)), (HS.out).keep (l := []) (rest := [blk g36 #[.int .i64 a31, .int .i64 a32, .int .i64 a33, .int .i64 a34] 32, blk g39 #[.int .i64 a35] 3])⟩
  · have H := if_no c138 H
    have c138b0 : t135 = false := by simpa using c138
    clear c138
    go_wp2_with fail
    go_ret2
    rw [← some_eq H]
    exact ⟨(by first | rfl | (simp [IntKind.wrap_u32]; done)), (HS.out).keep (l := []) (rest := [blk g36 #[.int .i64 a31, .int .i64 a32, .int .i64 a33, .int .i64 a34] 32, blk g39 #[.int .i64 a35] 3])⟩

set_option maxHeartbeats 4000000 in
set_option maxRecDepth 100000 in
theorem plan_Pause.calls (k : Nat) (a845 : Int) (a846 : Int) (a847 : Int) (a848 : Int) (a849 : Int) (a850 : Int) (r : Int) (w : World)  (HS : Aside0 (Sep (fps []) w [] w)) (H : Aside0 (plan_Pause.f k a845 a846 a847 a848 a849 a850 = some r)) :
    Calls Try.prog 18 #[.agg #[.int .i64 a845, .int .i64 a846, .int .i64 a847, .int .i64 a848], .int .i64 a849, .int .i64 a850] w fun e w' => e = .returned (.int .i64 r) ∧ Sep (fps []) w [] w' := by
  unfold plan_Pause.f at H
  go_enter Try.func18, Try.ntmps18
  go_wp2_with (first | ((with_reducible refine gate_dst (N := 3) rfl ?_); refine box_on ?hg (N := 3) ?hd (cs := #[.int .i64 a845, .int .i64 a846, .int .i64 a847, .int .i64 a848]) (t := 32) ?hr ?_; (case hd => rfl); (case hg => rfl); (case hr => first | (go_simp; done) | (go_simp; rfl)); intro g851 hg w852 hbox hb; have HS_ : Aside0 (Sep (fps []) w [blk g851 #[.int .i64 a845, .int .i64 a846, .int .i64 a847, .int .i64 a848] 32] w852) := ⟨HS.out.box hg hbox hb⟩; clear HS hg hbox hb; have HS := HS_; clear HS_; have hc854 : w852.cell? ⟨g851, 0, none⟩ = some (.int .i64 a845) := blk_cellv (HS.out.at0) 0 rfl; have hc855 : w852.cell? ⟨g851, 1, none⟩ = some (.int .i64 a846) := blk_cellv (HS.out.at0) 1 rfl; have hc856 : w852.cell? ⟨g851, 2, none⟩ = some (.int .i64 a847) := blk_cellv (HS.out.at0) 2 rfl; have hc857 : w852.cell? ⟨g851, 3, none⟩ = some (.int .i64 a848) := blk_cellv (HS.out.at0) 3 rfl))
  clear hc854 hc855 hc856 hc857
  obtain ⟨t858, HA859, H⟩ := bind_some H
  refine (plan_Of.calls _ a845 a846 a847 a848 t858 _ ⟨HS.out.begin (l := []) (rest := [blk g851 #[.int .i64 a845, .int .i64 a846, .int .i64 a847, .int .i64 a848] 32])⟩ HA859).mono ?_
  rintro e_ w860 ⟨rfl, hS⟩
  have HS_ : Aside0 (Sep (fps []) w [blk g851 #[.int .i64 a845, .int .i64 a846, .int .i64 a847, .int .i64 a848] 32] w860) := ⟨HS.out.call (l := []) (rest := [blk g851 #[.int .i64 a845, .int .i64 a846, .int .i64 a847, .int .i64 a848] 32]) hS⟩
  clear HS hS
  have HS := HS_
  clear HS_
  by_cases c881 : t858.2.2.2.2.2.2.2.2 = 0
  · have H := if_yes c881 H
    have c881b0 : (t858.2.2.2.2.2.2.2.2 == 0) = true := beq_iff_eq.mpr c881
    have c881b1 : (t858.2.2.2.2.2.2.2.2 != 0) = false := bne_eq_false_iff_eq.mpr c881
    clear c881
    go_wp2_with (first | ((with_reducible refine gate_dst (N := 7) rfl ?_); refine box_on ?hg (N := 7) ?hd (cs := #[.int .i64 0, .int .i64 0, .int .i64 0, .int .i64 0, .int .i64 0, .int .i64 0, .int .i64 0, .int .i64 0]) (t := 38) ?hr ?_; (case hd => rfl); (case hg => rfl); (case hr => first | (go_simp; done) | (go_simp; rfl)); intro g861 hg w862 hbox hb; have HS_ : Aside0 (Sep (fps []) w [blk g851 #[.int .i64 a845, .int .i64 a846, .int .i64 a847, .int .i64 a848] 32, blk g861 #[.int .i64 0, .int .i64 0, .int .i64 0, .int .i64 0, .int .i64 0, .int .i64 0, .int .i64 0, .int .i64 0] 38] w862) := ⟨HS.out.box hg hbox hb⟩; clear HS hg hbox hb; have HS := HS_; clear HS_; have hc864 : w862.cell? ⟨g861, 0, none⟩ = some (.int .i64 0) := blk_cellv (HS.out.at1) 0 rfl; have hz865 : w862.frozen? ⟨g861, 0, none⟩ = false := blk_fz (HS.out.at1) 0; have hc866 : w862.cell? ⟨g861, 1, none⟩ = some (.int .i64 0) := blk_cellv (HS.out.at1) 1 rfl; have hz867 : w862.frozen? ⟨g861, 1, none⟩ = false := blk_fz (HS.out.at1) 1; have hc868 : w862.cell? ⟨g861, 2, none⟩ = some (.int .i64 0) := blk_cellv (HS.out.at1) 2 rfl; have hz869 : w862.frozen? ⟨g861, 2, none⟩ = false := blk_fz (HS.out.at1) 2; have hc870 : w862.cell? ⟨g861, 3, none⟩ = some (.int .i64 0) := blk_cellv (HS.out.at1) 3 rfl; have hz871 : w862.frozen? ⟨g861, 3, none⟩ = false := blk_fz (HS.out.at1) 3; have hc872 : w862.cell? ⟨g861, 4, none⟩ = some (.int .i64 0) := blk_cellv (HS.out.at1) 4 rfl; have hz873 : w862.frozen? ⟨g861, 4, none⟩ = false := blk_fz (HS.out.at1) 4; have hc874 : w862.cell? ⟨g861, 5, none⟩ = some (.int .i64 0) := blk_cellv (HS.out.at1) 5 rfl; have hz875 : w862.frozen? ⟨g861, 5, none⟩ = false := blk_fz (HS.out.at1) 5; have hc876 : w862.cell? ⟨g861, 6, none⟩ = some (.int .i64 0) := blk_cellv (HS.out.at1) 6 rfl; have hz877 : w862.frozen? ⟨g861, 6, none⟩ = false := blk_fz (HS.out.at1) 6; have hc878 : w862.cell? ⟨g861, 7, none⟩ = some (.int .i64 0) := blk_cellv (HS.out.at1) 7 rfl; have hz879 : w862.frozen? ⟨g861, 7, none⟩ = false := blk_fz (HS.out.at1) 7) | ((with_reducible refine gate_store (t := 38) (p := 7) rfl ?_); refine store_event (w1 := (World.setCell (World.setCell (World.setCell (World.setCell (World.setCell (World.setCell (World.setCell (World.setCell w862 ⟨g861, 0, none⟩ (.int .i64 t858.1)) ⟨g861, 1, none⟩ (.int .i64 t858.2.1)) ⟨g861, 2, none⟩ (.int .i64 t858.2.2.1)) ⟨g861, 3, none⟩ (.int .i64 t858.2.2.2.1)) ⟨g861, 4, none⟩ (.int .i64 t858.2.2.2.2.1)) ⟨g861, 5, none⟩ (.int .i64 t858.2.2.2.2.2.1)) ⟨g861, 6, none⟩ (.int .i64 t858.2.2.2.2.2.2.1)) ⟨g861, 7, none⟩ (.int .i64 t858.2.2.2.2.2.2.2.1))) rfl (t := 38) (p := 7) rfl rfl ?hr ?_; (case hr => first | (go_simp; done) | (go_simp; rfl)); intro w880 hst; clear hc864 hz865 hc866 hz867 hc868 hz869 hc870 hz871 hc872 hz873 hc874 hz875 hc876 hz877 hc878 hz879; have hq0 : Sep (fps []) w [blk g851 #[.int .i64 a845, .int .i64 a846, .int .i64 a847, .int .i64 a848] 32, blk g861 #[.int .i64 t858.1, .int .i64 0, .int .i64 0, .int .i64 0, .int .i64 0, .int .i64 0, .int .i64 0, .int .i64 0] 38] (World.setCell w862 ⟨g861, 0, none⟩ (.int .i64 t858.1)) := (HS.out).set1 (l1 := [blk g851 #[.int .i64 a845, .int .i64 a846, .int .i64 a847, .int .i64 a848] 32]) (l2 := []) 0 (.int .i64 t858.1); have hq1 : Sep (fps []) w [blk g851 #[.int .i64 a845, .int .i64 a846, .int .i64 a847, .int .i64 a848] 32, blk g861 #[.int .i64 t858.1, .int .i64 t858.2.1, .int .i64 0, .int .i64 0, .int .i64 0, .int .i64 0, .int .i64 0, .int .i64 0] 38] (World.setCell (World.setCell w862 ⟨g861, 0, none⟩ (.int .i64 t858.1)) ⟨g861, 1, none⟩ (.int .i64 t858.2.1)) := (hq0).set1 (l1 := [blk g851 #[.int .i64 a845, .int .i64 a846, .int .i64 a847, .int .i64 a848] 32]) (l2 := []) 1 (.int .i64 t858.2.1); have hq2 : Sep (fps []) w [blk g851 #[.int .i64 a845, .int .i64 a846, .int .i64 a847, .int .i64 a848] 32, blk g861 #[.int .i64 t858.1, .int .i64 t858.2.1, .int .i64 t858.2.2.1, .int .i64 0, .int .i64 0, .int .i64 0, .int .i64 0, .int .i64 0] 38] (World.setCell (World.setCell (World.setCell w862 ⟨g861, 0, none⟩ (.int .i64 t858.1)) ⟨g861, 1, none⟩ (.int .i64 t858.2.1)) ⟨g861, 2, none⟩ (.int .i64 t858.2.2.1)) := (hq1).set1 (l1 := [blk g851 #[.int .i64 a845, .int .i64 a846, .int .i64 a847, .int .i64 a848] 32]) (l2 := []) 2 (.int .i64 t858.2.2.1); have hq3 : Sep (fps []) w [blk g851 #[.int .i64 a845, .int .i64 a846, .int .i64 a847, .int .i64 a848] 32, blk g861 #[.int .i64 t858.1, .int .i64 t858.2.1, .int .i64 t858.2.2.1, .int .i64 t858.2.2.2.1, .int .i64 0, .int .i64 0, .int .i64 0, .int .i64 0] 38] (World.setCell (World.setCell (World.setCell (World.setCell w862 ⟨g861, 0, none⟩ (.int .i64 t858.1)) ⟨g861, 1, none⟩ (.int .i64 t858.2.1)) ⟨g861, 2, none⟩ (.int .i64 t858.2.2.1)) ⟨g861, 3, none⟩ (.int .i64 t858.2.2.2.1)) := (hq2).set1 (l1 := [blk g851 #[.int .i64 a845, .int .i64 a846, .int .i64 a847, .int .i64 a848] 32]) (l2 := []) 3 (.int .i64 t858.2.2.2.1); have hq4 : Sep (fps []) w [blk g851 #[.int .i64 a845, .int .i64 a846, .int .i64 a847, .int .i64 a848] 32, blk g861 #[.int .i64 t858.1, .int .i64 t858.2.1, .int .i64 t858.2.2.1, .int .i64 t858.2.2.2.1, .int .i64 t858.2.2.2.2.1, .int .i64 0, .int .i64 0, .int .i64 0] 38] (World.setCell (World.setCell (World.setCell (World.setCell (World.setCell w862 ⟨g861, 0, none⟩ (.int .i64 t858.1)) ⟨g861, 1, none⟩ (.int .i64 t858.2.1)) ⟨g861, 2, none⟩ (.int .i64 t858.2.2.1)) ⟨g861, 3, none⟩ (.int .i64 t858.2.2.2.1)) ⟨g861, 4, none⟩ (.int .i64 t858.2.2.2.2.1)) := (hq3).set1 (l1 := [blk g851 #[.int .i64 a845, .int .i64 a846, .int .i64 a847, .int .i64 a848] 32]) (l2 := []) 4 (.int .i64 t858.2.2.2.2.1); have hq5 : Sep (fps []) w [blk g851 #[.int .i64 a845, .int .i64 a846, .int .i64 a847, .int .i64 a848] 32, blk g861 #[.int .i64 t858.1, .int .i64 t858.2.1, .int .i64 t858.2.2.1, .int .i64 t858.2.2.2.1, .int .i64 t858.2.2.2.2.1, .int .i64 t858.2.2.2.2.2.1, .int .i64 0, .int .i64 0] 38] (World.setCell (World.setCell (World.setCell (World.setCell (World.setCell (World.setCell w862 ⟨g861, 0, none⟩ (.int .i64 t858.1)) ⟨g861, 1, none⟩ (.int .i64 t858.2.1)) ⟨g861, 2, none⟩ (.int .i64 t858.2.2.1)) ⟨g861, 3, none⟩ (.int .i64 t858.2.2.2.1)) ⟨g861, 4, none⟩ (.int .i64 t858.2.2.2.2.1)) ⟨g861, 5, none⟩ (.int .i64 t858.2.2.2.2.2.1)) := (hq4).set1 (l1 := [blk g851 #[.int .i64 a845, .int .i64 a846, .int .i64 a847, .int .i64 a848] 32]) (l2 := []) 5 (.int .i64 t858.2.2.2.2.2.1); have hq6 : Sep (fps []) w [blk g851 #[.int .i64 a845, .int .i64 a846, .int .i64 a847, .int .i64 a848] 32, blk g861 #[.int .i64 t858.1, .int .i64 t858.2.1, .int .i64 t858.2.2.1, .int .i64 t858.2.2.2.1, .int .i64 t858.2.2.2.2.1, .int .i64 t858.2.2.2.2.2.1, .int .i64 t858.2.2.2.2.2.2.1, .int .i64 0] 38] (World.setCell (World.setCell (World.setCell (World.setCell (World.setCell (World.setCell (World.setCell w862 ⟨g861, 0, none⟩ (.int .i64 t858.1)) ⟨g861, 1, none⟩ (.int .i64 t858.2.1)) ⟨g861, 2, none⟩ (.int .i64 t858.2.2.1)) ⟨g861, 3, none⟩ (.int .i64 t858.2.2.2.1)) ⟨g861, 4, none⟩ (.int .i64 t858.2.2.2.2.1)) ⟨g861, 5, none⟩ (.int .i64 t858.2.2.2.2.2.1)) ⟨g861, 6, none⟩ (.int .i64 t858.2.2.2.2.2.2.1)) := (hq5).set1 (l1 := [blk g851 #[.int .i64 a845, .int .i64 a846, .int .i64 a847, .int .i64 a848] 32]) (l2 := []) 6 (.int .i64 t858.2.2.2.2.2.2.1); have hq7 : Sep (fps []) w [blk g851 #[.int .i64 a845, .int .i64 a846, .int .i64 a847, .int .i64 a848] 32, blk g861 #[.int .i64 t858.1, .int .i64 t858.2.1, .int .i64 t858.2.2.1, .int .i64 t858.2.2.2.1, .int .i64 t858.2.2.2.2.1, .int .i64 t858.2.2.2.2.2.1, .int .i64 t858.2.2.2.2.2.2.1, .int .i64 t858.2.2.2.2.2.2.2.1] 38] (World.setCell (World.setCell (World.setCell (World.setCell (World.setCell (World.setCell (World.setCell (World.setCell w862 ⟨g861, 0, none⟩ (.int .i64 t858.1)) ⟨g861, 1, none⟩ (.int .i64 t858.2.1)) ⟨g861, 2, none⟩ (.int .i64 t858.2.2.1)) ⟨g861, 3, none⟩ (.int .i64 t858.2.2.2.1)) ⟨g861, 4, none⟩ (.int .i64 t858.2.2.2.2.1)) ⟨g861, 5, none⟩ (.int .i64 t858.2.2.2.2.2.1)) ⟨g861, 6, none⟩ (.int .i64 t858.2.2.2.2.2.2.1)) ⟨g861, 7, none⟩ (.int .i64 t858.2.2.2.2.2.2.2.1)) := (hq6).set1 (l1 := [blk g851 #[.int .i64 a845, .int .i64 a846, .int .i64 a847, .int .i64 a848] 32]) (l2 := []) 7 (.int .i64 t858.2.2.2.2.2.2.2.1); have HS_ : Aside0 (Sep (fps []) w [blk g851 #[.int .i64 a845, .int .i64 a846, .int .i64 a847, .int .i64 a848] 32, blk g861 #[.int .i64 t858.1, .int .i64 t858.2.1, .int .i64 t858.2.2.1, .int .i64 t858.2.2.2.1, .int .i64 t858.2.2.2.2.1, .int .i64 t858.2.2.2.2.2.1, .int .i64 t858.2.2.2.2.2.2.1, .int .i64 t858.2.2.2.2.2.2.2.1] 38] w880) := ⟨by rw [hst]; exact hq7⟩; clear hq0 hq1 hq2 hq3 hq4 hq5 hq6 hq7; clear HS hst; have HS := HS_; clear HS_))
    obtain ⟨t882, HA883, H⟩ := bind_some H
    refine (plan_within.calls a849 1 10 t882 _ ⟨HS.out.begin (l := []) (rest := [blk g851 #[.int .i64 a845, .int .i64 a846, .int .i64 a847, .int .i64 a848] 32, blk g861 #[.int .i64 t858.1, .int .i64 t858.2.1, .int .i64 t858.2.2.1, .int .i64 t858.2.2.2.1, .int .i64 t858.2.2.2.2.1, .int .i64 t858.2.2.2.2.2.1, .int .i64 t858.2.2.2.2.2.2.1, .int .i64 t858.2.2.2.2.2.2.2.1] 38])⟩ HA883).mono ?_
    rintro e_ w884 ⟨rfl, hS⟩
    have HS_ : Aside0 (Sep (fps []) w [blk g851 #[.int .i64 a845, .int .i64 a846, .int .i64 a847, .int .i64 a848] 32, blk g861 #[.int .i64 t858.1, .int .i64 t858.2.1, .int .i64 t858.2.2.1, .int .i64 t858.2.2.2.1, .int .i64 t858.2.2.2.2.1, .int .i64 t858.2.2.2.2.2.1, .int .i64 t858.2.2.2.2.2.2.1, .int .i64 t858.2.2.2.2.2.2.2.1] 38] w884) := ⟨HS.out.call (l := []) (rest := [blk g851 #[.int .i64 a845, .int .i64 a846, .int .i64 a847, .int .i64 a848] 32, blk g861 #[.int .i64 t858.1, .int .i64 t858.2.1, .int .i64 t858.2.2.1, .int .i64 t858.2.2.2.1, .int .i64 t858.2.2.2.2.1, .int .i64 t858.2.2.2.2.2.1, .int .i64 t858.2.2.2.2.2.2.1, .int .i64 t858.2.2.2.2.2.2.2.1] 38]) hS⟩
    clear HS hS
    have HS := HS_
    clear HS_
    by_cases c885 : t882 = true
    · have H := if_yes c885 H
      have c885b0 : t882 = true := c885
      clear c885
      by_cases c886 : a849 = 1
      · have H := if_yes c886 H
        have c886b0 : (a849 == 1) = true := beq_iff_eq.mpr c886
        have c886b1 : (a849 != 1) = false := bne_eq_false_iff_eq.mpr c886
        clear c886
        go_wp2_with fail
        refine start_ (n := 16) (S := (fun w' => w'.cell? ⟨g861, 2, none⟩ = some (.int .i64 t858.2.2.1) ∧ w'.cell? ⟨g851, 1, none⟩ = some (.int .i64 a846) ∧ w'.cell? ⟨g851, 3, none⟩ = some (.int .i64 a848))) (ds := []) #[false, false, false, false, false, false, false, false, false, false, false, false, false, false, false, false] (by kernel_rfl) rfl rfl (⟨blk_cellv ((HS.out.drew).at1) 2 rfl, blk_cellv ((HS.out.drew).at0) 1 rfl, blk_cellv ((HS.out.drew).at0) 3 rfl⟩) (fun hHeld => ?_)
        have HS_ := Aside0.mk HS.out.drew
        clear HS
        generalize World.drew _ = w888 at HS_ hHeld ⊢
        have HS := HS_
        clear HS_
        refine pure_ (i := 0) (N := some 24) (v := ?_) (a' := ?_) #[true, false, false, false, false, false, false, false, false, false, false, false, false, false, false, false] rfl rfl (by kernel_rfl) (fun _ _ _ h => h) (Or.inl ⟨by rfl, ?_⟩) ?_ ?_
        rotate_left
        · intro w'
          go_simp
          with_reducible rfl
        rotate_left
        · simp only [Act.put, List.setIfInBounds_toArray, List.set_cons_zero, List.set_cons_succ, i64_w, i32_w]
          rfl
        refine pure_ (i := 1) (N := some 25) (v := ?_) (a' := ?_) #[true, true, false, false, false, false, false, false, false, false, false, false, false, false, false, false] rfl rfl (by kernel_rfl) (fun _ _ _ h => h) (Or.inl ⟨by rfl, ?_⟩) ?_ ?_
        rotate_left
        · intro w'
          go_simp
          with_reducible rfl
        rotate_left
        · simp only [Act.put, List.setIfInBounds_toArray, List.set_cons_zero, List.set_cons_succ, i64_w, i32_w]
          rfl
        refine pure_ (i := 4) (N := some 28) (v := ?_) (a' := ?_) #[true, true, false, false, true, false, false, false, false, false, false, false, false, false, false, false] rfl rfl (by kernel_rfl) (fun _ _ _ h => h) (Or.inl ⟨by rfl, ?_⟩) ?_ ?_
        rotate_left
        · intro w'
          go_simp
          with_reducible rfl
        rotate_left
        · simp only [Act.put, List.setIfInBounds_toArray, List.set_cons_zero, List.set_cons_succ, i64_w, i32_w]
          rfl
        refine pure_ (i := 6) (N := some 30) (v := ?_) (a' := ?_) #[true, true, false, false, true, false, true, false, false, false, false, false, false, false, false, false] rfl rfl (by kernel_rfl) (fun _ _ _ h => h) (Or.inl ⟨by rfl, ?_⟩) ?_ ?_
        rotate_left
        · intro w'
          go_simp
          with_reducible rfl
        rotate_left
        · simp only [Act.put, List.setIfInBounds_toArray, List.set_cons_zero, List.set_cons_succ, i64_w, i32_w]
          rfl
        refine take_ (i := 2) (N := some 26) (v := ?_) (a' := ?_) #[true, true, true, false, true, false, true, false, false, false, false, false, false, false, false, false] rfl rfl (by kernel_rfl) (fun _ _ _ h => h) (Or.inl ⟨by rfl, ?_⟩) hHeld ?_ ?_
        rotate_left
        · rintro w' hS'
          obtain ⟨s0, s1, s2⟩ := hS'
          go_simp
          with_reducible rfl
        rotate_left
        · simp only [Act.put, List.setIfInBounds_toArray, List.set_cons_zero, List.set_cons_succ, i64_w, i32_w]
          rfl
        refine take_ (i := 5) (N := some 29) (v := ?_) (a' := ?_) #[true, true, true, false, true, true, true, false, false, false, false, false, false, false, false, false] rfl rfl (by kernel_rfl) (fun _ _ _ h => h) (Or.inl ⟨by rfl, ?_⟩) hHeld ?_ ?_
        rotate_left
        · rintro w' hS'
          obtain ⟨s0, s1, s2⟩ := hS'
          go_simp
          with_reducible rfl
        rotate_left
        · simp only [Act.put, List.setIfInBounds_toArray, List.set_cons_zero, List.set_cons_succ, i64_w, i32_w]
          rfl
        refine take_ (i := 7) (N := some 31) (v := ?_) (a' := ?_) #[true, true, true, false, true, true, true, true, false, false, false, false, false, false, false, false] rfl rfl (by kernel_rfl) (fun _ _ _ h => h) (Or.inl ⟨by rfl, ?_⟩) hHeld ?_ ?_
        rotate_left
        · rintro w' hS'
          obtain ⟨s0, s1, s2⟩ := hS'
          go_simp
          with_reducible rfl
        rotate_left
        · simp only [Act.put, List.setIfInBounds_toArray, List.set_cons_zero, List.set_cons_succ, i64_w, i32_w]
          rfl
        refine pure_ (i := 8) (N := some 32) (v := ?_) (a' := ?_) #[true, true, true, false, true, true, true, true, true, false, false, false, false, false, false, false] rfl rfl (by kernel_rfl) (fun _ _ _ h => h) (Or.inl ⟨by rfl, ?_⟩) ?_ ?_
        rotate_left
        · intro w'
          go_simp
          with_reducible rfl
        rotate_left
        · simp only [Act.put, List.setIfInBounds_toArray, List.set_cons_zero, List.set_cons_succ, i64_w, i32_w]
          rfl
        refine pure_ (i := 9) (N := some 33) (v := ?_) (a' := ?_) #[true, true, true, false, true, true, true, true, true, true, false, false, false, false, false, false] rfl rfl (by kernel_rfl) (fun _ _ _ h => h) (Or.inl ⟨by rfl, ?_⟩) ?_ ?_
        rotate_left
        · intro w'
          go_simp
          with_reducible rfl
        rotate_left
        · simp only [Act.put, List.setIfInBounds_toArray, List.set_cons_zero, List.set_cons_succ, i64_w, i32_w]
          rfl
        refine pure_ (i := 10) (N := some 34) (v := ?_) (a' := ?_) #[true, true, true, false, true, true, true, true, true, true, true, false, false, false, false, false] rfl rfl (by kernel_rfl) (fun _ _ _ h => h) (Or.inl ⟨by rfl, ?_⟩) ?_ ?_
        rotate_left
        · intro w'
          go_simp
          with_reducible rfl
        rotate_left
        · simp only [Act.put, List.setIfInBounds_toArray, List.set_cons_zero, List.set_cons_succ, i64_w, i32_w]
          rfl
        refine one_ (i := 3) (N := some 27) #[true, true, true, true, true, true, true, true, true, true, true, false, false, false, false, false] rfl rfl (by kernel_rfl) (by decide) (fun K hK => ?_)
        obtain ⟨t889, HA890, H⟩ := bind_some H
        refine goes_ Try.func43 (by kernel_rfl) rfl #[.int .i64 a850, .int .i64 0, .int .i64 t858.2.2.1] (by rfl) rfl rfl (by (try simp only [List.map_toArray, List.map_cons, List.map_nil]); first | done | rfl) ?_
        refine (ratio_Clamp.calls a850 0 t858.2.2.1 t889 _ ⟨HS.out.begin (l := []) (rest := [blk g851 #[.int .i64 a845, .int .i64 a846, .int .i64 a847, .int .i64 a848] 32, blk g861 #[.int .i64 t858.1, .int .i64 t858.2.1, .int .i64 t858.2.2.1, .int .i64 t858.2.2.2.1, .int .i64 t858.2.2.2.2.1, .int .i64 t858.2.2.2.2.2.1, .int .i64 t858.2.2.2.2.2.2.1, .int .i64 t858.2.2.2.2.2.2.2.1] 38])⟩ HA890).mono ?_
        rintro e_ w891 ⟨rfl, hS⟩
        have HS_ : Aside0 (Sep (fps []) w [blk g851 #[.int .i64 a845, .int .i64 a846, .int .i64 a847, .int .i64 a848] 32, blk g861 #[.int .i64 t858.1, .int .i64 t858.2.1, .int .i64 t858.2.2.1, .int .i64 t858.2.2.2.1, .int .i64 t858.2.2.2.2.1, .int .i64 t858.2.2.2.2.2.1, .int .i64 t858.2.2.2.2.2.2.1, .int .i64 t858.2.2.2.2.2.2.2.1] 38] w891) := ⟨HS.out.call (l := []) (rest := [blk g851 #[.int .i64 a845, .int .i64 a846, .int .i64 a847, .int .i64 a848] 32, blk g861 #[.int .i64 t858.1, .int .i64 t858.2.1, .int .i64 t858.2.2.1, .int .i64 t858.2.2.2.1, .int .i64 t858.2.2.2.2.1, .int .i64 t858.2.2.2.2.2.1, .int .i64 t858.2.2.2.2.2.2.1, .int .i64 t858.2.2.2.2.2.2.2.1] 38]) hS⟩
        clear HS hS
        have HS := HS_
        clear HS_
        refine ⟨_, rfl, ?_⟩
        refine hK.out _ _ (⟨blk_cellv (HS.out.at1) 2 rfl, blk_cellv (HS.out.at0) 1 rfl, blk_cellv (HS.out.at0) 3 rfl⟩) (fun hHeld => ?_)
        clear hK K
        refine norm_ (a' := ?_) ?_ ?_
        rotate_left
        · show Act.put _ (some 27) _ = _
          simp only [Act.put, List.setIfInBounds_toArray, List.set_cons_zero, List.set_cons_succ, i64_w, i32_w]
          rfl
        refine one_ (i := 11) (N := some 35) #[true, true, true, true, true, true, true, true, true, true, true, true, false, false, false, false] rfl rfl (by kernel_rfl) (by decide) (fun K hK => ?_)
        refine slice_step (n := 2) (by rfl) (N := 35) rfl (cs := #[.int .i64 t889, .int .i64 (wrap64 (256 + (wrap64 (100 * (wrap64 (a846 + a848))))))]) (t := 3) ?hr ?_
        case hr => first | (go_simp; done) | (go_simp; rfl)
        intro g892 hg w893 hbox hb
        have HS_ : Aside0 (Sep (fps []) w [blk g851 #[.int .i64 a845, .int .i64 a846, .int .i64 a847, .int .i64 a848] 32, blk g861 #[.int .i64 t858.1, .int .i64 t858.2.1, .int .i64 t858.2.2.1, .int .i64 t858.2.2.2.1, .int .i64 t858.2.2.2.2.1, .int .i64 t858.2.2.2.2.2.1, .int .i64 t858.2.2.2.2.2.2.1, .int .i64 t858.2.2.2.2.2.2.2.1] 38, blk g892 #[.int .i64 t889, .int .i64 (wrap64 (256 + (wrap64 (100 * (wrap64 (a846 + a848))))))] 3] w893) := ⟨HS.out.box hg hbox hb⟩
        clear HS hg hbox hb
        have HS := HS_
        clear HS_
        refine hK.out _ _ (⟨blk_cellv (HS.out.at1) 2 rfl, blk_cellv (HS.out.at0) 1 rfl, blk_cellv (HS.out.at0) 3 rfl⟩) (fun hHeld => ?_)
        clear hK K
        refine norm_ (a' := ?_) ?_ ?_
        rotate_left
        · show Act.put _ (some 35) _ = _
          simp only [Act.put, List.setIfInBounds_toArray, List.set_cons_zero, List.set_cons_succ, i64_w, i32_w]
          rfl
        refine one_ (i := 12) (N := some 36) #[true, true, true, true, true, true, true, true, true, true, true, true, true, false, false, false] rfl rfl (by kernel_rfl) (by decide) (fun K hK => ?_)
        obtain ⟨t895, HA896, H⟩ := bind_some H
        refine goes_ Try.func42 (by kernel_rfl) rfl #[.slice (some ⟨g892, 0, none⟩) 2 2] (by rfl) rfl rfl (by (try simp only [List.map_toArray, List.map_cons, List.map_nil]); first | done | rfl) ?_
        refine (ratio_Mul.calls _ [t889, wrap64 (256 + (wrap64 (100 * (wrap64 (a846 + a848)))))] (some ⟨g892, 0, none⟩) 2 t895 _ ⟨C_of_blk (xs := [t889, wrap64 (256 + (wrap64 (100 * (wrap64 (a846 + a848)))))]) (HS.out.at2) (by simp)⟩ ⟨HS.out.begin (l := []) (rest := [blk g851 #[.int .i64 a845, .int .i64 a846, .int .i64 a847, .int .i64 a848] 32, blk g861 #[.int .i64 t858.1, .int .i64 t858.2.1, .int .i64 t858.2.2.1, .int .i64 t858.2.2.2.1, .int .i64 t858.2.2.2.2.1, .int .i64 t858.2.2.2.2.2.1, .int .i64 t858.2.2.2.2.2.2.1, .int .i64 t858.2.2.2.2.2.2.2.1] 38, blk g892 #[.int .i64 t889, .int .i64 (wrap64 (256 + (wrap64 (100 * (wrap64 (a846 + a848))))))] 3])⟩ HA896).mono ?_
        rintro e_ w897 ⟨rfl, hS⟩
        have HS_ : Aside0 (Sep (fps []) w [blk g851 #[.int .i64 a845, .int .i64 a846, .int .i64 a847, .int .i64 a848] 32, blk g861 #[.int .i64 t858.1, .int .i64 t858.2.1, .int .i64 t858.2.2.1, .int .i64 t858.2.2.2.1, .int .i64 t858.2.2.2.2.1, .int .i64 t858.2.2.2.2.2.1, .int .i64 t858.2.2.2.2.2.2.1, .int .i64 t858.2.2.2.2.2.2.2.1] 38, blk g892 #[.int .i64 t889, .int .i64 (wrap64 (256 + (wrap64 (100 * (wrap64 (a846 + a848))))))] 3] w897) := ⟨HS.out.call (l := []) (rest := [blk g851 #[.int .i64 a845, .int .i64 a846, .int .i64 a847, .int .i64 a848] 32, blk g861 #[.int .i64 t858.1, .int .i64 t858.2.1, .int .i64 t858.2.2.1, .int .i64 t858.2.2.2.1, .int .i64 t858.2.2.2.2.1, .int .i64 t858.2.2.2.2.2.1, .int .i64 t858.2.2.2.2.2.2.1, .int .i64 t858.2.2.2.2.2.2.2.1] 38, blk g892 #[.int .i64 t889, .int .i64 (wrap64 (256 + (wrap64 (100 * (wrap64 (a846 + a848))))))] 3]) hS⟩
        clear HS hS
        have HS := HS_
        clear HS_
        refine ⟨_, rfl, ?_⟩
        refine hK.out _ _ (⟨blk_cellv (HS.out.at1) 2 rfl, blk_cellv (HS.out.at0) 1 rfl, blk_cellv (HS.out.at0) 3 rfl⟩) (fun hHeld => ?_)
        clear hK K
        refine norm_ (a' := ?_) ?_ ?_
        rotate_left
        · show Act.put _ (some 36) _ = _
          simp only [Act.put, List.setIfInBounds_toArray, List.set_cons_zero, List.set_cons_succ, i64_w, i32_w]
          rfl
        refine one_ (i := 13) (N := some 37) #[true, true, true, true, true, true, true, true, true, true, true, true, true, true, false, false] rfl rfl (by kernel_rfl) (by decide) (fun K hK => ?_)
        refine slice_step (n := 2) (by rfl) (N := 37) rfl (cs := #[.int .i64 512, .int .i64 t895]) (t := 3) ?hr ?_
        case hr => first | (go_simp; done) | (go_simp; rfl)
        intro g898 hg w899 hbox hb
        have HS_ : Aside0 (Sep (fps []) w [blk g851 #[.int .i64 a845, .int .i64 a846, .int .i64 a847, .int .i64 a848] 32, blk g861 #[.int .i64 t858.1, .int .i64 t858.2.1, .int .i64 t858.2.2.1, .int .i64 t858.2.2.2.1, .int .i64 t858.2.2.2.2.1, .int .i64 t858.2.2.2.2.2.1, .int .i64 t858.2.2.2.2.2.2.1, .int .i64 t858.2.2.2.2.2.2.2.1] 38, blk g892 #[.int .i64 t889, .int .i64 (wrap64 (256 + (wrap64 (100 * (wrap64 (a846 + a848))))))] 3, blk g898 #[.int .i64 512, .int .i64 t895] 3] w899) := ⟨HS.out.box hg hbox hb⟩
        clear HS hg hbox hb
        have HS := HS_
        clear HS_
        refine hK.out _ _ (⟨blk_cellv (HS.out.at1) 2 rfl, blk_cellv (HS.out.at0) 1 rfl, blk_cellv (HS.out.at0) 3 rfl⟩) (fun hHeld => ?_)
        clear hK K
        refine norm_ (a' := ?_) ?_ ?_
        rotate_left
        · show Act.put _ (some 37) _ = _
          simp only [Act.put, List.setIfInBounds_toArray, List.set_cons_zero, List.set_cons_succ, i64_w, i32_w]
          rfl
        refine one_ (i := 14) (N := some 38) #[true, true, true, true, true, true, true, true, true, true, true, true, true, true, true, false] rfl rfl (by kernel_rfl) (by decide) (fun K hK => ?_)
        obtain ⟨t901, HA902, H⟩ := bind_some H
        refine goes_ Try.func41 (by kernel_rfl) rfl #[.slice (some ⟨g898, 0, none⟩) 2 2] (by rfl) rfl rfl (by (try simp only [List.map_toArray, List.map_cons, List.map_nil]); first | done | rfl) ?_
        refine (ratio_Add.calls _ [512, t895] (some ⟨g898, 0, none⟩) 2 t901 _ ⟨C_of_blk (xs := [512, t895]) (HS.out.at3) (by simp)⟩ ⟨HS.out.begin (l := []) (rest := [blk g851 #[.int .i64 a845, .int .i64 a846, .int .i64 a847, .int .i64 a848] 32, blk g861 #[.int .i64 t858.1, .int .i64 t858.2.1, .int .i64 t858.2.2.1, .int .i64 t858.2.2.2.1, .int .i64 t858.2.2.2.2.1, .int .i64 t858.2.2.2.2.2.1, .int .i64 t858.2.2.2.2.2.2.1, .int .i64 t858.2.2.2.2.2.2.2.1] 38, blk g892 #[.int .i64 t889, .int .i64 (wrap64 (256 + (wrap64 (100 * (wrap64 (a846 + a848))))))] 3, blk g898 #[.int .i64 512, .int .i64 t895] 3])⟩ HA902).mono ?_
        rintro e_ w903 ⟨rfl, hS⟩
        have HS_ : Aside0 (Sep (fps []) w [blk g851 #[.int .i64 a845, .int .i64 a846, .int .i64 a847, .int .i64 a848] 32, blk g861 #[.int .i64 t858.1, .int .i64 t858.2.1, .int .i64 t858.2.2.1, .int .i64 t858.2.2.2.1, .int .i64 t858.2.2.2.2.1, .int .i64 t858.2.2.2.2.2.1, .int .i64 t858.2.2.2.2.2.2.1, .int .i64 t858.2.2.2.2.2.2.2.1] 38, blk g892 #[.int .i64 t889, .int .i64 (wrap64 (256 + (wrap64 (100 * (wrap64 (a846 + a848))))))] 3, blk g898 #[.int .i64 512, .int .i64 t895] 3] w903) := ⟨HS.out.call (l := []) (rest := [blk g851 #[.int .i64 a845, .int .i64 a846, .int .i64 a847, .int .i64 a848] 32, blk g861 #[.int .i64 t858.1, .int .i64 t858.2.1, .int .i64 t858.2.2.1, .int .i64 t858.2.2.2.1, .int .i64 t858.2.2.2.2.1, .int .i64 t858.2.2.2.2.2.1, .int .i64 t858.2.2.2.2.2.2.1, .int .i64 t858.2.2.2.2.2.2.2.1] 38, blk g892 #[.int .i64 t889, .int .i64 (wrap64 (256 + (wrap64 (100 * (wrap64 (a846 + a848))))))] 3, blk g898 #[.int .i64 512, .int .i64 t895] 3]) hS⟩
        clear HS hS
        have HS := HS_
        clear HS_
        refine ⟨_, rfl, ?_⟩
        refine hK.out _ _ (⟨blk_cellv (HS.out.at1) 2 rfl, blk_cellv (HS.out.at0) 1 rfl, blk_cellv (HS.out.at0) 3 rfl⟩) (fun hHeld => ?_)
        clear hK K
        refine norm_ (a' := ?_) ?_ ?_
        rotate_left
        · show Act.put _ (some 38) _ = _
          simp only [Act.put, List.setIfInBounds_toArray, List.set_cons_zero, List.set_cons_succ, i64_w, i32_w]
          rfl
        refine pure_ (i := 15) (N := some 6) (v := ?_) (a' := ?_) #[true, true, true, true, true, true, true, true, true, true, true, true, true, true, true, true] rfl rfl (by kernel_rfl) (fun _ _ _ h => h) (Or.inl ⟨by rfl, ?_⟩) ?_ ?_
        rotate_left
        · intro w'
          go_simp
          with_reducible rfl
        rotate_left
        · simp only [Act.put, List.setIfInBounds_toArray, List.set_cons_zero, List.set_cons_succ, i64_w, i32_w]
          rfl
        refine done_ (by kernel_rfl) ?_
        go_wp2_with fail
        go_ret
        rw [← some_eq H]
        exact ⟨(by first | rfl | (simp [IntKind.wrap_u32]; done)), (HS.out).keep (l := []) (rest := [blk g851 #[.int .i64 a845, .int .i64 a846, .int .i64 a847, .int .i64 a848] 32, blk g861 #[.int .i64 t858.1, .int .i64 t858.2.1, .int .i64 t858.2.2.1, .int .i64 t858.2.2.2.1, .int .i64 t858.2.2.2.2.1, .int .i64 t858.2.2.2.2.2.1, .int .i64 t858.2.2.2.2.2.2.1, .int .i64 t858.2.2.2.2.2.2.2.1] 38, blk g892 #[.int .i64 t889, .int .i64 (wrap64 (256 + (wrap64 (100 * (wrap64 (a846 + a848))))))] 3, blk g898 #[.int .i64 512, .int .i64 t895] 3])⟩
      · have H := if_no c886 H
        have c886b0 : (a849 == 1) = false := beq_eq_false_iff_ne.mpr c886
        have c886b1 : (a849 != 1) = true := bne_iff_ne.mpr c886
        clear c886
        by_cases c904 : a849 = 10
        · have H := if_yes c904 H
          have c904b0 : (a849 == 10) = true := beq_iff_eq.mpr c904
          have c904b1 : (a849 != 10) = false := bne_eq_false_iff_eq.mpr c904
          clear c904
          have hc905 : w884.cell? ⟨g851, 3, none⟩ = some (.int .i64 a848) := blk_cellv (HS.out.at0) 3 rfl
          go_wp2_with (first | ((with_reducible refine gate_dst (N := 43) rfl ?_); refine slice_on (n := 2) ?hg (N := 43) ?hd (cs := #[.int .i64 200, .int .i64 a848]) (t := 3) ?hr ?_; (case hd => rfl); (case hg => rfl); (case hr => first | (go_simp; done) | (go_simp; rfl)); intro g906 hg w907 hbox hb; clear hc905; have HS_ : Aside0 (Sep (fps []) w [blk g851 #[.int .i64 a845, .int .i64 a846, .int .i64 a847, .int .i64 a848] 32, blk g861 #[.int .i64 t858.1, .int .i64 t858.2.1, .int .i64 t858.2.2.1, .int .i64 t858.2.2.2.1, .int .i64 t858.2.2.2.2.1, .int .i64 t858.2.2.2.2.2.1, .int .i64 t858.2.2.2.2.2.2.1, .int .i64 t858.2.2.2.2.2.2.2.1] 38, blk g906 #[.int .i64 200, .int .i64 a848] 3] w907) := ⟨HS.out.box hg hbox hb⟩; clear HS hg hbox hb; have HS := HS_; clear HS_))
          obtain ⟨t909, HA910, H⟩ := bind_some H
          refine (ratio_Mul.calls _ [200, a848] (some ⟨g906, 0, none⟩) 2 t909 _ ⟨C_of_blk (xs := [200, a848]) (HS.out.at2) (by simp)⟩ ⟨HS.out.begin (l := []) (rest := [blk g851 #[.int .i64 a845, .int .i64 a846, .int .i64 a847, .int .i64 a848] 32, blk g861 #[.int .i64 t858.1, .int .i64 t858.2.1, .int .i64 t858.2.2.1, .int .i64 t858.2.2.2.1, .int .i64 t858.2.2.2.2.1, .int .i64 t858.2.2.2.2.2.1, .int .i64 t858.2.2.2.2.2.2.1, .int .i64 t858.2.2.2.2.2.2.2.1] 38, blk g906 #[.int .i64 200, .int .i64 a848] 3])⟩ HA910).mono ?_
          rintro e_ w911 ⟨rfl, hS⟩
          have HS_ : Aside0 (Sep (fps []) w [blk g851 #[.int .i64 a845, .int .i64 a846, .int .i64 a847, .int .i64 a848] 32, blk g861 #[.int .i64 t858.1, .int .i64 t858.2.1, .int .i64 t858.2.2.1, .int .i64 t858.2.2.2.1, .int .i64 t858.2.2.2.2.1, .int .i64 t858.2.2.2.2.2.1, .int .i64 t858.2.2.2.2.2.2.1, .int .i64 t858.2.2.2.2.2.2.2.1] 38, blk g906 #[.int .i64 200, .int .i64 a848] 3] w911) := ⟨HS.out.call (l := []) (rest := [blk g851 #[.int .i64 a845, .int .i64 a846, .int .i64 a847, .int .i64 a848] 32, blk g861 #[.int .i64 t858.1, .int .i64 t858.2.1, .int .i64 t858.2.2.1, .int .i64 t858.2.2.2.1, .int .i64 t858.2.2.2.2.1, .int .i64 t858.2.2.2.2.2.1, .int .i64 t858.2.2.2.2.2.2.1, .int .i64 t858.2.2.2.2.2.2.2.1] 38, blk g906 #[.int .i64 200, .int .i64 a848] 3]) hS⟩
          clear HS hS
          have HS := HS_
          clear HS_
          go_wp2_with (first | ((with_reducible refine gate_dst (N := 45) rfl ?_); refine slice_on (n := 2) ?hg (N := 45) ?hd (cs := #[.int .i64 256, .int .i64 t909]) (t := 3) ?hr ?_; (case hd => rfl); (case hg => rfl); (case hr => first | (go_simp; done) | (go_simp; rfl)); intro g912 hg w913 hbox hb; have HS_ : Aside0 (Sep (fps []) w [blk g851 #[.int .i64 a845, .int .i64 a846, .int .i64 a847, .int .i64 a848] 32, blk g861 #[.int .i64 t858.1, .int .i64 t858.2.1, .int .i64 t858.2.2.1, .int .i64 t858.2.2.2.1, .int .i64 t858.2.2.2.2.1, .int .i64 t858.2.2.2.2.2.1, .int .i64 t858.2.2.2.2.2.2.1, .int .i64 t858.2.2.2.2.2.2.2.1] 38, blk g906 #[.int .i64 200, .int .i64 a848] 3, blk g912 #[.int .i64 256, .int .i64 t909] 3] w913) := ⟨HS.out.box hg hbox hb⟩; clear HS hg hbox hb; have HS := HS_; clear HS_))
          obtain ⟨t915, HA916, H⟩ := bind_some H
          refine (ratio_Add.calls _ [256, t909] (some ⟨g912, 0, none⟩) 2 t915 _ ⟨C_of_blk (xs := [256, t909]) (HS.out.at3) (by simp)⟩ ⟨HS.out.begin (l := []) (rest := [blk g851 #[.int .i64 a845, .int .i64 a846, .int .i64 a847, .int .i64 a848] 32, blk g861 #[.int .i64 t858.1, .int .i64 t858.2.1, .int .i64 t858.2.2.1, .int .i64 t858.2.2.2.1, .int .i64 t858.2.2.2.2.1, .int .i64 t858.2.2.2.2.2.1, .int .i64 t858.2.2.2.2.2.2.1, .int .i64 t858.2.2.2.2.2.2.2.1] 38, blk g906 #[.int .i64 200, .int .i64 a848] 3, blk g912 #[.int .i64 256, .int .i64 t909] 3])⟩ HA916).mono ?_
          rintro e_ w917 ⟨rfl, hS⟩
          have HS_ : Aside0 (Sep (fps []) w [blk g851 #[.int .i64 a845, .int .i64 a846, .int .i64 a847, .int .i64 a848] 32, blk g861 #[.int .i64 t858.1, .int .i64 t858.2.1, .int .i64 t858.2.2.1, .int .i64 t858.2.2.2.1, .int .i64 t858.2.2.2.2.1, .int .i64 t858.2.2.2.2.2.1, .int .i64 t858.2.2.2.2.2.2.1, .int .i64 t858.2.2.2.2.2.2.2.1] 38, blk g906 #[.int .i64 200, .int .i64 a848] 3, blk g912 #[.int .i64 256, .int .i64 t909] 3] w917) := ⟨HS.out.call (l := []) (rest := [blk g851 #[.int .i64 a845, .int .i64 a846, .int .i64 a847, .int .i64 a848] 32, blk g861 #[.int .i64 t858.1, .int .i64 t858.2.1, .int .i64 t858.2.2.1, .int .i64 t858.2.2.2.1, .int .i64 t858.2.2.2.2.1, .int .i64 t858.2.2.2.2.2.1, .int .i64 t858.2.2.2.2.2.2.1, .int .i64 t858.2.2.2.2.2.2.2.1] 38, blk g906 #[.int .i64 200, .int .i64 a848] 3, blk g912 #[.int .i64 256, .int .i64 t909] 3]) hS⟩
          clear HS hS
          have HS := HS_
          clear HS_
          go_wp2_with fail
          go_ret
          rw [← some_eq H]
          exact ⟨(by first | rfl | (simp [IntKind.wrap_u32]; done)), (HS.out).keep (l := []) (rest := [blk g851 #[.int .i64 a845, .int .i64 a846, .int .i64 a847, .int .i64 a848] 32, blk g861 #[.int .i64 t858.1, .int .i64 t858.2.1, .int .i64 t858.2.2.1, .int .i64 t858.2.2.2.1, .int .i64 t858.2.2.2.2.1, .int .i64 t858.2.2.2.2.2.1, .int .i64 t858.2.2.2.2.2.2.1, .int .i64 t858.2.2.2.2.2.2.2.1] 38, blk g906 #[.int .i64 200, .int .i64 a848] 3, blk g912 #[.int .i64 256, .int .i64 t909] 3])⟩
        · have H := if_no c904 H
          have c904b0 : (a849 == 10) = false := beq_eq_false_iff_ne.mpr c904
          have c904b1 : (a849 != 10) = true := bne_iff_ne.mpr c904
          clear c904
          go_wp2_with fail
          go_ret
          rw [← some_eq H]
          exact ⟨(by first | rfl | (simp [IntKind.wrap_u32]; done)), (HS.out).keep (l := []) (rest := [blk g851 #[.int .i64 a845, .int .i64 a846, .int .i64 a847, .int .i64 a848] 32, blk g861 #[.int .i64 t858.1, .int .i64 t858.2.1, .int .i64 t858.2.2.1, .int .i64 t858.2.2.2.1, .int .i64 t858.2.2.2.2.1, .int .i64 t858.2.2.2.2.2.1, .int .i64 t858.2.2.2.2.2.2.1, .int .i64 t858.2.2.2.2.2.2.2.1] 38])⟩
    · have H := if_no c885 H
      have c885b0 : t882 = false := by simpa using c885
      clear c885
      go_wp2_with fail
      go_ret
      rw [← some_eq H]
      exact ⟨(by first | rfl | (simp [IntKind.wrap_u32]; done)), (HS.out).keep (l := []) (rest := [blk g851 #[.int .i64 a845, .int .i64 a846, .int .i64 a847, .int .i64 a848] 32, blk g861 #[.int .i64 t858.1, .int .i64 t858.2.1, .int .i64 t858.2.2.1, .int .i64 t858.2.2.2.1, .int .i64 t858.2.2.2.2.1, .int .i64 t858.2.2.2.2.2.1, .int .i64 t858.2.2.2.2.2.2.1, .int .i64 t858.2.2.2.2.2.2.2.1] 38])⟩
  · have H := if_no c881 H
    have c881b0 : (t858.2.2.2.2.2.2.2.2 == 0) = false := beq_eq_false_iff_ne.mpr c881
    have c881b1 : (t858.2.2.2.2.2.2.2.2 != 0) = true := bne_iff_ne.mpr c881
    clear c881
    go_wp2_with (first | ((with_reducible refine gate_dst (N := 7) rfl ?_); refine box_on ?hg (N := 7) ?hd (cs := #[.int .i64 0, .int .i64 0, .int .i64 0, .int .i64 0, .int .i64 0, .int .i64 0, .int .i64 0, .int .i64 0]) (t := 38) ?hr ?_; (case hd => rfl); (case hg => rfl); (case hr => first | (go_simp; done) | (go_simp; rfl)); intro g861 hg w862 hbox hb; have HS_ : Aside0 (Sep (fps []) w [blk g851 #[.int .i64 a845, .int .i64 a846, .int .i64 a847, .int .i64 a848] 32, blk g861 #[.int .i64 0, .int .i64 0, .int .i64 0, .int .i64 0, .int .i64 0, .int .i64 0, .int .i64 0, .int .i64 0] 38] w862) := ⟨HS.out.box hg hbox hb⟩; clear HS hg hbox hb; have HS := HS_; clear HS_; have hc864 : w862.cell? ⟨g861, 0, none⟩ = some (.int .i64 0) := blk_cellv (HS.out.at1) 0 rfl; have hz865 : w862.frozen? ⟨g861, 0, none⟩ = false := blk_fz (HS.out.at1) 0; have hc866 : w862.cell? ⟨g861, 1, none⟩ = some (.int .i64 0) := blk_cellv (HS.out.at1) 1 rfl; have hz867 : w862.frozen? ⟨g861, 1, none⟩ = false := blk_fz (HS.out.at1) 1; have hc868 : w862.cell? ⟨g861, 2, none⟩ = some (.int .i64 0) := blk_cellv (HS.out.at1) 2 rfl; have hz869 : w862.frozen? ⟨g861, 2, none⟩ = false := blk_fz (HS.out.at1) 2; have hc870 : w862.cell? ⟨g861, 3, none⟩ = some (.int .i64 0) := blk_cellv (HS.out.at1) 3 rfl; have hz871 : w862.frozen? ⟨g861, 3, none⟩ = false := blk_fz (HS.out.at1) 3; have hc872 : w862.cell? ⟨g861, 4, none⟩ = some (.int .i64 0) := blk_cellv (HS.out.at1) 4 rfl; have hz873 : w862.frozen? ⟨g861, 4, none⟩ = false := blk_fz (HS.out.at1) 4; have hc874 : w862.cell? ⟨g861, 5, none⟩ = some (.int .i64 0) := blk_cellv (HS.out.at1) 5 rfl; have hz875 : w862.frozen? ⟨g861, 5, none⟩ = false := blk_fz (HS.out.at1) 5; have hc876 : w862.cell? ⟨g861, 6, none⟩ = some (.int .i64 0) := blk_cellv (HS.out.at1) 6 rfl; have hz877 : w862.frozen? ⟨g861, 6, none⟩ = false := blk_fz (HS.out.at1) 6; have hc878 : w862.cell? ⟨g861, 7, none⟩ = some (.int .i64 0) := blk_cellv (HS.out.at1) 7 rfl; have hz879 : w862.frozen? ⟨g861, 7, none⟩ = false := blk_fz (HS.out.at1) 7) | ((with_reducible refine gate_store (t := 38) (p := 7) rfl ?_); refine store_event (w1 := (World.setCell (World.setCell (World.setCell (World.setCell (World.setCell (World.setCell (World.setCell (World.setCell w862 ⟨g861, 0, none⟩ (.int .i64 t858.1)) ⟨g861, 1, none⟩ (.int .i64 t858.2.1)) ⟨g861, 2, none⟩ (.int .i64 t858.2.2.1)) ⟨g861, 3, none⟩ (.int .i64 t858.2.2.2.1)) ⟨g861, 4, none⟩ (.int .i64 t858.2.2.2.2.1)) ⟨g861, 5, none⟩ (.int .i64 t858.2.2.2.2.2.1)) ⟨g861, 6, none⟩ (.int .i64 t858.2.2.2.2.2.2.1)) ⟨g861, 7, none⟩ (.int .i64 t858.2.2.2.2.2.2.2.1))) rfl (t := 38) (p := 7) rfl rfl ?hr ?_; (case hr => first | (go_simp; done) | (go_simp; rfl)); intro w880 hst; clear hc864 hz865 hc866 hz867 hc868 hz869 hc870 hz871 hc872 hz873 hc874 hz875 hc876 hz877 hc878 hz879; have hq0 : Sep (fps []) w [blk g851 #[.int .i64 a845, .int .i64 a846, .int .i64 a847, .int .i64 a848] 32, blk g861 #[.int .i64 t858.1, .int .i64 0, .int .i64 0, .int .i64 0, .int .i64 0, .int .i64 0, .int .i64 0, .int .i64 0] 38] (World.setCell w862 ⟨g861, 0, none⟩ (.int .i64 t858.1)) := (HS.out).set1 (l1 := [blk g851 #[.int .i64 a845, .int .i64 a846, .int .i64 a847, .int .i64 a848] 32]) (l2 := []) 0 (.int .i64 t858.1); have hq1 : Sep (fps []) w [blk g851 #[.int .i64 a845, .int .i64 a846, .int .i64 a847, .int .i64 a848] 32, blk g861 #[.int .i64 t858.1, .int .i64 t858.2.1, .int .i64 0, .int .i64 0, .int .i64 0, .int .i64 0, .int .i64 0, .int .i64 0] 38] (World.setCell (World.setCell w862 ⟨g861, 0, none⟩ (.int .i64 t858.1)) ⟨g861, 1, none⟩ (.int .i64 t858.2.1)) := (hq0).set1 (l1 := [blk g851 #[.int .i64 a845, .int .i64 a846, .int .i64 a847, .int .i64 a848] 32]) (l2 := []) 1 (.int .i64 t858.2.1); have hq2 : Sep (fps []) w [blk g851 #[.int .i64 a845, .int .i64 a846, .int .i64 a847, .int .i64 a848] 32, blk g861 #[.int .i64 t858.1, .int .i64 t858.2.1, .int .i64 t858.2.2.1, .int .i64 0, .int .i64 0, .int .i64 0, .int .i64 0, .int .i64 0] 38] (World.setCell (World.setCell (World.setCell w862 ⟨g861, 0, none⟩ (.int .i64 t858.1)) ⟨g861, 1, none⟩ (.int .i64 t858.2.1)) ⟨g861, 2, none⟩ (.int .i64 t858.2.2.1)) := (hq1).set1 (l1 := [blk g851 #[.int .i64 a845, .int .i64 a846, .int .i64 a847, .int .i64 a848] 32]) (l2 := []) 2 (.int .i64 t858.2.2.1); have hq3 : Sep (fps []) w [blk g851 #[.int .i64 a845, .int .i64 a846, .int .i64 a847, .int .i64 a848] 32, blk g861 #[.int .i64 t858.1, .int .i64 t858.2.1, .int .i64 t858.2.2.1, .int .i64 t858.2.2.2.1, .int .i64 0, .int .i64 0, .int .i64 0, .int .i64 0] 38] (World.setCell (World.setCell (World.setCell (World.setCell w862 ⟨g861, 0, none⟩ (.int .i64 t858.1)) ⟨g861, 1, none⟩ (.int .i64 t858.2.1)) ⟨g861, 2, none⟩ (.int .i64 t858.2.2.1)) ⟨g861, 3, none⟩ (.int .i64 t858.2.2.2.1)) := (hq2).set1 (l1 := [blk g851 #[.int .i64 a845, .int .i64 a846, .int .i64 a847, .int .i64 a848] 32]) (l2 := []) 3 (.int .i64 t858.2.2.2.1); have hq4 : Sep (fps []) w [blk g851 #[.int .i64 a845, .int .i64 a846, .int .i64 a847, .int .i64 a848] 32, blk g861 #[.int .i64 t858.1, .int .i64 t858.2.1, .int .i64 t858.2.2.1, .int .i64 t858.2.2.2.1, .int .i64 t858.2.2.2.2.1, .int .i64 0, .int .i64 0, .int .i64 0] 38] (World.setCell (World.setCell (World.setCell (World.setCell (World.setCell w862 ⟨g861, 0, none⟩ (.int .i64 t858.1)) ⟨g861, 1, none⟩ (.int .i64 t858.2.1)) ⟨g861, 2, none⟩ (.int .i64 t858.2.2.1)) ⟨g861, 3, none⟩ (.int .i64 t858.2.2.2.1)) ⟨g861, 4, none⟩ (.int .i64 t858.2.2.2.2.1)) := (hq3).set1 (l1 := [blk g851 #[.int .i64 a845, .int .i64 a846, .int .i64 a847, .int .i64 a848] 32]) (l2 := []) 4 (.int .i64 t858.2.2.2.2.1); have hq5 : Sep (fps []) w [blk g851 #[.int .i64 a845, .int .i64 a846, .int .i64 a847, .int .i64 a848] 32, blk g861 #[.int .i64 t858.1, .int .i64 t858.2.1, .int .i64 t858.2.2.1, .int .i64 t858.2.2.2.1, .int .i64 t858.2.2.2.2.1, .int .i64 t858.2.2.2.2.2.1, .int .i64 0, .int .i64 0] 38] (World.setCell (World.setCell (World.setCell (World.setCell (World.setCell (World.setCell w862 ⟨g861, 0, none⟩ (.int .i64 t858.1)) ⟨g861, 1, none⟩ (.int .i64 t858.2.1)) ⟨g861, 2, none⟩ (.int .i64 t858.2.2.1)) ⟨g861, 3, none⟩ (.int .i64 t858.2.2.2.1)) ⟨g861, 4, none⟩ (.int .i64 t858.2.2.2.2.1)) ⟨g861, 5, none⟩ (.int .i64 t858.2.2.2.2.2.1)) := (hq4).set1 (l1 := [blk g851 #[.int .i64 a845, .int .i64 a846, .int .i64 a847, .int .i64 a848] 32]) (l2 := []) 5 (.int .i64 t858.2.2.2.2.2.1); have hq6 : Sep (fps []) w [blk g851 #[.int .i64 a845, .int .i64 a846, .int .i64 a847, .int .i64 a848] 32, blk g861 #[.int .i64 t858.1, .int .i64 t858.2.1, .int .i64 t858.2.2.1, .int .i64 t858.2.2.2.1, .int .i64 t858.2.2.2.2.1, .int .i64 t858.2.2.2.2.2.1, .int .i64 t858.2.2.2.2.2.2.1, .int .i64 0] 38] (World.setCell (World.setCell (World.setCell (World.setCell (World.setCell (World.setCell (World.setCell w862 ⟨g861, 0, none⟩ (.int .i64 t858.1)) ⟨g861, 1, none⟩ (.int .i64 t858.2.1)) ⟨g861, 2, none⟩ (.int .i64 t858.2.2.1)) ⟨g861, 3, none⟩ (.int .i64 t858.2.2.2.1)) ⟨g861, 4, none⟩ (.int .i64 t858.2.2.2.2.1)) ⟨g861, 5, none⟩ (.int .i64 t858.2.2.2.2.2.1)) ⟨g861, 6, none⟩ (.int .i64 t858.2.2.2.2.2.2.1)) := (hq5).set1 (l1 := [blk g851 #[.int .i64 a845, .int .i64 a846, .int .i64 a847, .int .i64 a848] 32]) (l2 := []) 6 (.int .i64 t858.2.2.2.2.2.2.1); have hq7 : Sep (fps []) w [blk g851 #[.int .i64 a845, .int .i64 a846, .int .i64 a847, .int .i64 a848] 32, blk g861 #[.int .i64 t858.1, .int .i64 t858.2.1, .int .i64 t858.2.2.1, .int .i64 t858.2.2.2.1, .int .i64 t858.2.2.2.2.1, .int .i64 t858.2.2.2.2.2.1, .int .i64 t858.2.2.2.2.2.2.1, .int .i64 t858.2.2.2.2.2.2.2.1] 38] (World.setCell (World.setCell (World.setCell (World.setCell (World.setCell (World.setCell (World.setCell (World.setCell w862 ⟨g861, 0, none⟩ (.int .i64 t858.1)) ⟨g861, 1, none⟩ (.int .i64 t858.2.1)) ⟨g861, 2, none⟩ (.int .i64 t858.2.2.1)) ⟨g861, 3, none⟩ (.int .i64 t858.2.2.2.1)) ⟨g861, 4, none⟩ (.int .i64 t858.2.2.2.2.1)) ⟨g861, 5, none⟩ (.int .i64 t858.2.2.2.2.2.1)) ⟨g861, 6, none⟩ (.int .i64 t858.2.2.2.2.2.2.1)) ⟨g861, 7, none⟩ (.int .i64 t858.2.2.2.2.2.2.2.1)) := (hq6).set1 (l1 := [blk g851 #[.int .i64 a845, .int .i64 a846, .int .i64 a847, .int .i64 a848] 32]) (l2 := []) 7 (.int .i64 t858.2.2.2.2.2.2.2.1); have HS_ : Aside0 (Sep (fps []) w [blk g851 #[.int .i64 a845, .int .i64 a846, .int .i64 a847, .int .i64 a848] 32, blk g861 #[.int .i64 t858.1, .int .i64 t858.2.1, .int .i64 t858.2.2.1, .int .i64 t858.2.2.2.1, .int .i64 t858.2.2.2.2.1, .int .i64 t858.2.2.2.2.2.1, .int .i64 t858.2.2.2.2.2.2.1, .int .i64 t858.2.2.2.2.2.2.2.1] 38] w880) := ⟨by rw [hst]; exact hq7⟩; clear hq0 hq1 hq2 hq3 hq4 hq5 hq6 hq7; clear HS hst; have HS := HS_; clear HS_))
    go_ret
    rw [← some_eq H]
    exact ⟨(by first | rfl | (simp [IntKind.wrap_u32]; done)), (HS.out).keep (l := []) (rest := [blk g851 #[.int .i64 a845, .int .i64 a846, .int .i64 a847, .int .i64 a848] 32, blk g861 #[.int .i64 t858.1, .int .i64 t858.2.1, .int .i64 t858.2.2.1, .int .i64 t858.2.2.2.1, .int .i64 t858.2.2.2.2.1, .int .i64 t858.2.2.2.2.2.1, .int .i64 t858.2.2.2.2.2.2.1, .int .i64 t858.2.2.2.2.2.2.2.1] 38])⟩

set_option maxHeartbeats 4000000 in
set_option maxRecDepth 100000 in
theorem tune_Longest.calls (k : Nat) (a797 : Int) (a798 : Int) (a799 : Int) (a800 : Int) (r : Int) (w : World)  (HS : Aside0 (Sep (fps []) w [] w)) (H : Aside0 (tune_Longest.f k a797 a798 a799 a800 = some r)) :
    Calls Try.prog 52 #[.agg #[.int .i64 a797, .int .i64 a798, .int .i64 a799, .int .i64 a800]] w fun e w' => e = .returned (.int .i64 r) ∧ Sep (fps []) w [] w' := by
  unfold tune_Longest.f at H
  go_enter Try.func52, Try.ntmps52
  go_wp2_with (first | ((with_reducible refine gate_dst (N := 1) rfl ?_); refine box_on ?hg (N := 1) ?hd (cs := #[.int .i64 a797, .int .i64 a798, .int .i64 a799, .int .i64 a800]) (t := 32) ?hr ?_; (case hd => rfl); (case hg => rfl); (case hr => first | (go_simp; done) | (go_simp; rfl)); intro g801 hg w802 hbox hb; have HS_ : Aside0 (Sep (fps []) w [blk g801 #[.int .i64 a797, .int .i64 a798, .int .i64 a799, .int .i64 a800] 32] w802) := ⟨HS.out.box hg hbox hb⟩; clear HS hg hbox hb; have HS := HS_; clear HS_; have hc804 : w802.cell? ⟨g801, 0, none⟩ = some (.int .i64 a797) := blk_cellv (HS.out.at0) 0 rfl; have hc805 : w802.cell? ⟨g801, 1, none⟩ = some (.int .i64 a798) := blk_cellv (HS.out.at0) 1 rfl; have hc806 : w802.cell? ⟨g801, 2, none⟩ = some (.int .i64 a799) := blk_cellv (HS.out.at0) 2 rfl; have hc807 : w802.cell? ⟨g801, 3, none⟩ = some (.int .i64 a800) := blk_cellv (HS.out.at0) 3 rfl))
  clear hc804 hc805 hc806 hc807
  obtain ⟨t808, HA809, H⟩ := bind_some H
  refine (plan_Of.calls _ a797 a798 a799 a800 t808 _ ⟨HS.out.begin (l := []) (rest := [blk g801 #[.int .i64 a797, .int .i64 a798, .int .i64 a799, .int .i64 a800] 32])⟩ HA809).mono ?_
  rintro e_ w810 ⟨rfl, hS⟩
  have HS_ : Aside0 (Sep (fps []) w [blk g801 #[.int .i64 a797, .int .i64 a798, .int .i64 a799, .int .i64 a800] 32] w810) := ⟨HS.out.call (l := []) (rest := [blk g801 #[.int .i64 a797, .int .i64 a798, .int .i64 a799, .int .i64 a800] 32]) hS⟩
  clear HS hS
  have HS := HS_
  clear HS_
  by_cases c831 : t808.2.2.2.2.2.2.2.2 = 0
  · have H := if_yes c831 H
    have c831b0 : (t808.2.2.2.2.2.2.2.2 == 0) = true := beq_iff_eq.mpr c831
    have c831b1 : (t808.2.2.2.2.2.2.2.2 != 0) = false := bne_eq_false_iff_eq.mpr c831
    clear c831
    go_wp2_with (first | ((with_reducible refine gate_dst (N := 3) rfl ?_); refine box_on ?hg (N := 3) ?hd (cs := #[.int .i64 0, .int .i64 0, .int .i64 0, .int .i64 0, .int .i64 0, .int .i64 0, .int .i64 0, .int .i64 0]) (t := 38) ?hr ?_; (case hd => rfl); (case hg => rfl); (case hr => first | (go_simp; done) | (go_simp; rfl)); intro g811 hg w812 hbox hb; have HS_ : Aside0 (Sep (fps []) w [blk g801 #[.int .i64 a797, .int .i64 a798, .int .i64 a799, .int .i64 a800] 32, blk g811 #[.int .i64 0, .int .i64 0, .int .i64 0, .int .i64 0, .int .i64 0, .int .i64 0, .int .i64 0, .int .i64 0] 38] w812) := ⟨HS.out.box hg hbox hb⟩; clear HS hg hbox hb; have HS := HS_; clear HS_; have hc814 : w812.cell? ⟨g811, 0, none⟩ = some (.int .i64 0) := blk_cellv (HS.out.at1) 0 rfl; have hz815 : w812.frozen? ⟨g811, 0, none⟩ = false := blk_fz (HS.out.at1) 0; have hc816 : w812.cell? ⟨g811, 1, none⟩ = some (.int .i64 0) := blk_cellv (HS.out.at1) 1 rfl; have hz817 : w812.frozen? ⟨g811, 1, none⟩ = false := blk_fz (HS.out.at1) 1; have hc818 : w812.cell? ⟨g811, 2, none⟩ = some (.int .i64 0) := blk_cellv (HS.out.at1) 2 rfl; have hz819 : w812.frozen? ⟨g811, 2, none⟩ = false := blk_fz (HS.out.at1) 2; have hc820 : w812.cell? ⟨g811, 3, none⟩ = some (.int .i64 0) := blk_cellv (HS.out.at1) 3 rfl; have hz821 : w812.frozen? ⟨g811, 3, none⟩ = false := blk_fz (HS.out.at1) 3; have hc822 : w812.cell? ⟨g811, 4, none⟩ = some (.int .i64 0) := blk_cellv (HS.out.at1) 4 rfl; have hz823 : w812.frozen? ⟨g811, 4, none⟩ = false := blk_fz (HS.out.at1) 4; have hc824 : w812.cell? ⟨g811, 5, none⟩ = some (.int .i64 0) := blk_cellv (HS.out.at1) 5 rfl; have hz825 : w812.frozen? ⟨g811, 5, none⟩ = false := blk_fz (HS.out.at1) 5; have hc826 : w812.cell? ⟨g811, 6, none⟩ = some (.int .i64 0) := blk_cellv (HS.out.at1) 6 rfl; have hz827 : w812.frozen? ⟨g811, 6, none⟩ = false := blk_fz (HS.out.at1) 6; have hc828 : w812.cell? ⟨g811, 7, none⟩ = some (.int .i64 0) := blk_cellv (HS.out.at1) 7 rfl; have hz829 : w812.frozen? ⟨g811, 7, none⟩ = false := blk_fz (HS.out.at1) 7) | ((with_reducible refine gate_store (t := 38) (p := 3) rfl ?_); refine store_event (w1 := (World.setCell (World.setCell (World.setCell (World.setCell (World.setCell (World.setCell (World.setCell (World.setCell w812 ⟨g811, 0, none⟩ (.int .i64 t808.1)) ⟨g811, 1, none⟩ (.int .i64 t808.2.1)) ⟨g811, 2, none⟩ (.int .i64 t808.2.2.1)) ⟨g811, 3, none⟩ (.int .i64 t808.2.2.2.1)) ⟨g811, 4, none⟩ (.int .i64 t808.2.2.2.2.1)) ⟨g811, 5, none⟩ (.int .i64 t808.2.2.2.2.2.1)) ⟨g811, 6, none⟩ (.int .i64 t808.2.2.2.2.2.2.1)) ⟨g811, 7, none⟩ (.int .i64 t808.2.2.2.2.2.2.2.1))) rfl (t := 38) (p := 3) rfl rfl ?hr ?_; (case hr => first | (go_simp; done) | (go_simp; rfl)); intro w830 hst; clear hc814 hz815 hc816 hz817 hc818 hz819 hc820 hz821 hc822 hz823 hc824 hz825 hc826 hz827 hc828 hz829; have hq0 : Sep (fps []) w [blk g801 #[.int .i64 a797, .int .i64 a798, .int .i64 a799, .int .i64 a800] 32, blk g811 #[.int .i64 t808.1, .int .i64 0, .int .i64 0, .int .i64 0, .int .i64 0, .int .i64 0, .int .i64 0, .int .i64 0] 38] (World.setCell w812 ⟨g811, 0, none⟩ (.int .i64 t808.1)) := (HS.out).set1 (l1 := [blk g801 #[.int .i64 a797, .int .i64 a798, .int .i64 a799, .int .i64 a800] 32]) (l2 := []) 0 (.int .i64 t808.1); have hq1 : Sep (fps []) w [blk g801 #[.int .i64 a797, .int .i64 a798, .int .i64 a799, .int .i64 a800] 32, blk g811 #[.int .i64 t808.1, .int .i64 t808.2.1, .int .i64 0, .int .i64 0, .int .i64 0, .int .i64 0, .int .i64 0, .int .i64 0] 38] (World.setCell (World.setCell w812 ⟨g811, 0, none⟩ (.int .i64 t808.1)) ⟨g811, 1, none⟩ (.int .i64 t808.2.1)) := (hq0).set1 (l1 := [blk g801 #[.int .i64 a797, .int .i64 a798, .int .i64 a799, .int .i64 a800] 32]) (l2 := []) 1 (.int .i64 t808.2.1); have hq2 : Sep (fps []) w [blk g801 #[.int .i64 a797, .int .i64 a798, .int .i64 a799, .int .i64 a800] 32, blk g811 #[.int .i64 t808.1, .int .i64 t808.2.1, .int .i64 t808.2.2.1, .int .i64 0, .int .i64 0, .int .i64 0, .int .i64 0, .int .i64 0] 38] (World.setCell (World.setCell (World.setCell w812 ⟨g811, 0, none⟩ (.int .i64 t808.1)) ⟨g811, 1, none⟩ (.int .i64 t808.2.1)) ⟨g811, 2, none⟩ (.int .i64 t808.2.2.1)) := (hq1).set1 (l1 := [blk g801 #[.int .i64 a797, .int .i64 a798, .int .i64 a799, .int .i64 a800] 32]) (l2 := []) 2 (.int .i64 t808.2.2.1); have hq3 : Sep (fps []) w [blk g801 #[.int .i64 a797, .int .i64 a798, .int .i64 a799, .int .i64 a800] 32, blk g811 #[.int .i64 t808.1, .int .i64 t808.2.1, .int .i64 t808.2.2.1, .int .i64 t808.2.2.2.1, .int .i64 0, .int .i64 0, .int .i64 0, .int .i64 0] 38] (World.setCell (World.setCell (World.setCell (World.setCell w812 ⟨g811, 0, none⟩ (.int .i64 t808.1)) ⟨g811, 1, none⟩ (.int .i64 t808.2.1)) ⟨g811, 2, none⟩ (.int .i64 t808.2.2.1)) ⟨g811, 3, none⟩ (.int .i64 t808.2.2.2.1)) := (hq2).set1 (l1 := [blk g801 #[.int .i64 a797, .int .i64 a798, .int .i64 a799, .int .i64 a800] 32]) (l2 := []) 3 (.int .i64 t808.2.2.2.1); have hq4 : Sep (fps []) w [blk g801 #[.int .i64 a797, .int .i64 a798, .int .i64 a799, .int .i64 a800] 32, blk g811 #[.int .i64 t808.1, .int .i64 t808.2.1, .int .i64 t808.2.2.1, .int .i64 t808.2.2.2.1, .int .i64 t808.2.2.2.2.1, .int .i64 0, .int .i64 0, .int .i64 0] 38] (World.setCell (World.setCell (World.setCell (World.setCell (World.setCell w812 ⟨g811, 0, none⟩ (.int .i64 t808.1)) ⟨g811, 1, none⟩ (.int .i64 t808.2.1)) ⟨g811, 2, none⟩ (.int .i64 t808.2.2.1)) ⟨g811, 3, none⟩ (.int .i64 t808.2.2.2.1)) ⟨g811, 4, none⟩ (.int .i64 t808.2.2.2.2.1)) := (hq3).set1 (l1 := [blk g801 #[.int .i64 a797, .int .i64 a798, .int .i64 a799, .int .i64 a800] 32]) (l2 := []) 4 (.int .i64 t808.2.2.2.2.1); have hq5 : Sep (fps []) w [blk g801 #[.int .i64 a797, .int .i64 a798, .int .i64 a799, .int .i64 a800] 32, blk g811 #[.int .i64 t808.1, .int .i64 t808.2.1, .int .i64 t808.2.2.1, .int .i64 t808.2.2.2.1, .int .i64 t808.2.2.2.2.1, .int .i64 t808.2.2.2.2.2.1, .int .i64 0, .int .i64 0] 38] (World.setCell (World.setCell (World.setCell (World.setCell (World.setCell (World.setCell w812 ⟨g811, 0, none⟩ (.int .i64 t808.1)) ⟨g811, 1, none⟩ (.int .i64 t808.2.1)) ⟨g811, 2, none⟩ (.int .i64 t808.2.2.1)) ⟨g811, 3, none⟩ (.int .i64 t808.2.2.2.1)) ⟨g811, 4, none⟩ (.int .i64 t808.2.2.2.2.1)) ⟨g811, 5, none⟩ (.int .i64 t808.2.2.2.2.2.1)) := (hq4).set1 (l1 := [blk g801 #[.int .i64 a797, .int .i64 a798, .int .i64 a799, .int .i64 a800] 32]) (l2 := []) 5 (.int .i64 t808.2.2.2.2.2.1); have hq6 : Sep (fps []) w [blk g801 #[.int .i64 a797, .int .i64 a798, .int .i64 a799, .int .i64 a800] 32, blk g811 #[.int .i64 t808.1, .int .i64 t808.2.1, .int .i64 t808.2.2.1, .int .i64 t808.2.2.2.1, .int .i64 t808.2.2.2.2.1, .int .i64 t808.2.2.2.2.2.1, .int .i64 t808.2.2.2.2.2.2.1, .int .i64 0] 38] (World.setCell (World.setCell (World.setCell (World.setCell (World.setCell (World.setCell (World.setCell w812 ⟨g811, 0, none⟩ (.int .i64 t808.1)) ⟨g811, 1, none⟩ (.int .i64 t808.2.1)) ⟨g811, 2, none⟩ (.int .i64 t808.2.2.1)) ⟨g811, 3, none⟩ (.int .i64 t808.2.2.2.1)) ⟨g811, 4, none⟩ (.int .i64 t808.2.2.2.2.1)) ⟨g811, 5, none⟩ (.int .i64 t808.2.2.2.2.2.1)) ⟨g811, 6, none⟩ (.int .i64 t808.2.2.2.2.2.2.1)) := (hq5).set1 (l1 := [blk g801 #[.int .i64 a797, .int .i64 a798, .int .i64 a799, .int .i64 a800] 32]) (l2 := []) 6 (.int .i64 t808.2.2.2.2.2.2.1); have hq7 : Sep (fps []) w [blk g801 #[.int .i64 a797, .int .i64 a798, .int .i64 a799, .int .i64 a800] 32, blk g811 #[.int .i64 t808.1, .int .i64 t808.2.1, .int .i64 t808.2.2.1, .int .i64 t808.2.2.2.1, .int .i64 t808.2.2.2.2.1, .int .i64 t808.2.2.2.2.2.1, .int .i64 t808.2.2.2.2.2.2.1, .int .i64 t808.2.2.2.2.2.2.2.1] 38] (World.setCell (World.setCell (World.setCell (World.setCell (World.setCell (World.setCell (World.setCell (World.setCell w812 ⟨g811, 0, none⟩ (.int .i64 t808.1)) ⟨g811, 1, none⟩ (.int .i64 t808.2.1)) ⟨g811, 2, none⟩ (.int .i64 t808.2.2.1)) ⟨g811, 3, none⟩ (.int .i64 t808.2.2.2.1)) ⟨g811, 4, none⟩ (.int .i64 t808.2.2.2.2.1)) ⟨g811, 5, none⟩ (.int .i64 t808.2.2.2.2.2.1)) ⟨g811, 6, none⟩ (.int .i64 t808.2.2.2.2.2.2.1)) ⟨g811, 7, none⟩ (.int .i64 t808.2.2.2.2.2.2.2.1)) := (hq6).set1 (l1 := [blk g801 #[.int .i64 a797, .int .i64 a798, .int .i64 a799, .int .i64 a800] 32]) (l2 := []) 7 (.int .i64 t808.2.2.2.2.2.2.2.1); have HS_ : Aside0 (Sep (fps []) w [blk g801 #[.int .i64 a797, .int .i64 a798, .int .i64 a799, .int .i64 a800] 32, blk g811 #[.int .i64 t808.1, .int .i64 t808.2.1, .int .i64 t808.2.2.1, .int .i64 t808.2.2.2.1, .int .i64 t808.2.2.2.2.1, .int .i64 t808.2.2.2.2.2.1, .int .i64 t808.2.2.2.2.2.2.1, .int .i64 t808.2.2.2.2.2.2.2.1] 38] w830) := ⟨by rw [hst]; exact hq7⟩; clear hq0 hq1 hq2 hq3 hq4 hq5 hq6 hq7; clear HS hst; have HS := HS_; clear HS_))
    obtain ⟨o833, AL834, H⟩ := bind_some H
    go_loopg [5, 6] k (fun kq v5 v6 wc => ∃ (x837 : Int) (x838 : Int), v5 = .int .i64 x837 ∧ v6 = .int .i64 x838 ∧ Aside0 (tune_Longest.lo0 kq a797 a798 a799 a800 t808 x837 x838 = some o833) ∧ Aside0 (Sep (fps []) w [blk g801 #[.int .i64 a797, .int .i64 a798, .int .i64 a799, .int .i64 a800] 32, blk g811 #[.int .i64 t808.1, .int .i64 t808.2.1, .int .i64 t808.2.2.1, .int .i64 t808.2.2.2.1, .int .i64 t808.2.2.2.2.1, .int .i64 t808.2.2.2.2.2.1, .int .i64 t808.2.2.2.2.2.2.1, .int .i64 t808.2.2.2.2.2.2.2.1] 38] wc))
    case atStart => exact ⟨(0), (1), (by first | rfl | (simp [IntKind.wrap_u32]; done)), (by first | rfl | (simp [IntKind.wrap_u32]; done)), AL834, ⟨HS.out⟩⟩
    case round =>
      clear AL834 HS
      obtain ⟨x837, x838, rfl, rfl, AL834, HS⟩ := hrel
      obtain ⟨w835, rfl⟩ : ∃ x : World, x = wr := ⟨_, rfl⟩
      cases gk with
      | zero => exact absurd AL834.out (by simp [tune_Longest.lo0])
      | succ k836 =>
        have AL0 := AL834.out
        rw [tune_Longest.lo0] at AL0
        clear AL834
        have AL834 := Aside0.mk AL0
        clear AL0
        by_cases c839 : x838 ≤ 10
        · have AL834 := if_yes c839 AL834
          have c839b0 : decide (x838 ≤ 10) = true := decide_eq_true c839
          clear c839
          have hc840 : w835.cell? ⟨g801, 0, none⟩ = some (.int .i64 a797) := blk_cellv (HS.out.at0) 0 rfl
          have hc841 : w835.cell? ⟨g801, 1, none⟩ = some (.int .i64 a798) := blk_cellv (HS.out.at0) 1 rfl
          have hc842 : w835.cell? ⟨g801, 2, none⟩ = some (.int .i64 a799) := blk_cellv (HS.out.at0) 2 rfl
          have hc843 : w835.cell? ⟨g801, 3, none⟩ = some (.int .i64 a800) := blk_cellv (HS.out.at0) 3 rfl
          have hc844 : w835.cell? ⟨g811, 2, none⟩ = some (.int .i64 t808.2.2.1) := blk_cellv (HS.out.at1) 2 rfl
          go_wp2_with fail
          clear hc840 hc841 hc842 hc843 hc844
          obtain ⟨t918, HA919, AL834⟩ := bind_some AL834
          refine (plan_Pause.calls _ a797 a798 a799 a800 x838 t808.2.2.1 t918 _ ⟨HS.out.begin (l := []) (rest := [blk g801 #[.int .i64 a797, .int .i64 a798, .int .i64 a799, .int .i64 a800] 32, blk g811 #[.int .i64 t808.1, .int .i64 t808.2.1, .int .i64 t808.2.2.1, .int .i64 t808.2.2.2.1, .int .i64 t808.2.2.2.2.1, .int .i64 t808.2.2.2.2.2.1, .int .i64 t808.2.2.2.2.2.2.1, .int .i64 t808.2.2.2.2.2.2.2.1] 38])⟩ HA919).mono ?_
          rintro e_ w920 ⟨rfl, hS⟩
          have HS_ : Aside0 (Sep (fps []) w [blk g801 #[.int .i64 a797, .int .i64 a798, .int .i64 a799, .int .i64 a800] 32, blk g811 #[.int .i64 t808.1, .int .i64 t808.2.1, .int .i64 t808.2.2.1, .int .i64 t808.2.2.2.1, .int .i64 t808.2.2.2.2.1, .int .i64 t808.2.2.2.2.2.1, .int .i64 t808.2.2.2.2.2.2.1, .int .i64 t808.2.2.2.2.2.2.2.1] 38] w920) := ⟨HS.out.call (l := []) (rest := [blk g801 #[.int .i64 a797, .int .i64 a798, .int .i64 a799, .int .i64 a800] 32, blk g811 #[.int .i64 t808.1, .int .i64 t808.2.1, .int .i64 t808.2.2.1, .int .i64 t808.2.2.2.1, .int .i64 t808.2.2.2.2.1, .int .i64 t808.2.2.2.2.2.1, .int .i64 t808.2.2.2.2.2.2.1, .int .i64 t808.2.2.2.2.2.2.2.1] 38]) hS⟩
          clear HS hS
          have HS := HS_
          clear HS_
          by_cases c921 : x837 < t918
          · have AL834 := if_yes c921 AL834
            have c921b0 : decide (x837 < t918) = true := decide_eq_true c921
            skip
            go_wp2_with fail
            clear c921
            go_roundg k836
            case measure => exact Nat.lt_succ_self _
            case rel => exact ⟨(t918), (wrap64 (x838 + 1)), (by first | rfl | (simp [IntKind.wrap_u32]; done)), (by first | rfl | (simp [IntKind.wrap_u32]; done)), Aside0.mk AL834.out, ⟨(((HS.out).front 1 (by simp)).front 1 (by simp)).keep (l := [blk g801 #[.int .i64 a797, .int .i64 a798, .int .i64 a799, .int .i64 a800] 32, blk g811 #[.int .i64 t808.1, .int .i64 t808.2.1, .int .i64 t808.2.2.1, .int .i64 t808.2.2.2.1, .int .i64 t808.2.2.2.2.1, .int .i64 t808.2.2.2.2.2.1, .int .i64 t808.2.2.2.2.2.2.1, .int .i64 t808.2.2.2.2.2.2.2.1] 38]) (rest := [])⟩⟩
          · have AL834 := if_no c921 AL834
            have c921b0 : decide (x837 < t918) = false := decide_eq_false c921
            skip
            go_wp2_with fail
            clear c921
            go_roundg k836
            case measure => exact Nat.lt_succ_self _
            case rel => exact ⟨(x837), (wrap64 (x838 + 1)), (by first | rfl | (simp [IntKind.wrap_u32]; done)), (by first | rfl | (simp [IntKind.wrap_u32]; done)), Aside0.mk AL834.out, ⟨(((HS.out).front 1 (by simp)).front 1 (by simp)).keep (l := [blk g801 #[.int .i64 a797, .int .i64 a798, .int .i64 a799, .int .i64 a800] 32, blk g811 #[.int .i64 t808.1, .int .i64 t808.2.1, .int .i64 t808.2.2.1, .int .i64 t808.2.2.2.1, .int .i64 t808.2.2.2.2.1, .int .i64 t808.2.2.2.2.2.1, .int .i64 t808.2.2.2.2.2.2.1, .int .i64 t808.2.2.2.2.2.2.2.1] 38]) (rest := [])⟩⟩
        · have AL834 := if_no c839 AL834
          have c839b0 : decide (x838 ≤ 10) = false := decide_eq_false c839
          clear c839
          have ho := some_eq AL834
          subst ho
          clear AL834
          go_wp2_with fail
          go_ret
          rw [← some_eq H]
          exact ⟨(by first | rfl | (simp [IntKind.wrap_u32]; done)), (HS.out).keep (l := []) (rest := [blk g801 #[.int .i64 a797, .int .i64 a798, .int .i64 a799, .int .i64 a800] 32, blk g811 #[.int .i64 t808.1, .int .i64 t808.2.1, .int .i64 t808.2.2.1, .int .i64 t808.2.2.2.1, .int .i64 t808.2.2.2.2.1, .int .i64 t808.2.2.2.2.2.1, .int .i64 t808.2.2.2.2.2.2.1, .int .i64 t808.2.2.2.2.2.2.2.1] 38])⟩
  · have H := if_no c831 H
    have c831b0 : (t808.2.2.2.2.2.2.2.2 == 0) = false := beq_eq_false_iff_ne.mpr c831
    have c831b1 : (t808.2.2.2.2.2.2.2.2 != 0) = true := bne_iff_ne.mpr c831
    clear c831
    go_wp2_with (first | ((with_reducible refine gate_dst (N := 3) rfl ?_); refine box_on ?hg (N := 3) ?hd (cs := #[.int .i64 0, .int .i64 0, .int .i64 0, .int .i64 0, .int .i64 0, .int .i64 0, .int .i64 0, .int .i64 0]) (t := 38) ?hr ?_; (case hd => rfl); (case hg => rfl); (case hr => first | (go_simp; done) | (go_simp; rfl)); intro g811 hg w812 hbox hb; have HS_ : Aside0 (Sep (fps []) w [blk g801 #[.int .i64 a797, .int .i64 a798, .int .i64 a799, .int .i64 a800] 32, blk g811 #[.int .i64 0, .int .i64 0, .int .i64 0, .int .i64 0, .int .i64 0, .int .i64 0, .int .i64 0, .int .i64 0] 38] w812) := ⟨HS.out.box hg hbox hb⟩; clear HS hg hbox hb; have HS := HS_; clear HS_; have hc814 : w812.cell? ⟨g811, 0, none⟩ = some (.int .i64 0) := blk_cellv (HS.out.at1) 0 rfl; have hz815 : w812.frozen? ⟨g811, 0, none⟩ = false := blk_fz (HS.out.at1) 0; have hc816 : w812.cell? ⟨g811, 1, none⟩ = some (.int .i64 0) := blk_cellv (HS.out.at1) 1 rfl; have hz817 : w812.frozen? ⟨g811, 1, none⟩ = false := blk_fz (HS.out.at1) 1; have hc818 : w812.cell? ⟨g811, 2, none⟩ = some (.int .i64 0) := blk_cellv (HS.out.at1) 2 rfl; have hz819 : w812.frozen? ⟨g811, 2, none⟩ = false := blk_fz (HS.out.at1) 2; have hc820 : w812.cell? ⟨g811, 3, none⟩ = some (.int .i64 0) := blk_cellv (HS.out.at1) 3 rfl; have hz821 : w812.frozen? ⟨g811, 3, none⟩ = false := blk_fz (HS.out.at1) 3; have hc822 : w812.cell? ⟨g811, 4, none⟩ = some (.int .i64 0) := blk_cellv (HS.out.at1) 4 rfl; have hz823 : w812.frozen? ⟨g811, 4, none⟩ = false := blk_fz (HS.out.at1) 4; have hc824 : w812.cell? ⟨g811, 5, none⟩ = some (.int .i64 0) := blk_cellv (HS.out.at1) 5 rfl; have hz825 : w812.frozen? ⟨g811, 5, none⟩ = false := blk_fz (HS.out.at1) 5; have hc826 : w812.cell? ⟨g811, 6, none⟩ = some (.int .i64 0) := blk_cellv (HS.out.at1) 6 rfl; have hz827 : w812.frozen? ⟨g811, 6, none⟩ = false := blk_fz (HS.out.at1) 6; have hc828 : w812.cell? ⟨g811, 7, none⟩ = some (.int .i64 0) := blk_cellv (HS.out.at1) 7 rfl; have hz829 : w812.frozen? ⟨g811, 7, none⟩ = false := blk_fz (HS.out.at1) 7) | ((with_reducible refine gate_store (t := 38) (p := 3) rfl ?_); refine store_event (w1 := (World.setCell (World.setCell (World.setCell (World.setCell (World.setCell (World.setCell (World.setCell (World.setCell w812 ⟨g811, 0, none⟩ (.int .i64 t808.1)) ⟨g811, 1, none⟩ (.int .i64 t808.2.1)) ⟨g811, 2, none⟩ (.int .i64 t808.2.2.1)) ⟨g811, 3, none⟩ (.int .i64 t808.2.2.2.1)) ⟨g811, 4, none⟩ (.int .i64 t808.2.2.2.2.1)) ⟨g811, 5, none⟩ (.int .i64 t808.2.2.2.2.2.1)) ⟨g811, 6, none⟩ (.int .i64 t808.2.2.2.2.2.2.1)) ⟨g811, 7, none⟩ (.int .i64 t808.2.2.2.2.2.2.2.1))) rfl (t := 38) (p := 3) rfl rfl ?hr ?_; (case hr => first | (go_simp; done) | (go_simp; rfl)); intro w830 hst; clear hc814 hz815 hc816 hz817 hc818 hz819 hc820 hz821 hc822 hz823 hc824 hz825 hc826 hz827 hc828 hz829; have hq0 : Sep (fps []) w [blk g801 #[.int .i64 a797, .int .i64 a798, .int .i64 a799, .int .i64 a800] 32, blk g811 #[.int .i64 t808.1, .int .i64 0, .int .i64 0, .int .i64 0, .int .i64 0, .int .i64 0, .int .i64 0, .int .i64 0] 38] (World.setCell w812 ⟨g811, 0, none⟩ (.int .i64 t808.1)) := (HS.out).set1 (l1 := [blk g801 #[.int .i64 a797, .int .i64 a798, .int .i64 a799, .int .i64 a800] 32]) (l2 := []) 0 (.int .i64 t808.1); have hq1 : Sep (fps []) w [blk g801 #[.int .i64 a797, .int .i64 a798, .int .i64 a799, .int .i64 a800] 32, blk g811 #[.int .i64 t808.1, .int .i64 t808.2.1, .int .i64 0, .int .i64 0, .int .i64 0, .int .i64 0, .int .i64 0, .int .i64 0] 38] (World.setCell (World.setCell w812 ⟨g811, 0, none⟩ (.int .i64 t808.1)) ⟨g811, 1, none⟩ (.int .i64 t808.2.1)) := (hq0).set1 (l1 := [blk g801 #[.int .i64 a797, .int .i64 a798, .int .i64 a799, .int .i64 a800] 32]) (l2 := []) 1 (.int .i64 t808.2.1); have hq2 : Sep (fps []) w [blk g801 #[.int .i64 a797, .int .i64 a798, .int .i64 a799, .int .i64 a800] 32, blk g811 #[.int .i64 t808.1, .int .i64 t808.2.1, .int .i64 t808.2.2.1, .int .i64 0, .int .i64 0, .int .i64 0, .int .i64 0, .int .i64 0] 38] (World.setCell (World.setCell (World.setCell w812 ⟨g811, 0, none⟩ (.int .i64 t808.1)) ⟨g811, 1, none⟩ (.int .i64 t808.2.1)) ⟨g811, 2, none⟩ (.int .i64 t808.2.2.1)) := (hq1).set1 (l1 := [blk g801 #[.int .i64 a797, .int .i64 a798, .int .i64 a799, .int .i64 a800] 32]) (l2 := []) 2 (.int .i64 t808.2.2.1); have hq3 : Sep (fps []) w [blk g801 #[.int .i64 a797, .int .i64 a798, .int .i64 a799, .int .i64 a800] 32, blk g811 #[.int .i64 t808.1, .int .i64 t808.2.1, .int .i64 t808.2.2.1, .int .i64 t808.2.2.2.1, .int .i64 0, .int .i64 0, .int .i64 0, .int .i64 0] 38] (World.setCell (World.setCell (World.setCell (World.setCell w812 ⟨g811, 0, none⟩ (.int .i64 t808.1)) ⟨g811, 1, none⟩ (.int .i64 t808.2.1)) ⟨g811, 2, none⟩ (.int .i64 t808.2.2.1)) ⟨g811, 3, none⟩ (.int .i64 t808.2.2.2.1)) := (hq2).set1 (l1 := [blk g801 #[.int .i64 a797, .int .i64 a798, .int .i64 a799, .int .i64 a800] 32]) (l2 := []) 3 (.int .i64 t808.2.2.2.1); have hq4 : Sep (fps []) w [blk g801 #[.int .i64 a797, .int .i64 a798, .int .i64 a799, .int .i64 a800] 32, blk g811 #[.int .i64 t808.1, .int .i64 t808.2.1, .int .i64 t808.2.2.1, .int .i64 t808.2.2.2.1, .int .i64 t808.2.2.2.2.1, .int .i64 0, .int .i64 0, .int .i64 0] 38] (World.setCell (World.setCell (World.setCell (World.setCell (World.setCell w812 ⟨g811, 0, none⟩ (.int .i64 t808.1)) ⟨g811, 1, none⟩ (.int .i64 t808.2.1)) ⟨g811, 2, none⟩ (.int .i64 t808.2.2.1)) ⟨g811, 3, none⟩ (.int .i64 t808.2.2.2.1)) ⟨g811, 4, none⟩ (.int .i64 t808.2.2.2.2.1)) := (hq3).set1 (l1 := [blk g801 #[.int .i64 a797, .int .i64 a798, .int .i64 a799, .int .i64 a800] 32]) (l2 := []) 4 (.int .i64 t808.2.2.2.2.1); have hq5 : Sep (fps []) w [blk g801 #[.int .i64 a797, .int .i64 a798, .int .i64 a799, .int .i64 a800] 32, blk g811 #[.int .i64 t808.1, .int .i64 t808.2.1, .int .i64 t808.2.2.1, .int .i64 t808.2.2.2.1, .int .i64 t808.2.2.2.2.1, .int .i64 t808.2.2.2.2.2.1, .int .i64 0, .int .i64 0] 38] (World.setCell (World.setCell (World.setCell (World.setCell (World.setCell (World.setCell w812 ⟨g811, 0, none⟩ (.int .i64 t808.1)) ⟨g811, 1, none⟩ (.int .i64 t808.2.1)) ⟨g811, 2, none⟩ (.int .i64 t808.2.2.1)) ⟨g811, 3, none⟩ (.int .i64 t808.2.2.2.1)) ⟨g811, 4, none⟩ (.int .i64 t808.2.2.2.2.1)) ⟨g811, 5, none⟩ (.int .i64 t808.2.2.2.2.2.1)) := (hq4).set1 (l1 := [blk g801 #[.int .i64 a797, .int .i64 a798, .int .i64 a799, .int .i64 a800] 32]) (l2 := []) 5 (.int .i64 t808.2.2.2.2.2.1); have hq6 : Sep (fps []) w [blk g801 #[.int .i64 a797, .int .i64 a798, .int .i64 a799, .int .i64 a800] 32, blk g811 #[.int .i64 t808.1, .int .i64 t808.2.1, .int .i64 t808.2.2.1, .int .i64 t808.2.2.2.1, .int .i64 t808.2.2.2.2.1, .int .i64 t808.2.2.2.2.2.1, .int .i64 t808.2.2.2.2.2.2.1, .int .i64 0] 38] (World.setCell (World.setCell (World.setCell (World.setCell (World.setCell (World.setCell (World.setCell w812 ⟨g811, 0, none⟩ (.int .i64 t808.1)) ⟨g811, 1, none⟩ (.int .i64 t808.2.1)) ⟨g811, 2, none⟩ (.int .i64 t808.2.2.1)) ⟨g811, 3, none⟩ (.int .i64 t808.2.2.2.1)) ⟨g811, 4, none⟩ (.int .i64 t808.2.2.2.2.1)) ⟨g811, 5, none⟩ (.int .i64 t808.2.2.2.2.2.1)) ⟨g811, 6, none⟩ (.int .i64 t808.2.2.2.2.2.2.1)) := (hq5).set1 (l1 := [blk g801 #[.int .i64 a797, .int .i64 a798, .int .i64 a799, .int .i64 a800] 32]) (l2 := []) 6 (.int .i64 t808.2.2.2.2.2.2.1); have hq7 : Sep (fps []) w [blk g801 #[.int .i64 a797, .int .i64 a798, .int .i64 a799, .int .i64 a800] 32, blk g811 #[.int .i64 t808.1, .int .i64 t808.2.1, .int .i64 t808.2.2.1, .int .i64 t808.2.2.2.1, .int .i64 t808.2.2.2.2.1, .int .i64 t808.2.2.2.2.2.1, .int .i64 t808.2.2.2.2.2.2.1, .int .i64 t808.2.2.2.2.2.2.2.1] 38] (World.setCell (World.setCell (World.setCell (World.setCell (World.setCell (World.setCell (World.setCell (World.setCell w812 ⟨g811, 0, none⟩ (.int .i64 t808.1)) ⟨g811, 1, none⟩ (.int .i64 t808.2.1)) ⟨g811, 2, none⟩ (.int .i64 t808.2.2.1)) ⟨g811, 3, none⟩ (.int .i64 t808.2.2.2.1)) ⟨g811, 4, none⟩ (.int .i64 t808.2.2.2.2.1)) ⟨g811, 5, none⟩ (.int .i64 t808.2.2.2.2.2.1)) ⟨g811, 6, none⟩ (.int .i64 t808.2.2.2.2.2.2.1)) ⟨g811, 7, none⟩ (.int .i64 t808.2.2.2.2.2.2.2.1)) := (hq6).set1 (l1 := [blk g801 #[.int .i64 a797, .int .i64 a798, .int .i64 a799, .int .i64 a800] 32]) (l2 := []) 7 (.int .i64 t808.2.2.2.2.2.2.2.1); have HS_ : Aside0 (Sep (fps []) w [blk g801 #[.int .i64 a797, .int .i64 a798, .int .i64 a799, .int .i64 a800] 32, blk g811 #[.int .i64 t808.1, .int .i64 t808.2.1, .int .i64 t808.2.2.1, .int .i64 t808.2.2.2.1, .int .i64 t808.2.2.2.2.1, .int .i64 t808.2.2.2.2.2.1, .int .i64 t808.2.2.2.2.2.2.1, .int .i64 t808.2.2.2.2.2.2.2.1] 38] w830) := ⟨by rw [hst]; exact hq7⟩; clear hq0 hq1 hq2 hq3 hq4 hq5 hq6 hq7; clear HS hst; have HS := HS_; clear HS_))
    go_ret
    rw [← some_eq H]
    exact ⟨(by first | rfl | (simp [IntKind.wrap_u32]; done)), (HS.out).keep (l := []) (rest := [blk g801 #[.int .i64 a797, .int .i64 a798, .int .i64 a799, .int .i64 a800] 32, blk g811 #[.int .i64 t808.1, .int .i64 t808.2.1, .int .i64 t808.2.2.1, .int .i64 t808.2.2.2.1, .int .i64 t808.2.2.2.2.1, .int .i64 t808.2.2.2.2.2.1, .int .i64 t808.2.2.2.2.2.2.1, .int .i64 t808.2.2.2.2.2.2.2.1] 38])⟩

set_option maxHeartbeats 4000000 in
set_option maxRecDepth 100000 in
theorem tune_Fits.calls (k : Nat) (a768 : Int) (a769 : Int) (a770 : Int) (a771 : Int) (a772 : Int) (a773 : Int) (r : Bool) (w : World)  (HS : Aside0 (Sep (fps []) w [] w)) (H : Aside0 (tune_Fits.f k a768 a769 a770 a771 a772 a773 = some r)) :
    Calls Try.prog 29 #[.agg #[.int .i64 a768, .int .i64 a769, .int .i64 a770, .int .i64 a771], .int .i64 a772, .int .i64 a773] w fun e w' => e = .returned (.bool r) ∧ Sep (fps []) w [] w' := by
  unfold tune_Fits.f at H
  go_enter Try.func29, Try.ntmps29
  go_wp2_with (first | ((with_reducible refine gate_dst (N := 3) rfl ?_); refine box_on ?hg (N := 3) ?hd (cs := #[.int .i64 a768, .int .i64 a769, .int .i64 a770, .int .i64 a771]) (t := 32) ?hr ?_; (case hd => rfl); (case hg => rfl); (case hr => first | (go_simp; done) | (go_simp; rfl)); intro g774 hg w775 hbox hb; have HS_ : Aside0 (Sep (fps []) w [blk g774 #[.int .i64 a768, .int .i64 a769, .int .i64 a770, .int .i64 a771] 32] w775) := ⟨HS.out.box hg hbox hb⟩; clear HS hg hbox hb; have HS := HS_; clear HS_; have hc777 : w775.cell? ⟨g774, 0, none⟩ = some (.int .i64 a768) := blk_cellv (HS.out.at0) 0 rfl; have hc778 : w775.cell? ⟨g774, 1, none⟩ = some (.int .i64 a769) := blk_cellv (HS.out.at0) 1 rfl; have hc779 : w775.cell? ⟨g774, 2, none⟩ = some (.int .i64 a770) := blk_cellv (HS.out.at0) 2 rfl; have hc780 : w775.cell? ⟨g774, 3, none⟩ = some (.int .i64 a771) := blk_cellv (HS.out.at0) 3 rfl))
  clear hc777 hc778 hc779 hc780
  obtain ⟨t781, HA782, H⟩ := bind_some H
  refine (tune_may.calls a768 a769 a770 a771 t781 _ ⟨HS.out.begin (l := []) (rest := [blk g774 #[.int .i64 a768, .int .i64 a769, .int .i64 a770, .int .i64 a771] 32])⟩ HA782).mono ?_
  rintro e_ w783 ⟨rfl, hS⟩
  have HS_ : Aside0 (Sep (fps []) w [blk g774 #[.int .i64 a768, .int .i64 a769, .int .i64 a770, .int .i64 a771] 32] w783) := ⟨HS.out.call (l := []) (rest := [blk g774 #[.int .i64 a768, .int .i64 a769, .int .i64 a770, .int .i64 a771] 32]) hS⟩
  clear HS hS
  have HS := HS_
  clear HS_
  by_cases c784 : t781 = true
  · have H := if_yes c784 H
    have c784b0 : t781 = true := c784
    clear c784
    have hc785 : w783.cell? ⟨g774, 0, none⟩ = some (.int .i64 a768) := blk_cellv (HS.out.at0) 0 rfl
    have hc786 : w783.cell? ⟨g774, 1, none⟩ = some (.int .i64 a769) := blk_cellv (HS.out.at0) 1 rfl
    have hc787 : w783.cell? ⟨g774, 2, none⟩ = some (.int .i64 a770) := blk_cellv (HS.out.at0) 2 rfl
    have hc788 : w783.cell? ⟨g774, 3, none⟩ = some (.int .i64 a771) := blk_cellv (HS.out.at0) 3 rfl
    go_wp2_with fail
    clear hc785 hc786 hc787 hc788
    obtain ⟨t789, HA790, H⟩ := bind_some H
    refine (twin_Spare.calls _ a768 a769 a770 a771 t789 _ ⟨HS.out.begin (l := []) (rest := [blk g774 #[.int .i64 a768, .int .i64 a769, .int .i64 a770, .int .i64 a771] 32])⟩ HA790).mono ?_
    rintro e_ w791 ⟨rfl, hS⟩
    have HS_ : Aside0 (Sep (fps []) w [blk g774 #[.int .i64 a768, .int .i64 a769, .int .i64 a770, .int .i64 a771] 32] w791) := ⟨HS.out.call (l := []) (rest := [blk g774 #[.int .i64 a768, .int .i64 a769, .int .i64 a770, .int .i64 a771] 32]) hS⟩
    clear HS hS
    have HS := HS_
    clear HS_
    by_cases c792 : t789 ≥ a772
    · have H := if_yes c792 H
      have c792b0 : decide (a772 ≤ t789) = true := decide_eq_true c792
      clear c792
      have hc793 : w791.cell? ⟨g774, 0, none⟩ = some (.int .i64 a768) := blk_cellv (HS.out.at0) 0 rfl
      have hc794 : w791.cell? ⟨g774, 1, none⟩ = some (.int .i64 a769) := blk_cellv (HS.out.at0) 1 rfl
      have hc795 : w791.cell? ⟨g774, 2, none⟩ = some (.int .i64 a770) := blk_cellv (HS.out.at0) 2 rfl
      have hc796 : w791.cell? ⟨g774, 3, none⟩ = some (.int .i64 a771) := blk_cellv (HS.out.at0) 3 rfl
      go_wp2_with fail
      clear hc793 hc794 hc795 hc796
      obtain ⟨t923, HA924, H⟩ := bind_some H
      refine (tune_Longest.calls _ a768 a769 a770 a771 t923 _ ⟨HS.out.begin (l := []) (rest := [blk g774 #[.int .i64 a768, .int .i64 a769, .int .i64 a770, .int .i64 a771] 32])⟩ HA924).mono ?_
      rintro e_ w925 ⟨rfl, hS⟩
      have HS_ : Aside0 (Sep (fps []) w [blk g774 #[.int .i64 a768, .int .i64 a769, .int .i64 a770, .int .i64 a771] 32] w925) := ⟨HS.out.call (l := []) (rest := [blk g774 #[.int .i64 a768, .int .i64 a769, .int .i64 a770, .int .i64 a771] 32]) hS⟩
      clear HS hS
      have HS := HS_
      clear HS_
      go_wp2_with fail
      go_ret
      rw [← some_eq H]
      exact ⟨(by first | rfl | (simp [IntKind.wrap_u32]; done)), (HS.out).keep (l := []) (rest := [blk g774 #[.int .i64 a768, .int .i64 a769, .int .i64 a770, .int .i64 a771] 32])⟩
    · have H := if_no c792 H
      have c792b0 : decide (a772 ≤ t789) = false := decide_eq_false c792
      clear c792
      go_wp2_with fail
      go_ret
      rw [← some_eq H]
      exact ⟨(by first | rfl | (simp [IntKind.wrap_u32]; done)), (HS.out).keep (l := []) (rest := [blk g774 #[.int .i64 a768, .int .i64 a769, .int .i64 a770, .int .i64 a771] 32])⟩
  · have H := if_no c784 H
    have c784b0 : t781 = false := by simpa using c784
    clear c784
    go_wp2_with fail
    go_ret
    rw [← some_eq H]
    exact ⟨(by first | rfl | (simp [IntKind.wrap_u32]; done)), (HS.out).keep (l := []) (rest := [blk g774 #[.int .i64 a768, .int .i64 a769, .int .i64 a770, .int .i64 a771] 32])⟩

set_option maxHeartbeats 4000000 in
set_option maxRecDepth 100000 in
theorem tune_Choose.calls (k : Nat) (a15 : Int) (a16 : Int) (a17 : Int) (a18 : Int) (a19 : Int) (a20 : Int) (r : Int × Int × Int × Int × Bool) (w : World)  (HS : Aside0 (Sep (fps []) w [] w)) (H : Aside0 (tune_Choose.f k a15 a16 a17 a18 a19 a20 = some r)) :
    Calls Try.prog 26 #[.agg #[.int .i64 a15, .int .i64 a16, .int .i64 a17, .int .i64 a18], .int .i64 a19, .int .i64 a20] w fun e w' => e = .returned (.tuple #[.agg #[.int .i64 r.1, .int .i64 r.2.1, .int .i64 r.2.2.1, .int .i64 r.2.2.2.1], .bool r.2.2.2.2]) ∧ Sep (fps []) w [] w' := by
  unfold tune_Choose.f at H
  go_enter Try.func26, Try.ntmps26
  go_wp2_with (first | ((with_reducible refine gate_dst (N := 3) rfl ?_); refine box_on ?hg (N := 3) ?hd (cs := #[.int .i64 a15, .int .i64 a16, .int .i64 a17, .int .i64 a18]) (t := 32) ?hr ?_; (case hd => rfl); (case hg => rfl); (case hr => first | (go_simp; done) | (go_simp; rfl)); intro g21 hg w22 hbox hb; have HS_ : Aside0 (Sep (fps []) w [blk g21 #[.int .i64 a15, .int .i64 a16, .int .i64 a17, .int .i64 a18] 32] w22) := ⟨HS.out.box hg hbox hb⟩; clear HS hg hbox hb; have HS := HS_; clear HS_) | ((with_reducible refine gate_dst (N := 6) rfl ?_); refine box_on ?hg (N := 6) ?hd (cs := #[.int .i64 0, .int .i64 0, .int .i64 0, .int .i64 0]) (t := 32) ?hr ?_; (case hd => rfl); (case hg => rfl); (case hr => first | (go_simp; done) | (go_simp; rfl)); intro g24 hg w25 hbox hb; have HS_ : Aside0 (Sep (fps []) w [blk g21 #[.int .i64 a15, .int .i64 a16, .int .i64 a17, .int .i64 a18] 32, blk g24 #[.int .i64 0, .int .i64 0, .int .i64 0, .int .i64 0] 32] w25) := ⟨HS.out.box hg hbox hb⟩; clear HS hg hbox hb; have HS := HS_; clear HS_; have hc27 : w25.cell? ⟨g21, 0, none⟩ = some (.int .i64 a15) := blk_cellv (HS.out.at0) 0 rfl; have hc28 : w25.cell? ⟨g21, 1, none⟩ = some (.int .i64 a16) := blk_cellv (HS.out.at0) 1 rfl; have hc29 : w25.cell? ⟨g21, 2, none⟩ = some (.int .i64 a17) := blk_cellv (HS.out.at0) 2 rfl; have hc30 : w25.cell? ⟨g21, 3, none⟩ = some (.int .i64 a18) := blk_cellv (HS.out.at0) 3 rfl))
  clear hc27 hc28 hc29 hc30
  obtain ⟨t741, HA742, H⟩ := bind_some H
  refine (tune_LeastK.calls _ a15 a16 a17 a18 a19 t741 _ ⟨HS.out.begin (l := []) (rest := [blk g21 #[.int .i64 a15, .int .i64 a16, .int .i64 a17, .int .i64 a18] 32, blk g24 #[.int .i64 0, .int .i64 0, .int .i64 0, .int .i64 0] 32])⟩ HA742).mono ?_
  rintro e_ w743 ⟨rfl, hS⟩
  have HS_ : Aside0 (Sep (fps []) w [blk g21 #[.int .i64 a15, .int .i64 a16, .int .i64 a17, .int .i64 a18] 32, blk g24 #[.int .i64 0, .int .i64 0, .int .i64 0, .int .i64 0] 32] w743) := ⟨HS.out.call (l := []) (rest := [blk g21 #[.int .i64 a15, .int .i64 a16, .int .i64 a17, .int .i64 a18] 32, blk g24 #[.int .i64 0, .int .i64 0, .int .i64 0, .int .i64 0] 32]) hS⟩
  clear HS hS
  have HS := HS_
  clear HS_
  have hc744 : w743.cell? ⟨g21, 0, none⟩ = some (.int .i64 a15) := blk_cellv (HS.out.at0) 0 rfl
  have hc745 : w743.cell? ⟨g21, 1, none⟩ = some (.int .i64 a16) := blk_cellv (HS.out.at0) 1 rfl
  have hc746 : w743.cell? ⟨g21, 2, none⟩ = some (.int .i64 a17) := blk_cellv (HS.out.at0) 2 rfl
  have hc747 : w743.cell? ⟨g21, 3, none⟩ = some (.int .i64 a18) := blk_cellv (HS.out.at0) 3 rfl
  go_wp2_with fail
  clear hc744 hc745 hc746 hc747
  obtain ⟨t748, HA749, H⟩ := bind_some H
  refine (tune_with.calls a15 a16 a17 a18 t741.1 t748 _ ⟨HS.out.begin (l := []) (rest := [blk g21 #[.int .i64 a15, .int .i64 a16, .int .i64 a17, .int .i64 a18] 32, blk g24 #[.int .i64 0, .int .i64 0, .int .i64 0, .int .i64 0] 32])⟩ HA749).mono ?_
  rintro e_ w750 ⟨rfl, hS⟩
  have HS_ : Aside0 (Sep (fps []) w [blk g21 #[.int .i64 a15, .int .i64 a16, .int .i64 a17, .int .i64 a18] 32, blk g24 #[.int .i64 0, .int .i64 0, .int .i64 0, .int .i64 0] 32] w750) := ⟨HS.out.call (l := []) (rest := [blk g21 #[.int .i64 a15, .int .i64 a16, .int .i64 a17, .int .i64 a18] 32, blk g24 #[.int .i64 0, .int .i64 0, .int .i64 0, .int .i64 0] 32]) hS⟩
  clear HS hS
  have HS := HS_
  clear HS_
  by_cases c763 : t741.2 = true
  · have H := if_yes c763 H
    have c763b0 : t741.2 = true := c763
    clear c763
    go_wp2_with (first | ((with_reducible refine gate_dst (N := 10) rfl ?_); refine box_on ?hg (N := 10) ?hd (cs := #[.int .i64 0, .int .i64 0, .int .i64 0, .int .i64 0]) (t := 32) ?hr ?_; (case hd => rfl); (case hg => rfl); (case hr => first | (go_simp; done) | (go_simp; rfl)); intro g751 hg w752 hbox hb; have HS_ : Aside0 (Sep (fps []) w [blk g21 #[.int .i64 a15, .int .i64 a16, .int .i64 a17, .int .i64 a18] 32, blk g24 #[.int .i64 0, .int .i64 0, .int .i64 0, .int .i64 0] 32, blk g751 #[.int .i64 0, .int .i64 0, .int .i64 0, .int .i64 0] 32] w752) := ⟨HS.out.box hg hbox hb⟩; clear HS hg hbox hb; have HS := HS_; clear HS_; have hc754 : w752.cell? ⟨g751, 0, none⟩ = some (.int .i64 0) := blk_cellv (HS.out.at2) 0 rfl; have hz755 : w752.frozen? ⟨g751, 0, none⟩ = false := blk_fz (HS.out.at2) 0; have hc756 : w752.cell? ⟨g751, 1, none⟩ = some (.int .i64 0) := blk_cellv (HS.out.at2) 1 rfl; have hz757 : w752.frozen? ⟨g751, 1, none⟩ = false := blk_fz (HS.out.at2) 1; have hc758 : w752.cell? ⟨g751, 2, none⟩ = some (.int .i64 0) := blk_cellv (HS.out.at2) 2 rfl; have hz759 : w752.frozen? ⟨g751, 2, none⟩ = false := blk_fz (HS.out.at2) 2; have hc760 : w752.cell? ⟨g751, 3, none⟩ = some (.int .i64 0) := blk_cellv (HS.out.at2) 3 rfl; have hz761 : w752.frozen? ⟨g751, 3, none⟩ = false := blk_fz (HS.out.at2) 3) | ((with_reducible refine gate_store (t := 32) (p := 10) rfl ?_); refine store_event (w1 := (World.setCell (World.setCell (World.setCell (World.setCell w752 ⟨g751, 0, none⟩ (.int .i64 t748.1)) ⟨g751, 1, none⟩ (.int .i64 t748.2.1)) ⟨g751, 2, none⟩ (.int .i64 t748.2.2.1)) ⟨g751, 3, none⟩ (.int .i64 t748.2.2.2))) rfl (t := 32) (p := 10) rfl rfl ?hr ?_; (case hr => first | (go_simp; done) | (go_simp; rfl)); intro w762 hst; clear hc754 hz755 hc756 hz757 hc758 hz759 hc760 hz761; have hq0 : Sep (fps []) w [blk g21 #[.int .i64 a15, .int .i64 a16, .int .i64 a17, .int .i64 a18] 32, blk g24 #[.int .i64 0, .int .i64 0, .int .i64 0, .int .i64 0] 32, blk g751 #[.int .i64 t748.1, .int .i64 0, .int .i64 0, .int .i64 0] 32] (World.setCell w752 ⟨g751, 0, none⟩ (.int .i64 t748.1)) := (HS.out).set1 (l1 := [blk g21 #[.int .i64 a15, .int .i64 a16, .int .i64 a17, .int .i64 a18] 32, blk g24 #[.int .i64 0, .int .i64 0, .int .i64 0, .int .i64 0] 32]) (l2 := []) 0 (.int .i64 t748.1); have hq1 : Sep (fps []) w [blk g21 #[.int .i64 a15, .int .i64 a16, .int .i64 a17, .int .i64 a18] 32, blk g24 #[.int .i64 0, .int .i64 0, .int .i64 0, .int .i64 0] 32, blk g751 #[.int .i64 t748.1, .int .i64 t748.2.1, .int .i64 0, .int .i64 0] 32] (World.setCell (World.setCell w752 ⟨g751, 0, none⟩ (.int .i64 t748.1)) ⟨g751, 1, none⟩ (.int .i64 t748.2.1)) := (hq0).set1 (l1 := [blk g21 #[.int .i64 a15, .int .i64 a16, .int .i64 a17, .int .i64 a18] 32, blk g24 #[.int .i64 0, .int .i64 0, .int .i64 0, .int .i64 0] 32]) (l2 := []) 1 (.int .i64 t748.2.1); have hq2 : Sep (fps []) w [blk g21 #[.int .i64 a15, .int .i64 a16, .int .i64 a17, .int .i64 a18] 32, blk g24 #[.int .i64 0, .int .i64 0, .int .i64 0, .int .i64 0] 32, blk g751 #[.int .i64 t748.1, .int .i64 t748.2.1, .int .i64 t748.2.2.1, .int .i64 0] 32] (World.setCell (World.setCell (World.setCell w752 ⟨g751, 0, none⟩ (.int .i64 t748.1)) ⟨g751, 1, none⟩ (.int .i64 t748.2.1)) ⟨g751, 2, none⟩ (.int .i64 t748.2.2.1)) := (hq1).set1 (l1 := [blk g21 #[.int .i64 a15, .int .i64 a16, .int .i64 a17, .int .i64 a18] 32, blk g24 #[.int .i64 0, .int .i64 0, .int .i64 0, .int .i64 0] 32]) (l2 := []) 2 (.int .i64 t748.2.2.1); have hq3 : Sep (fps []) w [blk g21 #[.int .i64 a15, .int .i64 a16, .int .i64 a17, .int .i64 a18] 32, blk g24 #[.int .i64 0, .int .i64 0, .int .i64 0, .int .i64 0] 32, blk g751 #[.int .i64 t748.1, .int .i64 t748.2.1, .int .i64 t748.2.2.1, .int .i64 t748.2.2.2] 32] (World.setCell (World.setCell (World.setCell (World.setCell w752 ⟨g751, 0, none⟩ (.int .i64 t748.1)) ⟨g751, 1, none⟩ (.int .i64 t748.2.1)) ⟨g751, 2, none⟩ (.int .i64 t748.2.2.1)) ⟨g751, 3, none⟩ (.int .i64 t748.2.2.2)) := (hq2).set1 (l1 := [blk g21 #[.int .i64 a15, .int .i64 a16, .int .i64 a17, .int .i64 a18] 32, blk g24 #[.int .i64 0, .int .i64 0, .int .i64 0, .int .i64 0] 32]) (l2 := []) 3 (.int .i64 t748.2.2.2); have HS_ : Aside0 (Sep (fps []) w [blk g21 #[.int .i64 a15, .int .i64 a16, .int .i64 a17, .int .i64 a18] 32, blk g24 #[.int .i64 0, .int .i64 0, .int .i64 0, .int .i64 0] 32, blk g751 #[.int .i64 t748.1, .int .i64 t748.2.1, .int .i64 t748.2.2.1, .int .i64 t748.2.2.2] 32] w762) := ⟨by rw [hst]; exact hq3⟩; clear hq0 hq1 hq2 hq3; clear HS hst; have HS := HS_; clear HS_; have hc764 : w762.cell? ⟨g751, 0, none⟩ = some (.int .i64 t748.1) := blk_cellv (HS.out.at2) 0 rfl; have hc765 : w762.cell? ⟨g751, 1, none⟩ = some (.int .i64 t748.2.1) := blk_cellv (HS.out.at2) 1 rfl; have hc766 : w762.cell? ⟨g751, 2, none⟩ = some (.int .i64 t748.2.2.1) := blk_cellv (HS.out.at2) 2 rfl; have hc767 : w762.cell? ⟨g751, 3, none⟩ = some (.int .i64 t748.2.2.2) := blk_cellv (HS.out.at2) 3 rfl))
    clear hc764 hc765 hc766 hc767
    obtain ⟨t926, HA927, H⟩ := bind_some H
    refine (tune_Fits.calls _ t748.1 t748.2.1 t748.2.2.1 t748.2.2.2 a19 a20 t926 _ ⟨HS.out.begin (l := []) (rest := [blk g21 #[.int .i64 a15, .int .i64 a16, .int .i64 a17, .int .i64 a18] 32, blk g24 #[.int .i64 0, .int .i64 0, .int .i64 0, .int .i64 0] 32, blk g751 #[.int .i64 t748.1, .int .i64 t748.2.1, .int .i64 t748.2.2.1, .int .i64 t748.2.2.2] 32])⟩ HA927).mono ?_
    rintro e_ w928 ⟨rfl, hS⟩
    have HS_ : Aside0 (Sep (fps []) w [blk g21 #[.int .i64 a15, .int .i64 a16, .int .i64 a17, .int .i64 a18] 32, blk g24 #[.int .i64 0, .int .i64 0, .int .i64 0, .int .i64 0] 32, blk g751 #[.int .i64 t748.1, .int .i64 t748.2.1, .int .i64 t748.2.2.1, .int .i64 t748.2.2.2] 32] w928) := ⟨HS.out.call (l := []) (rest := [blk g21 #[.int .i64 a15, .int .i64 a16, .int .i64 a17, .int .i64 a18] 32, blk g24 #[.int .i64 0, .int .i64 0, .int .i64 0, .int .i64 0] 32, blk g751 #[.int .i64 t748.1, .int .i64 t748.2.1, .int .i64 t748.2.2.1, .int .i64 t748.2.2.2] 32]) hS⟩
    clear HS hS
    have HS := HS_
    clear HS_
    by_cases c929 : t926 = true
    · have H := if_yes c929 H
      have c929b0 : t926 = true := c929
      clear c929
      have hc930 : w928.cell? ⟨g751, 0, none⟩ = some (.int .i64 t748.1) := blk_cellv (HS.out.at2) 0 rfl
      have hc931 : w928.cell? ⟨g751, 1, none⟩ = some (.int .i64 t748.2.1) := blk_cellv (HS.out.at2) 1 rfl
      have hc932 : w928.cell? ⟨g751, 2, none⟩ = some (.int .i64 t748.2.2.1) := blk_cellv (HS.out.at2) 2 rfl
      have hc933 : w928.cell? ⟨g751, 3, none⟩ = some (.int .i64 t748.2.2.2) := blk_cellv (HS.out.at2) 3 rfl
      have hc934 : w928.cell? ⟨g24, 0, none⟩ = some (.int .i64 0) := blk_cellv (HS.out.at1) 0 rfl
      have hz935 : w928.frozen? ⟨g24, 0, none⟩ = false := blk_fz (HS.out.at1) 0
      have hc936 : w928.cell? ⟨g24, 1, none⟩ = some (.int .i64 0) := blk_cellv (HS.out.at1) 1 rfl
      have hz937 : w928.frozen? ⟨g24, 1, none⟩ = false := blk_fz (HS.out.at1) 1
      have hc938 : w928.cell? ⟨g24, 2, none⟩ = some (.int .i64 0) := blk_cellv (HS.out.at1) 2 rfl
      have hz939 : w928.frozen? ⟨g24, 2, none⟩ = false := blk_fz (HS.out.at1) 2
      have hc940 : w928.cell? ⟨g24, 3, none⟩ = some (.int .i64 0) := blk_cellv (HS.out.at1) 3 rfl
      have hz941 : w928.frozen? ⟨g24, 3, none⟩ = false := blk_fz (HS.out.at1) 3
      go_wp2_with (first | ((with_reducible refine gate_store (t := 32) (p := 6) rfl ?_); refine store_event (w1 := (World.setCell (World.setCell (World.setCell (World.setCell w928 ⟨g24, 0, none⟩ (.int .i64 t748.1)) ⟨g24, 1, none⟩ (.int .i64 t748.2.1)) ⟨g24, 2, none⟩ (.int .i64 t748.2.2.1)) ⟨g24, 3, none⟩ (.int .i64 t748.2.2.2))) rfl (t := 32) (p := 6) rfl rfl ?hr ?_; (case hr => first | (go_simp; done) | (go_simp; rfl)); intro w942 hst; clear hc930 hc931 hc932 hc933 hc934 hz935 hc936 hz937 hc938 hz939 hc940 hz941; have hq0 : Sep (fps []) w [blk g21 #[.int .i64 a15, .int .i64 a16, .int .i64 a17, .int .i64 a18] 32, blk g24 #[.int .i64 t748.1, .int .i64 0, .int .i64 0, .int .i64 0] 32, blk g751 #[.int .i64 t748.1, .int .i64 t748.2.1, .int .i64 t748.2.2.1, .int .i64 t748.2.2.2] 32] (World.setCell w928 ⟨g24, 0, none⟩ (.int .i64 t748.1)) := (HS.out).set1 (l1 := [blk g21 #[.int .i64 a15, .int .i64 a16, .int .i64 a17, .int .i64 a18] 32]) (l2 := [blk g751 #[.int .i64 t748.1, .int .i64 t748.2.1, .int .i64 t748.2.2.1, .int .i64 t748.2.2.2] 32]) 0 (.int .i64 t748.1); have hq1 : Sep (fps []) w [blk g21 #[.int .i64 a15, .int .i64 a16, .int .i64 a17, .int .i64 a18] 32, blk g24 #[.int .i64 t748.1, .int .i64 t748.2.1, .int .i64 0, .int .i64 0] 32, blk g751 #[.int .i64 t748.1, .int .i64 t748.2.1, .int .i64 t748.2.2.1, .int .i64 t748.2.2.2] 32] (World.setCell (World.setCell w928 ⟨g24, 0, none⟩ (.int .i64 t748.1)) ⟨g24, 1, none⟩ (.int .i64 t748.2.1)) := (hq0).set1 (l1 := [blk g21 #[.int .i64 a15, .int .i64 a16, .int .i64 a17, .int .i64 a18] 32]) (l2 := [blk g751 #[.int .i64 t748.1, .int .i64 t748.2.1, .int .i64 t748.2.2.1, .int .i64 t748.2.2.2] 32]) 1 (.int .i64 t748.2.1); have hq2 : Sep (fps []) w [blk g21 #[.int .i64 a15, .int .i64 a16, .int .i64 a17, .int .i64 a18] 32, blk g24 #[.int .i64 t748.1, .int .i64 t748.2.1, .int .i64 t748.2.2.1, .int .i64 0] 32, blk g751 #[.int .i64 t748.1, .int .i64 t748.2.1, .int .i64 t748.2.2.1, .int .i64 t748.2.2.2] 32] (World.setCell (World.setCell (World.setCell w928 ⟨g24, 0, none⟩ (.int .i64 t748.1)) ⟨g24, 1, none⟩ (.int .i64 t748.2.1)) ⟨g24, 2, none⟩ (.int .i64 t748.2.2.1)) := (hq1).set1 (l1 := [blk g21 #[.int .i64 a15, .int .i64 a16, .int .i64 a17, .int .i64 a18] 32]) (l2 := [blk g751 #[.int .i64 t748.1, .int .i64 t748.2.1, .int .i64 t748.2.2.1, .int .i64 t748.2.2.2] 32]) 2 (.int .i64 t748.2.2.1); have hq3 : Sep (fps []) w [blk g21 #[.int .i64 a15, .int .i64 a16, .int .i64 a17, .int .i64 a18] 32, blk g24 #[.int .i64 t748.1, .int .i64 t748.2.1, .int .i64 t748.2.2.1, .int .i64 t748.2.2.2] 32, blk g751 #[.int .i64 t748.1, .int .i64 t748.2.1, .int .i64 t748.2.2.1, .int .i64 t748.2.2.2] 32] (World.setCell (World.setCell (World.setCell (World.setCell w928 ⟨g24, 0, none⟩ (.int .i64 t748.1)) ⟨g24, 1, none⟩ (.int .i64 t748.2.1)) ⟨g24, 2, none⟩ (.int .i64 t748.2.2.1)) ⟨g24, 3, none⟩ (.int .i64 t748.2.2.2)) := (hq2).set1 (l1 := [blk g21 #[.int .i64 a15, .int .i64 a16, .int .i64 a17, .int .i64 a18] 32]) (l2 := [blk g751 #[.int .i64 t748.1, .int .i64 t748.2.1, .int .i64 t748.2.2.1, .int .i64 t748.2.2.2] 32]) 3 (.int .i64 t748.2.2.2); have HS_ : Aside0 (Sep (fps []) w [blk g21 #[.int .i64 a15, .int .i64 a16, .int .i64 a17, .int .i64 a18] 32, blk g24 #[.int .i64 t748.1, .int .i64 t748.2.1, .int .i64 t748.2.2.1, .int .i64 t748.2.2.2] 32, blk g751 #[.int .i64 t748.1, .int .i64 t748.2.1, .int .i64 t748.2.2.1, .int .i64 t748.2.2.2] 32] w942) := ⟨by rw [hst]; exact hq3⟩; clear hq0 hq1 hq2 hq3; clear HS hst; have HS := HS_; clear HS_))
      have hc943 : w942.cell? ⟨g24, 0, none⟩ = some (.int .i64 t748.1) := blk_cellv (HS.out.at1) 0 rfl
      have hc944 : w942.cell? ⟨g24, 1, none⟩ = some (.int .i64 t748.2.1) := blk_cellv (HS.out.at1) 1 rfl
      have hc945 : w942.cell? ⟨g24, 2, none⟩ = some (.int .i64 t748.2.2.1) := blk_cellv (HS.out.at1) 2 rfl
      have hc946 : w942.cell? ⟨g24, 3, none⟩ = some (.int .i64 t748.2.2.2) := blk_cellv (HS.out.at1) 3 rfl
      refine bodyPost_ret (v := .tuple #[.agg #[.int .i64 t748.1, .int .i64 t748.2.1, .int .i64 t748.2.2.1, .int .i64 t748.2.2.2], .bool true]) (by simp [results, Try.results26, go_sem, hc943, hc944, hc945, hc946]) rfl ?_
      rw [← some_eq H]
      exact ⟨(by first | rfl | (simp [IntKind.wrap_u32]; done)), (HS.out).keep (l := []) (rest := [blk g21 #[.int .i64 a15, .int .i64 a16, .int .i64 a17, .int .i64 a18] 32, blk g24 #[.int .i64 t748.1, .int .i64 t748.2.1, .int .i64 t748.2.2.1, .int .i64 t748.2.2.2] 32, blk g751 #[.int .i64 t748.1, .int .i64 t748.2.1, .int .i64 t748.2.2.1, .int .i64 t748.2.2.2] 32])⟩
    · have H := if_no c929 H
      have c929b0 : t926 = false := by simpa using c929
      clear c929
      have hc947 : w928.cell? ⟨g24, 0, none⟩ = some (.int .i64 0) := blk_cellv (HS.out.at1) 0 rfl
      have hz948 : w928.frozen? ⟨g24, 0, none⟩ = false := blk_fz (HS.out.at1) 0
      have hc949 : w928.cell? ⟨g24, 1, none⟩ = some (.int .i64 0) := blk_cellv (HS.out.at1) 1 rfl
      have hz950 : w928.frozen? ⟨g24, 1, none⟩ = false := blk_fz (HS.out.at1) 1
      have hc951 : w928.cell? ⟨g24, 2, none⟩ = some (.int .i64 0) := blk_cellv (HS.out.at1) 2 rfl
      have hz952 : w928.frozen? ⟨g24, 2, none⟩ = false := blk_fz (HS.out.at1) 2
      have hc953 : w928.cell? ⟨g24, 3, none⟩ = some (.int .i64 0) := blk_cellv (HS.out.at1) 3 rfl
      have hz954 : w928.frozen? ⟨g24, 3, none⟩ = false := blk_fz (HS.out.at1) 3
      go_wp2_with (first | ((with_reducible refine gate_store (t := 32) (p := 6) rfl ?_); refine store_event (w1 := (World.setCell (World.setCell (World.setCell (World.setCell w928 ⟨g24, 0, none⟩ (.int .i64 0)) ⟨g24, 1, none⟩ (.int .i64 0)) ⟨g24, 2, none⟩ (.int .i64 0)) ⟨g24, 3, none⟩ (.int .i64 0))) rfl (t := 32) (p := 6) rfl rfl ?hr ?_; (case hr => first | (go_simp; done) | (go_simp; rfl)); intro w955 hst; clear hc947 hz948 hc949 hz950 hc951 hz952 hc953 hz954; have hq0 : Sep (fps []) w [blk g21 #[.int .i64 a15, .int .i64 a16, .int .i64 a17, .int .i64 a18] 32, blk g24 #[.int .i64 0, .int .i64 0, .int .i64 0, .int .i64 0] 32, blk g751 #[.int .i64 t748.1, .int .i64 t748.2.1, .int .i64 t748.2.2.1, .int .i64 t748.2.2.2] 32] (World.setCell w928 ⟨g24, 0, none⟩ (.int .i64 0)) := (HS.out).set1 (l1 := [blk g21 #[.int .i64 a15, .int .i64 a16, .int .i64 a17, .int .i64 a18] 32]) (l2 := [blk g751 #[.int .i64 t748.1, .int .i64 t748.2.1, .int .i64 t748.2.2.1, .int .i64 t748.2.2.2] 32]) 0 (.int .i64 0); have hq1 : Sep (fps []) w [blk g21 #[.int .i64 a15, .int .i64 a16, .int .i64 a17, .int .i64 a18] 32, blk g24 #[.int .i64 0, .int .i64 0, .int .i64 0, .int .i64 0] 32, blk g751 #[.int .i64 t748.1, .int .i64 t748.2.1, .int .i64 t748.2.2.1, .int .i64 t748.2.2.2] 32] (World.setCell (World.setCell w928 ⟨g24, 0, none⟩ (.int .i64 0)) ⟨g24, 1, none⟩ (.int .i64 0)) := (hq0).set1 (l1 := [blk g21 #[.int .i64 a15, .int .i64 a16, .int .i64 a17, .int .i64 a18] 32]) (l2 := [blk g751 #[.int .i64 t748.1, .int .i64 t748.2.1, .int .i64 t748.2.2.1, .int .i64 t748.2.2.2] 32]) 1 (.int .i64 0); have hq2 : Sep (fps []) w [blk g21 #[.int .i64 a15, .int .i64 a16, .int .i64 a17, .int .i64 a18] 32, blk g24 #[.int .i64 0, .int .i64 0, .int .i64 0, .int .i64 0] 32, blk g751 #[.int .i64 t748.1, .int .i64 t748.2.1, .int .i64 t748.2.2.1, .int .i64 t748.2.2.2] 32] (World.setCell (World.setCell (World.setCell w928 ⟨g24, 0, none⟩ (.int .i64 0)) ⟨g24, 1, none⟩ (.int .i64 0)) ⟨g24, 2, none⟩ (.int .i64 0)) := (hq1).set1 (l1 := [blk g21 #[.int .i64 a15, .int .i64 a16, .int .i64 a17, .int .i64 a18] 32]) (l2 := [blk g751 #[.int .i64 t748.1, .int .i64 t748.2.1, .int .i64 t748.2.2.1, .int .i64 t748.2.2.2] 32]) 2 (.int .i64 0); have hq3 : Sep (fps []) w [blk g21 #[.int .i64 a15, .int .i64 a16, .int .i64 a17, .int .i64 a18] 32, blk g24 #[.int .i64 0, .int .i64 0, .int .i64 0, .int .i64 0] 32, blk g751 #[.int .i64 t748.1, .int .i64 t748.2.1, .int .i64 t748.2.2.1, .int .i64 t748.2.2.2] 32] (World.setCell (World.setCell (World.setCell (World.setCell w928 ⟨g24, 0, none⟩ (.int .i64 0)) ⟨g24, 1, none⟩ (.int .i64 0)) ⟨g24, 2, none⟩ (.int .i64 0)) ⟨g24, 3, none⟩ (.int .i64 0)) := (hq2).set1 (l1 := [blk g21 #[.int .i64 a15, .int .i64 a16, .int .i64 a17, .int .i64 a18] 32]) (l2 := [blk g751 #[.int .i64 t748.1, .int .i64 t748.2.1, .int .i64 t748.2.2.1, .int .i64 t748.2.2.2] 32]) 3 (.int .i64 0); have HS_ : Aside0 (Sep (fps []) w [blk g21 #[.int .i64 a15, .int .i64 a16, .int .i64 a17, .int .i64 a18] 32, blk g24 #[.int .i64 0, .int .i64 0, .int .i64 0, .int .i64 0] 32, blk g751 #[.int .i64 t748.1, .int .i64 t748.2.1, .int .i64 t748.2.2.1, .int .i64 t748.2.2.2] 32] w955) := ⟨by rw [hst]; exact hq3⟩; clear hq0 hq1 hq2 hq3; clear HS hst; have HS := HS_; clear HS_))
      have hc956 : w955.cell? ⟨g24, 0, none⟩ = some (.int .i64 0) := blk_cellv (HS.out.at1) 0 rfl
      have hc957 : w955.cell? ⟨g24, 1, none⟩ = some (.int .i64 0) := blk_cellv (HS.out.at1) 1 rfl
      have hc958 : w955.cell? ⟨g24, 2, none⟩ = some (.int .i64 0) := blk_cellv (HS.out.at1) 2 rfl
      have hc959 : w955.cell? ⟨g24, 3, none⟩ = some (.int .i64 0) := blk_cellv (HS.out.at1) 3 rfl
      refine bodyPost_ret (v := .tuple #[.agg #[.int .i64 0, .int .i64 0, .int .i64 0, .int .i64 0], .bool false]) (by simp [results, Try.results26, go_sem, hc956, hc957, hc958, hc959]) rfl ?_
      rw [← some_eq H]
      exact ⟨(by first | rfl | (simp [IntKind.wrap_u32]; done)), (HS.out).keep (l := []) (rest := [blk g21 #[.int .i64 a15, .int .i64 a16, .int .i64 a17, .int .i64 a18] 32, blk g24 #[.int .i64 0, .int .i64 0, .int .i64 0, .int .i64 0] 32, blk g751 #[.int .i64 t748.1, .int .i64 t748.2.1, .int .i64 t748.2.2.1, .int .i64 t748.2.2.2] 32])⟩
  · have H := if_no c763 H
    have c763b0 : t741.2 = false := by simpa using c763
    clear c763
    go_wp2_with (first | ((with_reducible refine gate_dst (N := 10) rfl ?_); refine box_on ?hg (N := 10) ?hd (cs := #[.int .i64 0, .int .i64 0, .int .i64 0, .int .i64 0]) (t := 32) ?hr ?_; (case hd => rfl); (case hg => rfl); (case hr => first | (go_simp; done) | (go_simp; rfl)); intro g751 hg w752 hbox hb; have HS_ : Aside0 (Sep (fps []) w [blk g21 #[.int .i64 a15, .int .i64 a16, .int .i64 a17, .int .i64 a18] 32, blk g24 #[.int .i64 0, .int .i64 0, .int .i64 0, .int .i64 0] 32, blk g751 #[.int .i64 0, .int .i64 0, .int .i64 0, .int .i64 0] 32] w752) := ⟨HS.out.box hg hbox hb⟩; clear HS hg hbox hb; have HS := HS_; clear HS_; have hc754 : w752.cell? ⟨g751, 0, none⟩ = some (.int .i64 0) := blk_cellv (HS.out.at2) 0 rfl; have hz755 : w752.frozen? ⟨g751, 0, none⟩ = false := blk_fz (HS.out.at2) 0; have hc756 : w752.cell? ⟨g751, 1, none⟩ = some (.int .i64 0) := blk_cellv (HS.out.at2) 1 rfl; have hz757 : w752.frozen? ⟨g751, 1, none⟩ = false := blk_fz (HS.out.at2) 1; have hc758 : w752.cell? ⟨g751, 2, none⟩ = some (.int .i64 0) := blk_cellv (HS.out.at2) 2 rfl; have hz759 : w752.frozen? ⟨g751, 2, none⟩ = false := blk_fz (HS.out.at2) 2; have hc760 : w752.cell? ⟨g751, 3, none⟩ = some (.int .i64 0) := blk_cellv (HS.out.at2) 3 rfl; have hz761 : w752.frozen? ⟨g751, 3, none⟩ = false := blk_fz (HS.out.at2) 3) | ((with_reducible refine gate_store (t := 32) (p := 10) rfl ?_); refine store_event (w1 := (World.setCell (World.setCell (World.setCell (World.setCell w752 ⟨g751, 0, none⟩ (.int .i64 t748.1)) ⟨g751, 1, none⟩ (.int .i64 t748.2.1)) ⟨g751, 2, none⟩ (.int .i64 t748.2.2.1)) ⟨g751, 3, none⟩ (.int .i64 t748.2.2.2))) rfl (t := 32) (p := 10) rfl rfl ?hr ?_; (case hr => first | (go_simp; done) | (go_simp; rfl)); intro w762 hst; clear hc754 hz755 hc756 hz757 hc758 hz759 hc760 hz761; have hq0 : Sep (fps []) w [blk g21 #[.int .i64 a15, .int .i64 a16, .int .i64 a17, .int .i64 a18] 32, blk g24 #[.int .i64 0, .int .i64 0, .int .i64 0, .int .i64 0] 32, blk g751 #[.int .i64 t748.1, .int .i64 0, .int .i64 0, .int .i64 0] 32] (World.setCell w752 ⟨g751, 0, none⟩ (.int .i64 t748.1)) := (HS.out).set1 (l1 := [blk g21 #[.int .i64 a15, .int .i64 a16, .int .i64 a17, .int .i64 a18] 32, blk g24 #[.int .i64 0, .int .i64 0, .int .i64 0, .int .i64 0] 32]) (l2 := []) 0 (.int .i64 t748.1); have hq1 : Sep (fps []) w [blk g21 #[.int .i64 a15, .int .i64 a16, .int .i64 a17, .int .i64 a18] 32, blk g24 #[.int .i64 0, .int .i64 0, .int .i64 0, .int .i64 0] 32, blk g751 #[.int .i64 t748.1, .int .i64 t748.2.1, .int .i64 0, .int .i64 0] 32] (World.setCell (World.setCell w752 ⟨g751, 0, none⟩ (.int .i64 t748.1)) ⟨g751, 1, none⟩ (.int .i64 t748.2.1)) := (hq0).set1 (l1 := [blk g21 #[.int .i64 a15, .int .i64 a16, .int .i64 a17, .int .i64 a18] 32, blk g24 #[.int .i64 0, .int .i64 0, .int .i64 0, .int .i64 0] 32]) (l2 := []) 1 (.int .i64 t748.2.1); have hq2 : Sep (fps []) w [blk g21 #[.int .i64 a15, .int .i64 a16, .int .i64 a17, .int .i64 a18] 32, blk g24 #[.int .i64 0, .int .i64 0, .int .i64 0, .int .i64 0] 32, blk g751 #[.int .i64 t748.1, .int .i64 t748.2.1, .int .i64 t748.2.2.1, .int .i64 0] 32] (World.setCell (World.setCell (World.setCell w752 ⟨g751, 0, none⟩ (.int .i64 t748.1)) ⟨g751, 1, none⟩ (.int .i64 t748.2.1)) ⟨g751, 2, none⟩ (.int .i64 t748.2.2.1)) := (hq1).set1 (l1 := [blk g21 #[.int .i64 a15, .int .i64 a16, .int .i64 a17, .int .i64 a18] 32, blk g24 #[.int .i64 0, .int .i64 0, .int .i64 0, .int .i64 0] 32]) (l2 := []) 2 (.int .i64 t748.2.2.1); have hq3 : Sep (fps []) w [blk g21 #[.int .i64 a15, .int .i64 a16, .int .i64 a17, .int .i64 a18] 32, blk g24 #[.int .i64 0, .int .i64 0, .int .i64 0, .int .i64 0] 32, blk g751 #[.int .i64 t748.1, .int .i64 t748.2.1, .int .i64 t748.2.2.1, .int .i64 t748.2.2.2] 32] (World.setCell (World.setCell (World.setCell (World.setCell w752 ⟨g751, 0, none⟩ (.int .i64 t748.1)) ⟨g751, 1, none⟩ (.int .i64 t748.2.1)) ⟨g751, 2, none⟩ (.int .i64 t748.2.2.1)) ⟨g751, 3, none⟩ (.int .i64 t748.2.2.2)) := (hq2).set1 (l1 := [blk g21 #[.int .i64 a15, .int .i64 a16, .int .i64 a17, .int .i64 a18] 32, blk g24 #[.int .i64 0, .int .i64 0, .int .i64 0, .int .i64 0] 32]) (l2 := []) 3 (.int .i64 t748.2.2.2); have HS_ : Aside0 (Sep (fps []) w [blk g21 #[.int .i64 a15, .int .i64 a16, .int .i64 a17, .int .i64 a18] 32, blk g24 #[.int .i64 0, .int .i64 0, .int .i64 0, .int .i64 0] 32, blk g751 #[.int .i64 t748.1, .int .i64 t748.2.1, .int .i64 t748.2.2.1, .int .i64 t748.2.2.2] 32] w762) := ⟨by rw [hst]; exact hq3⟩; clear hq0 hq1 hq2 hq3; clear HS hst; have HS := HS_; clear HS_; have hc960 : w762.cell? ⟨g24, 0, none⟩ = some (.int .i64 0) := blk_cellv (HS.out.at1) 0 rfl; have hz961 : w762.frozen? ⟨g24, 0, none⟩ = false := blk_fz (HS.out.at1) 0; have hc962 : w762.cell? ⟨g24, 1, none⟩ = some (.int .i64 0) := blk_cellv (HS.out.at1) 1 rfl; have hz963 : w762.frozen? ⟨g24, 1, none⟩ = false := blk_fz (HS.out.at1) 1; have hc964 : w762.cell? ⟨g24, 2, none⟩ = some (.int .i64 0) := blk_cellv (HS.out.at1) 2 rfl; have hz965 : w762.frozen? ⟨g24, 2, none⟩ = false := blk_fz (HS.out.at1) 2; have hc966 : w762.cell? ⟨g24, 3, none⟩ = some (.int .i64 0) := blk_cellv (HS.out.at1) 3 rfl; have hz967 : w762.frozen? ⟨g24, 3, none⟩ = false := blk_fz (HS.out.at1) 3) | ((with_reducible refine gate_store (t := 32) (p := 6) rfl ?_); refine store_event (w1 := (World.setCell (World.setCell (World.setCell (World.setCell w762 ⟨g24, 0, none⟩ (.int .i64 0)) ⟨g24, 1, none⟩ (.int .i64 0)) ⟨g24, 2, none⟩ (.int .i64 0)) ⟨g24, 3, none⟩ (.int .i64 0))) rfl (t := 32) (p := 6) rfl rfl ?hr ?_; (case hr => first | (go_simp; done) | (go_simp; rfl)); intro w968 hst; clear hc960 hz961 hc962 hz963 hc964 hz965 hc966 hz967; have hq0 : Sep (fps []) w [blk g21 #[.int .i64 a15, .int .i64 a16, .int .i64 a17, .int .i64 a18] 32, blk g24 #[.int .i64 0, .int .i64 0, .int .i64 0, .int .i64 0] 32, blk g751 #[.int .i64 t748.1, .int .i64 t748.2.1, .int .i64 t748.2.2.1, .int .i64 t748.2.2.2] 32] (World.setCell w762 ⟨g24, 0, none⟩ (.int .i64 0)) := (HS.out).set1 (l1 := [blk g21 #[.int .i64 a15, .int .i64 a16, .int .i64 a17, .int .i64 a18] 32]) (l2 := [blk g751 #[.int .i64 t748.1, .int .i64 t748.2.1, .int .i64 t748.2.2.1, .int .i64 t748.2.2.2] 32]) 0 (.int .i64 0); have hq1 : Sep (fps []) w [blk g21 #[.int .i64 a15, .int .i64 a16, .int .i64 a17, .int .i64 a18] 32, blk g24 #[.int .i64 0, .int .i64 0, .int .i64 0, .int .i64 0] 32, blk g751 #[.int .i64 t748.1, .int .i64 t748.2.1, .int .i64 t748.2.2.1, .int .i64 t748.2.2.2] 32] (World.setCell (World.setCell w762 ⟨g24, 0, none⟩ (.int .i64 0)) ⟨g24, 1, none⟩ (.int .i64 0)) := (hq0).set1 (l1 := [blk g21 #[.int .i64 a15, .int .i64 a16, .int .i64 a17, .int .i64 a18] 32]) (l2 := [blk g751 #[.int .i64 t748.1, .int .i64 t748.2.1, .int .i64 t748.2.2.1, .int .i64 t748.2.2.2] 32]) 1 (.int .i64 0); have hq2 : Sep (fps []) w [blk g21 #[.int .i64 a15, .int .i64 a16, .int .i64 a17, .int .i64 a18] 32, blk g24 #[.int .i64 0, .int .i64 0, .int .i64 0, .int .i64 0] 32, blk g751 #[.int .i64 t748.1, .int .i64 t748.2.1, .int .i64 t748.2.2.1, .int .i64 t748.2.2.2] 32] (World.setCell (World.setCell (World.setCell w762 ⟨g24, 0, none⟩ (.int .i64 0)) ⟨g24, 1, none⟩ (.int .i64 0)) ⟨g24, 2, none⟩ (.int .i64 0)) := (hq1).set1 (l1 := [blk g21 #[.int .i64 a15, .int .i64 a16, .int .i64 a17, .int .i64 a18] 32]) (l2 := [blk g751 #[.int .i64 t748.1, .int .i64 t748.2.1, .int .i64 t748.2.2.1, .int .i64 t748.2.2.2] 32]) 2 (.int .i64 0); have hq3 : Sep (fps []) w [blk g21 #[.int .i64 a15, .int .i64 a16, .int .i64 a17, .int .i64 a18] 32, blk g24 #[.int .i64 0, .int .i64 0, .int .i64 0, .int .i64 0] 32, blk g751 #[.int .i64 t748.1, .int .i64 t748.2.1, .int .i64 t748.2.2.1, .int .i64 t748.2.2.2] 32] (World.setCell (World.setCell (World.setCell (World.setCell w762 ⟨g24, 0, none⟩ (.int .i64 0)) ⟨g24, 1, none⟩ (.int .i64 0)) ⟨g24, 2, none⟩ (.int .i64 0)) ⟨g24, 3, none⟩ (.int .i64 0)) := (hq2).set1 (l1 := [blk g21 #[.int .i64 a15, .int .i64 a16, .int .i64 a17, .int .i64 a18] 32]) (l2 := [blk g751 #[.int .i64 t748.1, .int .i64 t748.2.1, .int .i64 t748.2.2.1, .int .i64 t748.2.2.2] 32]) 3 (.int .i64 0); have HS_ : Aside0 (Sep (fps []) w [blk g21 #[.int .i64 a15, .int .i64 a16, .int .i64 a17, .int .i64 a18] 32, blk g24 #[.int .i64 0, .int .i64 0, .int .i64 0, .int .i64 0] 32, blk g751 #[.int .i64 t748.1, .int .i64 t748.2.1, .int .i64 t748.2.2.1, .int .i64 t748.2.2.2] 32] w968) := ⟨by rw [hst]; exact hq3⟩; clear hq0 hq1 hq2 hq3; clear HS hst; have HS := HS_; clear HS_))
    have hc969 : w968.cell? ⟨g24, 0, none⟩ = some (.int .i64 0) := blk_cellv (HS.out.at1) 0 rfl
    have hc970 : w968.cell? ⟨g24, 1, none⟩ = some (.int .i64 0) := blk_cellv (HS.out.at1) 1 rfl
    have hc971 : w968.cell? ⟨g24, 2, none⟩ = some (.int .i64 0) := blk_cellv (HS.out.at1) 2 rfl
    have hc972 : w968.cell? ⟨g24, 3, none⟩ = some (.int .i64 0) := blk_cellv (HS.out.at1) 3 rfl
    refine bodyPost_ret (v := .tuple #[.agg #[.int .i64 0, .int .i64 0, .int .i64 0, .int .i64 0], .bool false]) (by simp [results, Try.results26, go_sem, hc969, hc970, hc971, hc972]) rfl ?_
    rw [← some_eq H]
    exact ⟨(by first | rfl | (simp [IntKind.wrap_u32]; done)), (HS.out).keep (l := []) (rest := [blk g21 #[.int .i64 a15, .int .i64 a16, .int .i64 a17, .int .i64 a18] 32, blk g24 #[.int .i64 0, .int .i64 0, .int .i64 0, .int .i64 0] 32, blk g751 #[.int .i64 t748.1, .int .i64 t748.2.1, .int .i64 t748.2.2.1, .int .i64 t748.2.2.2] 32])⟩

set_option maxHeartbeats 4000000 in
set_option maxRecDepth 100000 in
theorem tune_MostK_1.calls (k : Nat) (a1039 : Int) (a1042 : Int) (a1043 : Int) (a1044 : Int) (a1045 : Int) (a1048 : Int) (g1040 : Nat) (g1046 : Nat) (r : Bool) (w : World)  (HS : Aside0 (Sep (fps [blk g1040 #[.int .i64 a1042, .int .i64 a1043, .int .i64 a1044, .int .i64 a1045] 32, blk g1046 #[.int .i64 a1048] 3]) w [blk g1040 #[.int .i64 a1042, .int .i64 a1043, .int .i64 a1044, .int .i64 a1045] 32, blk g1046 #[.int .i64 a1048] 3] w)) (H : Aside0 (tune_MostK_1.f k a1039 a1042 a1043 a1044 a1045 a1048 = some r)) :
    Calls Try.prog 51 #[.int .i64 a1039, .pointer (some ⟨g1040, 0, none⟩), .pointer (some ⟨g1046, 0, none⟩)] w fun e w' => e = .returned (.bool r) ∧ Sep (fps [blk g1040 #[.int .i64 a1042, .int .i64 a1043, .int .i64 a1044, .int .i64 a1045] 32, blk g1046 #[.int .i64 a1048] 3]) w [blk g1040 #[.int .i64 a1042, .int .i64 a1043, .int .i64 a1044, .int .i64 a1045] 32, blk g1046 #[.int .i64 a1048] 3] w' := by
  unfold tune_MostK_1.f at H
  go_enter Try.func51, Try.ntmps51
  go_wp2_with fail
  refine start_ (n := 8) (S := (fun w' => w'.cell? ⟨g1040, 0, none⟩ = some (.int .i64 a1042) ∧ w'.cell? ⟨g1040, 1, none⟩ = some (.int .i64 a1043) ∧ w'.cell? ⟨g1040, 2, none⟩ = some (.int .i64 a1044) ∧ w'.cell? ⟨g1040, 3, none⟩ = some (.int .i64 a1045) ∧ w'.cell? ⟨g1046, 0, none⟩ = some (.int .i64 a1048))) (ds := []) #[false, false, false, false, false, false, false, false] (by kernel_rfl) rfl rfl (⟨blk_cellv ((HS.out.drew).at0) 0 rfl, blk_cellv ((HS.out.drew).at0) 1 rfl, blk_cellv ((HS.out.drew).at0) 2 rfl, blk_cellv ((HS.out.drew).at0) 3 rfl, blk_cellv ((HS.out.drew).at1) 0 rfl⟩) (fun hHeld => ?_)
  have HS_ := Aside0.mk HS.out.drew
  clear HS
  generalize World.drew _ = w1050 at HS_ hHeld ⊢
  have HS := HS_
  clear HS_
  refine pure_ (i := 1) (N := some 6) (v := ?_) (a' := ?_) #[false, true, false, false, false, false, false, false] rfl rfl (by kernel_rfl) (fun _ _ _ h => h) (Or.inl ⟨by rfl, ?_⟩) ?_ ?_
  rotate_left
  · intro w'
    go_simp
    with_reducible rfl
  rotate_left
  · simp only [Act.put, List.setIfInBounds_toArray, List.set_cons_zero, List.set_cons_succ, i64_w, i32_w]
    rfl
  refine pure_ (i := 2) (N := some 7) (v := ?_) (a' := ?_) #[false, true, true, false, false, false, false, false] rfl rfl (by kernel_rfl) (fun _ _ _ h => h) (Or.inl ⟨by rfl, ?_⟩) ?_ ?_
  rotate_left
  · intro w'
    go_simp
    with_reducible rfl
  rotate_left
  · simp only [Act.put, List.setIfInBounds_toArray, List.set_cons_zero, List.set_cons_succ, i64_w, i32_w]
    rfl
  refine take_ (i := 0) (N := some 5) (v := ?_) (a' := ?_) #[true, true, true, false, false, false, false, false] rfl rfl (by kernel_rfl) (fun _ _ _ h => h) (Or.inl ⟨by rfl, ?_⟩) hHeld ?_ ?_
  rotate_left
  · rintro w' hS'
    obtain ⟨s0, s1, s2, s3, s4⟩ := hS'
    go_simp
    with_reducible rfl
  rotate_left
  · simp only [Act.put, List.setIfInBounds_toArray, List.set_cons_zero, List.set_cons_succ, i64_w, i32_w]
    rfl
  refine take_ (i := 5) (N := some 10) (v := ?_) (a' := ?_) #[true, true, true, false, false, true, false, false] rfl rfl (by kernel_rfl) (fun _ _ _ h => h) (Or.inl ⟨by rfl, ?_⟩) hHeld ?_ ?_
  rotate_left
  · rintro w' hS'
    obtain ⟨s0, s1, s2, s3, s4⟩ := hS'
    go_simp
    with_reducible rfl
  rotate_left
  · simp only [Act.put, List.setIfInBounds_toArray, List.set_cons_zero, List.set_cons_succ, i64_w, i32_w]
    rfl
  refine one_ (i := 3) (N := some 8) #[true, true, true, true, false, true, false, false] rfl rfl (by kernel_rfl) (by decide) (fun K hK => ?_)
  obtain ⟨t1051, HA1052, H⟩ := bind_some H
  refine goes_ Try.func46 (by kernel_rfl) rfl #[.agg #[.int .i64 a1042, .int .i64 a1043, .int .i64 a1044, .int .i64 a1045], .int .i64 (wrap64 (a1039 + 1))] (by rfl) rfl rfl (by (try simp only [List.map_toArray, List.map_cons, List.map_nil]); first | done | rfl) ?_
  refine (tune_with.calls a1042 a1043 a1044 a1045 (wrap64 (a1039 + 1)) t1051 _ ⟨HS.out.begin (l := []) (rest := [blk g1040 #[.int .i64 a1042, .int .i64 a1043, .int .i64 a1044, .int .i64 a1045] 32, blk g1046 #[.int .i64 a1048] 3])⟩ HA1052).mono ?_
  rintro e_ w1053 ⟨rfl, hS⟩
  have HS_ : Aside0 (Sep (fps [blk g1040 #[.int .i64 a1042, .int .i64 a1043, .int .i64 a1044, .int .i64 a1045] 32, blk g1046 #[.int .i64 a1048] 3]) w [blk g1040 #[.int .i64 a1042, .int .i64 a1043, .int .i64 a1044, .int .i64 a1045] 32, blk g1046 #[.int .i64 a1048] 3] w1053) := ⟨HS.out.call (l := []) (rest := [blk g1040 #[.int .i64 a1042, .int .i64 a1043, .int .i64 a1044, .int .i64 a1045] 32, blk g1046 #[.int .i64 a1048] 3]) hS⟩
  clear HS hS
  have HS := HS_
  clear HS_
  refine ⟨_, rfl, ?_⟩
  refine hK.out _ _ (⟨blk_cellv (HS.out.at0) 0 rfl, blk_cellv (HS.out.at0) 1 rfl, blk_cellv (HS.out.at0) 2 rfl, blk_cellv (HS.out.at0) 3 rfl, blk_cellv (HS.out.at1) 0 rfl⟩) (fun hHeld => ?_)
  clear hK K
  refine norm_ (a' := ?_) ?_ ?_
  rotate_left
  · show Act.put _ (some 8) _ = _
    simp only [Act.put, List.setIfInBounds_toArray, List.set_cons_zero, List.set_cons_succ, i64_w, i32_w]
    rfl
  refine one_ (i := 4) (N := some 9) #[true, true, true, true, true, true, false, false] rfl rfl (by kernel_rfl) (by decide) (fun K hK => ?_)
  obtain ⟨t1054, HA1055, H⟩ := bind_some H
  refine goes_ Try.func52 (by kernel_rfl) rfl #[.agg #[.int .i64 t1051.1, .int .i64 t1051.2.1, .int .i64 t1051.2.2.1, .int .i64 t1051.2.2.2]] (by rfl) rfl rfl (by (try simp only [List.map_toArray, List.map_cons, List.map_nil]); first | done | rfl) ?_
  refine (tune_Longest.calls _ t1051.1 t1051.2.1 t1051.2.2.1 t1051.2.2.2 t1054 _ ⟨HS.out.begin (l := []) (rest := [blk g1040 #[.int .i64 a1042, .int .i64 a1043, .int .i64 a1044, .int .i64 a1045] 32, blk g1046 #[.int .i64 a1048] 3])⟩ HA1055).mono ?_
  rintro e_ w1056 ⟨rfl, hS⟩
  have HS_ : Aside0 (Sep (fps [blk g1040 #[.int .i64 a1042, .int .i64 a1043, .int .i64 a1044, .int .i64 a1045] 32, blk g1046 #[.int .i64 a1048] 3]) w [blk g1040 #[.int .i64 a1042, .int .i64 a1043, .int .i64 a1044, .int .i64 a1045] 32, blk g1046 #[.int .i64 a1048] 3] w1056) := ⟨HS.out.call (l := []) (rest := [blk g1040 #[.int .i64 a1042, .int .i64 a1043, .int .i64 a1044, .int .i64 a1045] 32, blk g1046 #[.int .i64 a1048] 3]) hS⟩
  clear HS hS
  have HS := HS_
  clear HS_
  refine ⟨_, rfl, ?_⟩
  refine hK.out _ _ (⟨blk_cellv (HS.out.at0) 0 rfl, blk_cellv (HS.out.at0) 1 rfl, blk_cellv (HS.out.at0) 2 rfl, blk_cellv (HS.out.at0) 3 rfl, blk_cellv (HS.out.at1) 0 rfl⟩) (fun hHeld => ?_)
  clear hK K
  refine norm_ (a' := ?_) ?_ ?_
  rotate_left
  · show Act.put _ (some 9) _ = _
    simp only [Act.put, List.setIfInBounds_toArray, List.set_cons_zero, List.set_cons_succ, i64_w, i32_w]
    rfl
  refine pure_ (i := 6) (N := some 11) (v := ?_) (a' := ?_) #[true, true, true, true, true, true, true, false] rfl rfl (by kernel_rfl) (fun _ _ _ h => h) (Or.inl ⟨by rfl, ?_⟩) ?_ ?_
  rotate_left
  · intro w'
    go_simp
    with_reducible rfl
  rotate_left
  · simp only [Act.put, List.setIfInBounds_toArray, List.set_cons_zero, List.set_cons_succ, i64_w, i32_w]
    rfl
  refine pure_ (i := 7) (N := some 4) (v := ?_) (a' := ?_) #[true, true, true, true, true, true, true, true] rfl rfl (by kernel_rfl) (fun _ _ _ h => h) (Or.inl ⟨by rfl, ?_⟩) ?_ ?_
  rotate_left
  · intro w'
    go_simp
    with_reducible rfl
  rotate_left
  · simp only [Act.put, List.setIfInBounds_toArray, List.set_cons_zero, List.set_cons_succ, i64_w, i32_w]
    rfl
  refine done_ (by kernel_rfl) ?_
  go_wp2_with fail
  go_ret
  rw [← some_eq H]
  exact ⟨(by first | rfl | (simp [IntKind.wrap_u32]; done)), (((HS.out).front 1 (by simp)).front 1 (by simp)).keep (l := [blk g1040 #[.int .i64 a1042, .int .i64 a1043, .int .i64 a1044, .int .i64 a1045] 32, blk g1046 #[.int .i64 a1048] 3]) (rest := [])⟩

set_option maxHeartbeats 4000000 in
set_option maxRecDepth 100000 in
theorem sort_Search_1.calls (k : Nat) (a1021 : Int) (a1024 : Int) (a1025 : Int) (a1026 : Int) (a1027 : Int) (a1030 : Int) (g1022 : Nat) (g1028 : Nat) (r : Int) (w : World)  (HS : Aside0 (Sep (fps [blk g1022 #[.int .i64 a1024, .int .i64 a1025, .int .i64 a1026, .int .i64 a1027] 32, blk g1028 #[.int .i64 a1030] 3]) w [blk g1022 #[.int .i64 a1024, .int .i64 a1025, .int .i64 a1026, .int .i64 a1027] 32, blk g1028 #[.int .i64 a1030] 3] w)) (H : Aside0 (sort_Search_1.f k a1021 a1024 a1025 a1026 a1027 a1030 = some r)) :
    Calls Try.prog 48 #[.int .i64 a1021, .func (.func 51) #[] #[.pointer (some ⟨g1022, 0, none⟩), .pointer (some ⟨g1028, 0, none⟩)]] w fun e w' => e = .returned (.int .i64 r) ∧ Sep (fps [blk g1022 #[.int .i64 a1024, .int .i64 a1025, .int .i64 a1026, .int .i64 a1027] 32, blk g1028 #[.int .i64 a1030] 3]) w [blk g1022 #[.int .i64 a1024, .int .i64 a1025, .int .i64 a1026, .int .i64 a1027] 32, blk g1028 #[.int .i64 a1030] 3] w' := by
  unfold sort_Search_1.f at H
  go_enter Try.func48, Try.ntmps48
  go_wp2_with fail
  obtain ⟨o1032, AL1033, H⟩ := bind_some H
  go_loopg [5, 6] k (fun kq v5 v6 wc => ∃ (x1036 : Int) (x1037 : Int), v5 = .int .i64 x1036 ∧ v6 = .int .i64 x1037 ∧ Aside0 (sort_Search_1.lo0 kq a1024 a1025 a1026 a1027 a1030 x1036 x1037 = some o1032) ∧ Aside0 (Sep (fps [blk g1022 #[.int .i64 a1024, .int .i64 a1025, .int .i64 a1026, .int .i64 a1027] 32, blk g1028 #[.int .i64 a1030] 3]) w [blk g1022 #[.int .i64 a1024, .int .i64 a1025, .int .i64 a1026, .int .i64 a1027] 32, blk g1028 #[.int .i64 a1030] 3] wc))
  case atStart => exact ⟨(0), (a1021), (by first | rfl | (simp [IntKind.wrap_u32]; done)), (by first | rfl | (simp [IntKind.wrap_u32]; done)), AL1033, ⟨HS.out⟩⟩
  case round =>
    clear AL1033 HS
    obtain ⟨x1036, x1037, rfl, rfl, AL1033, HS⟩ := hrel
    obtain ⟨w1034, rfl⟩ : ∃ x : World, x = wr := ⟨_, rfl⟩
    cases gk with
    | zero => exact absurd AL1033.out (by simp [sort_Search_1.lo0])
    | succ k1035 =>
      have AL0 := AL1033.out
      rw [sort_Search_1.lo0] at AL0
      clear AL1033
      have AL1033 := Aside0.mk AL0
      clear AL0
      by_cases c1038 : x1036 < x1037
      · have AL1033 := if_yes c1038 AL1033
        have c1038b0 : decide (x1036 < x1037) = true := decide_eq_true c1038
        clear c1038
        go_wp2_with fail
        have HS_ : Aside0 (Sep (fps [blk g1022 #[.int .i64 a1024, .int .i64 a1025, .int .i64 a1026, .int .i64 a1027] 32, blk g1028 #[.int .i64 a1030] 3]) w [blk g1028 #[.int .i64 a1030] 3, blk g1022 #[.int .i64 a1024, .int .i64 a1025, .int .i64 a1026, .int .i64 a1027] 32] w1034) := ⟨HS.out.front 1 (by simp)⟩
        clear HS
        have HS := HS_
        clear HS_
        have HS_ : Aside0 (Sep (fps [blk g1022 #[.int .i64 a1024, .int .i64 a1025, .int .i64 a1026, .int .i64 a1027] 32, blk g1028 #[.int .i64 a1030] 3]) w [blk g1022 #[.int .i64 a1024, .int .i64 a1025, .int .i64 a1026, .int .i64 a1027] 32, blk g1028 #[.int .i64 a1030] 3] w1034) := ⟨HS.out.front 1 (by simp)⟩
        clear HS
        have HS := HS_
        clear HS_
        obtain ⟨t1057, HA1058, AL1033⟩ := bind_some AL1033
        refine (tune_MostK_1.calls _ (wrap64 ((IntKind.u64.wrap (wrap64 (x1036 + x1037))) / 2)) a1024 a1025 a1026 a1027 a1030 g1022 g1028 t1057 _ ⟨HS.out.begin (l := [blk g1022 #[.int .i64 a1024, .int .i64 a1025, .int .i64 a1026, .int .i64 a1027] 32, blk g1028 #[.int .i64 a1030] 3]) (rest := [])⟩ HA1058).mono ?_
        rintro e_ w1059 ⟨rfl, hS⟩
        have HS_ : Aside0 (Sep (fps [blk g1022 #[.int .i64 a1024, .int .i64 a1025, .int .i64 a1026, .int .i64 a1027] 32, blk g1028 #[.int .i64 a1030] 3]) w [blk g1022 #[.int .i64 a1024, .int .i64 a1025, .int .i64 a1026, .int .i64 a1027] 32, blk g1028 #[.int .i64 a1030] 3] w1059) := ⟨HS.out.call (l := [blk g1022 #[.int .i64 a1024, .int .i64 a1025, .int .i64 a1026, .int .i64 a1027] 32, blk g1028 #[.int .i64 a1030] 3]) (rest := []) hS⟩
        clear HS hS
        have HS := HS_
        clear HS_
        by_cases c1060 : t1057 = true
        · have AL1033 := if_yes c1060 AL1033
          have c1060b0 : t1057 = true := c1060
          clear c1060
          go_wp2_with fail
          go_roundg k1035
          case measure => exact Nat.lt_succ_self _
          case rel => exact ⟨(x1036), (wrap64 ((IntKind.u64.wrap (wrap64 (x1036 + x1037))) / 2)), (by first | rfl | (simp [IntKind.wrap_u32]; done)), (by first | rfl | (simp [IntKind.wrap_u32]; done)), Aside0.mk AL1033.out, ⟨(((HS.out).front 1 (by simp)).front 1 (by simp)).keep (l := [blk g1022 #[.int .i64 a1024, .int .i64 a1025, .int .i64 a1026, .int .i64 a1027] 32, blk g1028 #[.int .i64 a1030] 3]) (rest := [])⟩⟩
        · have AL1033 := if_no c1060 AL1033
          have c1060b0 : t1057 = false := by simpa using c1060
          clear c1060
          go_wp2_with fail
          go_roundg k1035
          case measure => exact Nat.lt_succ_self _
          case rel => exact ⟨(wrap64 ((wrap64 ((IntKind.u64.wrap (wrap64 (x1036 + x1037))) / 2)) + 1)), (x1037), (by first | rfl | (simp [IntKind.wrap_u32]; done)), (by first | rfl | (simp [IntKind.wrap_u32]; done)), Aside0.mk AL1033.out, ⟨(((HS.out).front 1 (by simp)).front 1 (by simp)).keep (l := [blk g1022 #[.int .i64 a1024, .int .i64 a1025, .int .i64 a1026, .int .i64 a1027] 32, blk g1028 #[.int .i64 a1030] 3]) (rest := [])⟩⟩
      · have AL1033 := if_no c1038 AL1033
        have c1038b0 : decide (x1036 < x1037) = false := decide_eq_false c1038
        clear c1038
        have ho := some_eq AL1033
        subst ho
        clear AL1033
        go_wp2_with fail
        go_ret
        rw [← some_eq H]
        exact ⟨(by first | rfl | (simp [IntKind.wrap_u32]; done)), (((HS.out).front 1 (by simp)).front 1 (by simp)).keep (l := [blk g1022 #[.int .i64 a1024, .int .i64 a1025, .int .i64 a1026, .int .i64 a1027] 32, blk g1028 #[.int .i64 a1030] 3]) (rest := [])⟩

set_option maxHeartbeats 4000000 in
set_option maxRecDepth 100000 in
theorem tune_MostK.calls (k : Nat) (a999 : Int) (a1000 : Int) (a1001 : Int) (a1002 : Int) (a1003 : Int) (r : Int × Bool) (w : World)  (HS : Aside0 (Sep (fps []) w [] w)) (H : Aside0 (tune_MostK.f k a999 a1000 a1001 a1002 a1003 = some r)) :
    Calls Try.prog 28 #[.agg #[.int .i64 a999, .int .i64 a1000, .int .i64 a1001, .int .i64 a1002], .int .i64 a1003] w fun e w' => e = .returned (.tuple #[.int .i64 r.1, .bool r.2]) ∧ Sep (fps []) w [] w' := by
  unfold tune_MostK.f at H
  go_enter Try.func28, Try.ntmps28
  go_wp2_with (first | ((with_reducible refine gate_dst (N := 2) rfl ?_); refine box_on ?hg (N := 2) ?hd (cs := #[.int .i64 a999, .int .i64 a1000, .int .i64 a1001, .int .i64 a1002]) (t := 32) ?hr ?_; (case hd => rfl); (case hg => rfl); (case hr => first | (go_simp; done) | (go_simp; rfl)); intro g1004 hg w1005 hbox hb; have HS_ : Aside0 (Sep (fps []) w [blk g1004 #[.int .i64 a999, .int .i64 a1000, .int .i64 a1001, .int .i64 a1002] 32] w1005) := ⟨HS.out.box hg hbox hb⟩; clear HS hg hbox hb; have HS := HS_; clear HS_) | ((with_reducible refine gate_dst (N := 3) rfl ?_); refine box_on ?hg (N := 3) ?hd (cs := #[.int .i64 a1003]) (t := 3) ?hr ?_; (case hd => rfl); (case hg => rfl); (case hr => first | (go_simp; done) | (go_simp; rfl)); intro g1007 hg w1008 hbox hb; have HS_ : Aside0 (Sep (fps []) w [blk g1004 #[.int .i64 a999, .int .i64 a1000, .int .i64 a1001, .int .i64 a1002] 32, blk g1007 #[.int .i64 a1003] 3] w1008) := ⟨HS.out.box hg hbox hb⟩; clear HS hg hbox hb; have HS := HS_; clear HS_; have hc1010 : w1008.cell? ⟨g1004, 0, none⟩ = some (.int .i64 a999) := blk_cellv (HS.out.at0) 0 rfl; have hc1011 : w1008.cell? ⟨g1004, 1, none⟩ = some (.int .i64 a1000) := blk_cellv (HS.out.at0) 1 rfl; have hc1012 : w1008.cell? ⟨g1004, 2, none⟩ = some (.int .i64 a1001) := blk_cellv (HS.out.at0) 2 rfl; have hc1013 : w1008.cell? ⟨g1004, 3, none⟩ = some (.int .i64 a1002) := blk_cellv (HS.out.at0) 3 rfl))
  clear hc1010 hc1011 hc1012 hc1013
  obtain ⟨t1014, HA1015, H⟩ := bind_some H
  refine (tune_with.calls a999 a1000 a1001 a1002 1 t1014 _ ⟨HS.out.begin (l := []) (rest := [blk g1004 #[.int .i64 a999, .int .i64 a1000, .int .i64 a1001, .int .i64 a1002] 32, blk g1007 #[.int .i64 a1003] 3])⟩ HA1015).mono ?_
  rintro e_ w1016 ⟨rfl, hS⟩
  have HS_ : Aside0 (Sep (fps []) w [blk g1004 #[.int .i64 a999, .int .i64 a1000, .int .i64 a1001, .int .i64 a1002] 32, blk g1007 #[.int .i64 a1003] 3] w1016) := ⟨HS.out.call (l := []) (rest := [blk g1004 #[.int .i64 a999, .int .i64 a1000, .int .i64 a1001, .int .i64 a1002] 32, blk g1007 #[.int .i64 a1003] 3]) hS⟩
  clear HS hS
  have HS := HS_
  clear HS_
  go_wp2_with fail
  obtain ⟨t1017, HA1018, H⟩ := bind_some H
  refine (tune_may.calls t1014.1 t1014.2.1 t1014.2.2.1 t1014.2.2.2 t1017 _ ⟨HS.out.begin (l := []) (rest := [blk g1004 #[.int .i64 a999, .int .i64 a1000, .int .i64 a1001, .int .i64 a1002] 32, blk g1007 #[.int .i64 a1003] 3])⟩ HA1018).mono ?_
  rintro e_ w1019 ⟨rfl, hS⟩
  have HS_ : Aside0 (Sep (fps []) w [blk g1004 #[.int .i64 a999, .int .i64 a1000, .int .i64 a1001, .int .i64 a1002] 32, blk g1007 #[.int .i64 a1003] 3] w1019) := ⟨HS.out.call (l := []) (rest := [blk g1004 #[.int .i64 a999, .int .i64 a1000, .int .i64 a1001, .int .i64 a1002] 32, blk g1007 #[.int .i64 a1003] 3]) hS⟩
  clear HS hS
  have HS := HS_
  clear HS_
  by_cases c1020 : t1017 = true
  · have H := if_yes c1020 H
    have c1020b0 : t1017 = true := c1020
    clear c1020
    go_wp2_with fail
    have HS_ : Aside0 (Sep (fps []) w [blk g1007 #[.int .i64 a1003] 3, blk g1004 #[.int .i64 a999, .int .i64 a1000, .int .i64 a1001, .int .i64 a1002] 32] w1019) := ⟨HS.out.front 1 (by simp)⟩
    clear HS
    have HS := HS_
    clear HS_
    have HS_ : Aside0 (Sep (fps []) w [blk g1004 #[.int .i64 a999, .int .i64 a1000, .int .i64 a1001, .int .i64 a1002] 32, blk g1007 #[.int .i64 a1003] 3] w1019) := ⟨HS.out.front 1 (by simp)⟩
    clear HS
    have HS := HS_
    clear HS_
    obtain ⟨t1062, HA1063, H⟩ := bind_some H
    refine (sort_Search_1.calls _ 65536 a999 a1000 a1001 a1002 a1003 g1004 g1007 t1062 _ ⟨HS.out.begin (l := [blk g1004 #[.int .i64 a999, .int .i64 a1000, .int .i64 a1001, .int .i64 a1002] 32, blk g1007 #[.int .i64 a1003] 3]) (rest := [])⟩ HA1063).mono ?_
    rintro e_ w1064 ⟨rfl, hS⟩
    have HS_ : Aside0 (Sep (fps []) w [blk g1004 #[.int .i64 a999, .int .i64 a1000, .int .i64 a1001, .int .i64 a1002] 32, blk g1007 #[.int .i64 a1003] 3] w1064) := ⟨HS.out.call (l := [blk g1004 #[.int .i64 a999, .int .i64 a1000, .int .i64 a1001, .int .i64 a1002] 32, blk g1007 #[.int .i64 a1003] 3]) (rest := []) hS⟩
    clear HS hS
    have HS := HS_
    clear HS_
    go_wp2_with fail
    go_ret2
    rw [← some_eq H]
    exact ⟨(by first | rfl | (simp [IntKind.wrap_u32]; done)), (HS.out).keep (l := []) (rest := [blk g1004 #[.int .i64 a999, .int .i64 a1000, .int .i64 a1001, .int .i64 a1002] 32, blk g1007 #[.int .i64 a1003] 3])⟩
  · have H := if_no c1020 H
    have c1020b0 : t1017 = false := by simpa using c1020
    clear c1020
    go_wp2_with fail
    go_ret2
    rw [← some_eq H]
    exact ⟨(by first | rfl | (simp [IntKind.wrap_u32]; done)), (HS.out).keep (l := []) (rest := [blk g1004 #[.int .i64 a999, .int .i64 a1000, .int .i64 a1001, .int .i64 a1002] 32, blk g1007 #[.int .i64 a1003] 3])⟩

set_option maxHeartbeats 4000000 in
set_option maxRecDepth 100000 in
theorem quitrentlaw31_begun.calls (k : Nat)  (r : Bool) (w : World)  (HS : Aside0 (Sep (fps []) w [] w)) (H : Aside0 (quitrentlaw31_begun.f k = some r)) :
    Calls Try.prog 30 #[] w fun e w' => e = .returned (.bool r) ∧ Sep (fps []) w [] w' := by
  unfold quitrentlaw31_begun.f at H
  go_enter Try.func30, Try.ntmps30
  go_wp2_with (first | ((with_reducible refine gate_dst (N := 1) rfl ?_); refine box_on ?hg (N := 1) ?hd (cs := #[.int .i64 0, .int .i64 0, .int .i64 0, .int .i64 0]) (t := 32) ?hr ?_; (case hd => rfl); (case hg => rfl); (case hr => first | (go_simp; done) | (go_simp; rfl)); intro g1106 hg w1107 hbox hb; have HS_ : Aside0 (Sep (fps []) w [blk g1106 #[.int .i64 0, .int .i64 0, .int .i64 0, .int .i64 0] 32] w1107) := ⟨HS.out.box hg hbox hb⟩; clear HS hg hbox hb; have HS := HS_; clear HS_; have hc1109 : w1107.cell? ⟨g1106, 0, none⟩ = some (.int .i64 0) := blk_cellv (HS.out.at0) 0 rfl; have hz1110 : w1107.frozen? ⟨g1106, 0, none⟩ = false := blk_fz (HS.out.at0) 0; have hc1111 : w1107.cell? ⟨g1106, 1, none⟩ = some (.int .i64 0) := blk_cellv (HS.out.at0) 1 rfl; have hz1112 : w1107.frozen? ⟨g1106, 1, none⟩ = false := blk_fz (HS.out.at0) 1; have hc1113 : w1107.cell? ⟨g1106, 2, none⟩ = some (.int .i64 0) := blk_cellv (HS.out.at0) 2 rfl; have hz1114 : w1107.frozen? ⟨g1106, 2, none⟩ = false := blk_fz (HS.out.at0) 2; have hc1115 : w1107.cell? ⟨g1106, 3, none⟩ = some (.int .i64 0) := blk_cellv (HS.out.at0) 3 rfl; have hz1116 : w1107.frozen? ⟨g1106, 3, none⟩ = false := blk_fz (HS.out.at0) 3) | ((with_reducible refine gate_store (t := 32) (p := 1) rfl ?_); refine store_event (w1 := (World.setCell (World.setCell (World.setCell (World.setCell w1107 ⟨g1106, 0, none⟩ (.int .i64 100)) ⟨g1106, 1, none⟩ (.int .i64 16)) ⟨g1106, 2, none⟩ (.int .i64 4)) ⟨g1106, 3, none⟩ (.int .i64 0))) rfl (t := 32) (p := 1) rfl rfl ?hr ?_; (case hr => first | (go_simp; done) | (go_simp; rfl)); intro w1117 hst; clear hc1109 hz1110 hc1111 hz1112 hc1113 hz1114 hc1115 hz1116; have hq0 : Sep (fps []) w [blk g1106 #[.int .i64 100, .int .i64 0, .int .i64 0, .int .i64 0] 32] (World.setCell w1107 ⟨g1106, 0, none⟩ (.int .i64 100)) := (HS.out).set1 (l1 := []) (l2 := []) 0 (.int .i64 100); have hq1 : Sep (fps []) w [blk g1106 #[.int .i64 100, .int .i64 16, .int .i64 0, .int .i64 0] 32] (World.setCell (World.setCell w1107 ⟨g1106, 0, none⟩ (.int .i64 100)) ⟨g1106, 1, none⟩ (.int .i64 16)) := (hq0).set1 (l1 := []) (l2 := []) 1 (.int .i64 16); have hq2 : Sep (fps []) w [blk g1106 #[.int .i64 100, .int .i64 16, .int .i64 4, .int .i64 0] 32] (World.setCell (World.setCell (World.setCell w1107 ⟨g1106, 0, none⟩ (.int .i64 100)) ⟨g1106, 1, none⟩ (.int .i64 16)) ⟨g1106, 2, none⟩ (.int .i64 4)) := (hq1).set1 (l1 := []) (l2 := []) 2 (.int .i64 4); have hq3 : Sep (fps []) w [blk g1106 #[.int .i64 100, .int .i64 16, .int .i64 4, .int .i64 0] 32] (World.setCell (World.setCell (World.setCell (World.setCell w1107 ⟨g1106, 0, none⟩ (.int .i64 100)) ⟨g1106, 1, none⟩ (.int .i64 16)) ⟨g1106, 2, none⟩ (.int .i64 4)) ⟨g1106, 3, none⟩ (.int .i64 0)) := (hq2).set1 (l1 := []) (l2 := []) 3 (.int .i64 0); have HS_ : Aside0 (Sep (fps []) w [blk g1106 #[.int .i64 100, .int .i64 16, .int .i64 4, .int .i64 0] 32] w1117) := ⟨by rw [hst]; exact hq3⟩; clear hq0 hq1 hq2 hq3; clear HS hst; have HS := HS_; clear HS_; have hc1118 : w1117.cell? ⟨g1106, 0, none⟩ = some (.int .i64 100) := blk_cellv (HS.out.at0) 0 rfl; have hc1119 : w1117.cell? ⟨g1106, 1, none⟩ = some (.int .i64 16) := blk_cellv (HS.out.at0) 1 rfl; have hc1120 : w1117.cell? ⟨g1106, 2, none⟩ = some (.int .i64 4) := blk_cellv (HS.out.at0) 2 rfl; have hc1121 : w1117.cell? ⟨g1106, 3, none⟩ = some (.int .i64 0) := blk_cellv (HS.out.at0) 3 rfl))
  clear hc1118 hc1119 hc1120 hc1121
  obtain ⟨t1122, HA1123, H⟩ := bind_some H
  refine (tune_LeastK.calls _ 100 16 4 0 76 t1122 _ ⟨HS.out.begin (l := []) (rest := [blk g1106 #[.int .i64 100, .int .i64 16, .int .i64 4, .int .i64 0] 32])⟩ HA1123).mono ?_
  rintro e_ w1124 ⟨rfl, hS⟩
  have HS_ : Aside0 (Sep (fps []) w [blk g1106 #[.int .i64 100, .int .i64 16, .int .i64 4, .int .i64 0] 32] w1124) := ⟨HS.out.call (l := []) (rest := [blk g1106 #[.int .i64 100, .int .i64 16, .int .i64 4, .int .i64 0] 32]) hS⟩
  clear HS hS
  have HS := HS_
  clear HS_
  by_cases c1128 : t1122.1 = 1702
  · have H := if_yes c1128 H
    have c1128b0 : (t1122.1 == 1702) = true := beq_iff_eq.mpr c1128
    have c1128b1 : (t1122.1 != 1702) = false := bne_eq_false_iff_eq.mpr c1128
    clear c1128
    by_cases c1129 : t1122.2 = true
    · have H := if_yes c1129 H
      have c1129b0 : t1122.2 = true := c1129
      clear c1129
      have hc1125 : w1124.cell? ⟨g1106, 3, none⟩ = some (.int .i64 0) := blk_cellv (HS.out.at0) 3 rfl
      have hz1126 : w1124.frozen? ⟨g1106, 3, none⟩ = false := blk_fz (HS.out.at0) 3
      go_wp2_with (first | ((with_reducible refine gate_store (t := 3) (p := 11) rfl ?_); refine store_event (w1 := (World.setCell w1124 ⟨g1106, 3, none⟩ (.int .i64 t1122.1))) rfl (t := 3) (p := 11) rfl rfl ?hr ?_; (case hr => first | (go_simp; done) | (go_simp; rfl)); intro w1127 hst; clear hc1125 hz1126; have hq0 : Sep (fps []) w [blk g1106 #[.int .i64 100, .int .i64 16, .int .i64 4, .int .i64 t1122.1] 32] (World.setCell w1124 ⟨g1106, 3, none⟩ (.int .i64 t1122.1)) := (HS.out).set1 (l1 := []) (l2 := []) 3 (.int .i64 t1122.1); have HS_ : Aside0 (Sep (fps []) w [blk g1106 #[.int .i64 100, .int .i64 16, .int .i64 4, .int .i64 t1122.1] 32] w1127) := ⟨by rw [hst]; exact hq0⟩; clear hq0; clear HS hst; have HS := HS_; clear HS_; have hc1130 : w1127.cell? ⟨g1106, 0, none⟩ = some (.int .i64 100) := blk_cellv (HS.out.at0) 0 rfl; have hc1131 : w1127.cell? ⟨g1106, 1, none⟩ = some (.int .i64 16) := blk_cellv (HS.out.at0) 1 rfl; have hc1132 : w1127.cell? ⟨g1106, 2, none⟩ = some (.int .i64 4) := blk_cellv (HS.out.at0) 2 rfl; have hc1133 : w1127.cell? ⟨g1106, 3, none⟩ = some (.int .i64 t1122.1) := blk_cellv (HS.out.at0) 3 rfl))
      clear hc1130 hc1131 hc1132 hc1133
      obtain ⟨t1134, HA1135, H⟩ := bind_some H
      refine (tune_Longest.calls _ 100 16 4 t1122.1 t1134 _ ⟨HS.out.begin (l := []) (rest := [blk g1106 #[.int .i64 100, .int .i64 16, .int .i64 4, .int .i64 t1122.1] 32])⟩ HA1135).mono ?_
      rintro e_ w1136 ⟨rfl, hS⟩
      have HS_ : Aside0 (Sep (fps []) w [blk g1106 #[.int .i64 100, .int .i64 16, .int .i64 4, .int .i64 t1122.1] 32] w1136) := ⟨HS.out.call (l := []) (rest := [blk g1106 #[.int .i64 100, .int .i64 16, .int .i64 4, .int .i64 t1122.1] 32]) hS⟩
      clear HS hS
      have HS := HS_
      clear HS_
      go_wp2_with fail
      go_ret
      rw [← some_eq H]
      exact ⟨(by first | rfl | (simp [IntKind.wrap_u32]; done)), (HS.out).keep (l := []) (rest := [blk g1106 #[.int .i64 100, .int .i64 16, .int .i64 4, .int .i64 t1122.1] 32])⟩
    · have H := if_no c1129 H
      have c1129b0 : t1122.2 = false := by simpa using c1129
      clear c1129
      have hc1125 : w1124.cell? ⟨g1106, 3, none⟩ = some (.int .i64 0) := blk_cellv (HS.out.at0) 3 rfl
      have hz1126 : w1124.frozen? ⟨g1106, 3, none⟩ = false := blk_fz (HS.out.at0) 3
      go_wp2_with (first | ((with_reducible refine gate_store (t := 3) (p := 11) rfl ?_); refine store_event (w1 := (World.setCell w1124 ⟨g1106, 3, none⟩ (.int .i64 t1122.1))) rfl (t := 3) (p := 11) rfl rfl ?hr ?_; (case hr => first | (go_simp; done) | (go_simp; rfl)); intro w1127 hst; clear hc1125 hz1126; have hq0 : Sep (fps []) w [blk g1106 #[.int .i64 100, .int .i64 16, .int .i64 4, .int .i64 t1122.1] 32] (World.setCell w1124 ⟨g1106, 3, none⟩ (.int .i64 t1122.1)) := (HS.out).set1 (l1 := []) (l2 := []) 3 (.int .i64 t1122.1); have HS_ : Aside0 (Sep (fps []) w [blk g1106 #[.int .i64 100, .int .i64 16, .int .i64 4, .int .i64 t1122.1] 32] w1127) := ⟨by rw [hst]; exact hq0⟩; clear hq0; clear HS hst; have HS := HS_; clear HS_))
      go_ret
      rw [← some_eq H]
      exact ⟨(by first | rfl | (simp [IntKind.wrap_u32]; done)), (HS.out).keep (l := []) (rest := [blk g1106 #[.int .i64 100, .int .i64 16, .int .i64 4, .int .i64 t1122.1] 32])⟩
  · have H := if_no c1128 H
    have c1128b0 : (t1122.1 == 1702) = false := beq_eq_false_iff_ne.mpr c1128
    have c1128b1 : (t1122.1 != 1702) = true := bne_iff_ne.mpr c1128
    clear c1128
    have hc1125 : w1124.cell? ⟨g1106, 3, none⟩ = some (.int .i64 0) := blk_cellv (HS.out.at0) 3 rfl
    have hz1126 : w1124.frozen? ⟨g1106, 3, none⟩ = false := blk_fz (HS.out.at0) 3
    go_wp2_with (first | ((with_reducible refine gate_store (t := 3) (p := 11) rfl ?_); refine store_event (w1 := (World.setCell w1124 ⟨g1106, 3, none⟩ (.int .i64 t1122.1))) rfl (t := 3) (p := 11) rfl rfl ?hr ?_; (case hr => first | (go_simp; done) | (go_simp; rfl)); intro w1127 hst; clear hc1125 hz1126; have hq0 : Sep (fps []) w [blk g1106 #[.int .i64 100, .int .i64 16, .int .i64 4, .int .i64 t1122.1] 32] (World.setCell w1124 ⟨g1106, 3, none⟩ (.int .i64 t1122.1)) := (HS.out).set1 (l1 := []) (l2 := []) 3 (.int .i64 t1122.1); have HS_ : Aside0 (Sep (fps []) w [blk g1106 #[.int .i64 100, .int .i64 16, .int .i64 4, .int .i64 t1122.1] 32] w1127) := ⟨by rw [hst]; exact hq0⟩; clear hq0; clear HS hst; have HS := HS_; clear HS_))
    go_ret
    rw [← some_eq H]
    exact ⟨(by first | rfl | (simp [IntKind.wrap_u32]; done)), (HS.out).keep (l := []) (rest := [blk g1106 #[.int .i64 100, .int .i64 16, .int .i64 4, .int .i64 t1122.1] 32])⟩
end Go.Proofs.Ytgkpcboaiaiahab.C

/- Each function of the group Plan does what its plain function says, and changes nothing that was there; proved by walking its code. No condition. -/
import Derived.Test.YtgkpcboaiaiahabQw
import Derived.Test.YtgkpcboaiaiahabMPlan
import Derived.Test.YtgkpcboaiaiahabGPlan0
import Derived.Test.YtgkpcboaiaiahabGPlan1
namespace Go.Proofs.Ytgkpcboaiaiahab.C
open Go.RowKit Go.Proofs.YtgkpcboaiaiahabW.PrintWords Go.Proofs.YtgkpcboaiaiahabW.PrintLast Go.Proofs.YtgkpcboaiaiahabW.PrintMore Go.Proofs.Ytgkpcboaiaiahab.Q Go.Proofs.Ytgkpcboaiaiahab.M
set_option linter.unusedVariables false
set_option linter.unusedSimpArgs false
set_option maxHeartbeats 4000000 in
set_option maxRecDepth 100000 in
theorem quitrentlaw03_begun.calls (k : Nat)  (r : Bool) (w : World)  (HS : Aside0 (Sep (fps []) w [] w)) (H : Aside0 (quitrentlaw03_begun.f k = some r)) :
    Calls Try.prog 17 #[] w fun e w' => e = .returned (.bool r) ∧ Sep (fps []) w [] w' := by
  unfold quitrentlaw03_begun.f at H
  go_enter Try.func17, Try.ntmps17
  go_wp2_with fail
  obtain ⟨t572, HA573, H⟩ := bind_some H
  refine (plan_Of.calls _ 100 16 4 2000 t572 _ ⟨HS.out.begin (l := []) (rest := [])⟩ HA573).mono ?_
  rintro e_ w574 ⟨rfl, hS⟩
  have HS_ : Aside0 (Sep (fps []) w [] w574) := ⟨HS.out.call (l := []) (rest := []) hS⟩
  clear HS hS
  have HS := HS_
  clear HS_
  by_cases c595 : t572.2.2.2.2.2.2.2.2 = 0
  · have H := if_yes c595 H
    have c595b0 : (t572.2.2.2.2.2.2.2.2 == 0) = true := beq_iff_eq.mpr c595
    have c595b1 : (t572.2.2.2.2.2.2.2.2 != 0) = false := bne_eq_false_iff_eq.mpr c595
    clear c595
    by_cases c604 : t572.1 = 1628
    · have H := if_yes c604 H
      have c604b0 : (t572.1 == 1628) = true := beq_iff_eq.mpr c604
      have c604b1 : (t572.1 != 1628) = false := bne_eq_false_iff_eq.mpr c604
      clear c604
      by_cases c605 : t572.2.1 = 8
      · have H := if_yes c605 H
        have c605b0 : (t572.2.1 == 8) = true := beq_iff_eq.mpr c605
        have c605b1 : (t572.2.1 != 8) = false := bne_eq_false_iff_eq.mpr c605
        clear c605
        by_cases c606 : t572.2.2.1 = 9
        · have H := if_yes c606 H
          have c606b0 : (t572.2.2.1 == 9) = true := beq_iff_eq.mpr c606
          have c606b1 : (t572.2.2.1 != 9) = false := bne_eq_false_iff_eq.mpr c606
          clear c606
          by_cases c607 : t572.2.2.2.1 = 120
          · have H := if_yes c607 H
            have c607b0 : (t572.2.2.2.1 == 120) = true := beq_iff_eq.mpr c607
            have c607b1 : (t572.2.2.2.1 != 120) = false := bne_eq_false_iff_eq.mpr c607
            clear c607
            by_cases c608 : t572.2.2.2.2.1 = 5104
            · have H := if_yes c608 H
              have c608b0 : (t572.2.2.2.2.1 == 5104) = true := beq_iff_eq.mpr c608
              have c608b1 : (t572.2.2.2.2.1 != 5104) = false := bne_eq_false_iff_eq.mpr c608
              clear c608
              by_cases c609 : t572.2.2.2.2.2.1 = 1700
              · have H := if_yes c609 H
                have c609b0 : (t572.2.2.2.2.2.1 == 1700) = true := beq_iff_eq.mpr c609
                have c609b1 : (t572.2.2.2.2.2.1 != 1700) = false := bne_eq_false_iff_eq.mpr c609
                clear c609
                by_cases c610 : t572.2.2.2.2.2.2.1 = 24
                · have H := if_yes c610 H
                  have c610b0 : (t572.2.2.2.2.2.2.1 == 24) = true := beq_iff_eq.mpr c610
                  have c610b1 : (t572.2.2.2.2.2.2.1 != 24) = false := bne_eq_false_iff_eq.mpr c610
                  clear c610
                  by_cases c611 : t572.2.2.2.2.2.2.2.1 = 8
                  · have H := if_yes c611 H
                    have c611b0 : (t572.2.2.2.2.2.2.2.1 == 8) = true := beq_iff_eq.mpr c611
                    have c611b1 : (t572.2.2.2.2.2.2.2.1 != 8) = false := bne_eq_false_iff_eq.mpr c611
                    clear c611
                    go_wp2_with (first | ((with_reducible refine gate_dst (N := 1) rfl ?_); refine box_on ?hg (N := 1) ?hd (cs := #[.int .i64 0, .int .i64 0, .int .i64 0, .int .i64 0, .int .i64 0, .int .i64 0, .int .i64 0, .int .i64 0]) (t := 38) ?hr ?_; (case hd => rfl); (case hg => rfl); (case hr => first | (go_simp; done) | (go_simp; rfl)); intro g575 hg w576 hbox hb; have HS_ : Aside0 (Sep (fps []) w [blk g575 #[.int .i64 0, .int .i64 0, .int .i64 0, .int .i64 0, .int .i64 0, .int .i64 0, .int .i64 0, .int .i64 0] 38] w576) := ⟨HS.out.box hg hbox hb⟩; clear HS hg hbox hb; have HS := HS_; clear HS_; have hc578 : w576.cell? ⟨g575, 0, none⟩ = some (.int .i64 0) := blk_cellv (HS.out.at0) 0 rfl; have hz579 : w576.frozen? ⟨g575, 0, none⟩ = false := blk_fz (HS.out.at0) 0; have hc580 : w576.cell? ⟨g575, 1, none⟩ = some (.int .i64 0) := blk_cellv (HS.out.at0) 1 rfl; have hz581 : w576.frozen? ⟨g575, 1, none⟩ = false := blk_fz (HS.out.at0) 1; have hc582 : w576.cell? ⟨g575, 2, none⟩ = some (.int .i64 0) := blk_cellv (HS.out.at0) 2 rfl; have hz583 : w576.frozen? ⟨g575, 2, none⟩ = false := blk_fz (HS.out.at0) 2; have hc584 : w576.cell? ⟨g575, 3, none⟩ = some (.int .i64 0) := blk_cellv (HS.out.at0) 3 rfl; have hz585 : w576.frozen? ⟨g575, 3, none⟩ = false := blk_fz (HS.out.at0) 3; have hc586 : w576.cell? ⟨g575, 4, none⟩ = some (.int .i64 0) := blk_cellv (HS.out.at0) 4 rfl; have hz587 : w576.frozen? ⟨g575, 4, none⟩ = false := blk_fz (HS.out.at0) 4; have hc588 : w576.cell? ⟨g575, 5, none⟩ = some (.int .i64 0) := blk_cellv (HS.out.at0) 5 rfl; have hz589 : w576.frozen? ⟨g575, 5, none⟩ = false := blk_fz (HS.out.at0) 5; have hc590 : w576.cell? ⟨g575, 6, none⟩ = some (.int .i64 0) := blk_cellv (HS.out.at0) 6 rfl; have hz591 : w576.frozen? ⟨g575, 6, none⟩ = false := blk_fz (HS.out.at0) 6; have hc592 : w576.cell? ⟨g575, 7, none⟩ = some (.int .i64 0) := blk_cellv (HS.out.at0) 7 rfl; have hz593 : w576.frozen? ⟨g575, 7, none⟩ = false := blk_fz (HS.out.at0) 7) | ((with_reducible refine gate_store (t := 38) (p := 1) rfl ?_); refine store_event (w1 := (World.setCell (World.setCell (World.setCell (World.setCell (World.setCell (World.setCell (World.setCell (World.setCell w576 ⟨g575, 0, none⟩ (.int .i64 t572.1)) ⟨g575, 1, none⟩ (.int .i64 t572.2.1)) ⟨g575, 2, none⟩ (.int .i64 t572.2.2.1)) ⟨g575, 3, none⟩ (.int .i64 t572.2.2.2.1)) ⟨g575, 4, none⟩ (.int .i64 t572.2.2.2.2.1)) ⟨g575, 5, none⟩ (.int .i64 t572.2.2.2.2.2.1)) ⟨g575, 6, none⟩ (.int .i64 t572.2.2.2.2.2.2.1)) ⟨g575, 7, none⟩ (.int .i64 t572.2.2.2.2.2.2.2.1))) rfl (t := 38) (p := 1) rfl rfl ?hr ?_; (case hr => first | (go_simp; done) | (go_simp; rfl)); intro w594 hst; clear hc578 hz579 hc580 hz581 hc582 hz583 hc584 hz585 hc586 hz587 hc588 hz589 hc590 hz591 hc592 hz593; have hq0 : Sep (fps []) w [blk g575 #[.int .i64 t572.1, .int .i64 0, .int .i64 0, .int .i64 0, .int .i64 0, .int .i64 0, .int .i64 0, .int .i64 0] 38] (World.setCell w576 ⟨g575, 0, none⟩ (.int .i64 t572.1)) := (HS.out).set1 (l1 := []) (l2 := []) 0 (.int .i64 t572.1); have hq1 : Sep (fps []) w [blk g575 #[.int .i64 t572.1, .int .i64 t572.2.1, .int .i64 0, .int .i64 0, .int .i64 0, .int .i64 0, .int .i64 0, .int .i64 0] 38] (World.setCell (World.setCell w576 ⟨g575, 0, none⟩ (.int .i64 t572.1)) ⟨g575, 1, none⟩ (.int .i64 t572.2.1)) := (hq0).set1 (l1 := []) (l2 := []) 1 (.int .i64 t572.2.1); have hq2 : Sep (fps []) w [blk g575 #[.int .i64 t572.1, .int .i64 t572.2.1, .int .i64 t572.2.2.1, .int .i64 0, .int .i64 0, .int .i64 0, .int .i64 0, .int .i64 0] 38] (World.setCell (World.setCell (World.setCell w576 ⟨g575, 0, none⟩ (.int .i64 t572.1)) ⟨g575, 1, none⟩ (.int .i64 t572.2.1)) ⟨g575, 2, none⟩ (.int .i64 t572.2.2.1)) := (hq1).set1 (l1 := []) (l2 := []) 2 (.int .i64 t572.2.2.1); have hq3 : Sep (fps []) w [blk g575 #[.int .i64 t572.1, .int .i64 t572.2.1, .int .i64 t572.2.2.1, .int .i64 t572.2.2.2.1, .int .i64 0, .int .i64 0, .int .i64 0, .int .i64 0] 38] (World.setCell (World.setCell (World.setCell (World.setCell w576 ⟨g575, 0, none⟩ (.int .i64 t572.1)) ⟨g575, 1, none⟩ (.int .i64 t572.2.1)) ⟨g575, 2, none⟩ (.int .i64 t572.2.2.1)) ⟨g575, 3, none⟩ (.int .i64 t572.2.2.2.1)) := (hq2).set1 (l1 := []) (l2 := []) 3 (.int .i64 t572.2.2.2.1); have hq4 : Sep (fps []) w [blk g575 #[.int .i64 t572.1, .int .i64 t572.2.1, .int .i64 t572.2.2.1, .int .i64 t572.2.2.2.1, .int .i64 t572.2.2.2.2.1, .int .i64 0, .int .i64 0, .int .i64 0] 38] (World.setCell (World.setCell (World.setCell (World.setCell (World.setCell w576 ⟨g575, 0, none⟩ (.int .i64 t572.1)) ⟨g575, 1, none⟩ (.int .i64 t572.2.1)) ⟨g575, 2, none⟩ (.int .i64 t572.2.2.1)) ⟨g575, 3, none⟩ (.int .i64 t572.2.2.2.1)) ⟨g575, 4, none⟩ (.int .i64 t572.2.2.2.2.1)) := (hq3).set1 (l1 := []) (l2 := []) 4 (.int .i64 t572.2.2.2.2.1); have hq5 : Sep (fps []) w [blk g575 #[.int .i64 t572.1, .int .i64 t572.2.1, .int .i64 t572.2.2.1, .int .i64 t572.2.2.2.1, .int .i64 t572.2.2.2.2.1, .int .i64 t572.2.2.2.2.2.1, .int .i64 0, .int .i64 0] 38] (World.setCell (World.setCell (World.setCell (World.setCell (World.setCell (World.setCell w576 ⟨g575, 0, none⟩ (.int .i64 t572.1)) ⟨g575, 1, none⟩ (.int .i64 t572.2.1)) ⟨g575, 2, none⟩ (.int .i64 t572.2.2.1)) ⟨g575, 3, none⟩ (.int .i64 t572.2.2.2.1)) ⟨g575, 4, none⟩ (.int .i64 t572.2.2.2.2.1)) ⟨g575, 5, none⟩ (.int .i64 t572.2.2.2.2.2.1)) := (hq4).set1 (l1 := []) (l2 := []) 5 (.int .i64 t572.2.2.2.2.2.1); have hq6 : Sep (fps []) w [blk g575 #[.int .i64 t572.1, .int .i64 t572.2.1, .int .i64 t572.2.2.1, .int .i64 t572.2.2.2.1, .int .i64 t572.2.2.2.2.1, .int .i64 t572.2.2.2.2.2.1, .int .i64 t572.2.2.2.2.2.2.1, .int .i64 0] 38] (World.setCell (World.setCell (World.setCell (World.setCell (World.setCell (World.setCell (World.setCell w576 ⟨g575, 0, none⟩ (.int .i64 t572.1)) ⟨g575, 1, none⟩ (.int .i64 t572.2.1)) ⟨g575, 2, none⟩ (.int .i64 t572.2.2.1)) ⟨g575, 3, none⟩ (.int .i64 t572.2.2.2.1)) ⟨g575, 4, none⟩ (.int .i64 t572.2.2.2.2.1)) ⟨g575, 5, none⟩ (.int .i64 t572.2.2.2.2.2.1)) ⟨g575, 6, none⟩ (.int .i64 t572.2.2.2.2.2.2.1)) := (hq5).set1 (l1 := []) (l2 := []) 6 (.int .i64 t572.2.2.2.2.2.2.1); have hq7 : Sep (fps []) w [blk g575 #[.int .i64 t572.1, .int .i64 t572.2.1, .int .i64 t572.2.2.1, .int .i64 t572.2.2.2.1, .int .i64 t572.2.2.2.2.1, .int .i64 t572.2.2.2.2.2.1, .int .i64 t572.2.2.2.2.2.2.1, .int .i64 t572.2.2.2.2.2.2.2.1] 38] (World.setCell (World.setCell (World.setCell (World.setCell (World.setCell (World.setCell (World.setCell (World.setCell w576 ⟨g575, 0, none⟩ (.int .i64 t572.1)) ⟨g575, 1, none⟩ (.int .i64 t572.2.1)) ⟨g575, 2, none⟩ (.int .i64 t572.2.2.1)) ⟨g575, 3, none⟩ (.int .i64 t572.2.2.2.1)) ⟨g575, 4, none⟩ (.int .i64 t572.2.2.2.2.1)) ⟨g575, 5, none⟩ (.int .i64 t572.2.2.2.2.2.1)) ⟨g575, 6, none⟩ (.int .i64 t572.2.2.2.2.2.2.1)) ⟨g575, 7, none⟩ (.int .i64 t572.2.2.2.2.2.2.2.1)) := (hq6).set1 (l1 := []) (l2 := []) 7 (.int .i64 t572.2.2.2.2.2.2.2.1); have HS_ : Aside0 (Sep (fps []) w [blk g575 #[.int .i64 t572.1, .int .i64 t572.2.1, .int .i64 t572.2.2.1, .int .i64 t572.2.2.2.1, .int .i64 t572.2.2.2.2.1, .int .i64 t572.2.2.2.2.2.1, .int .i64 t572.2.2.2.2.2.2.1, .int .i64 t572.2.2.2.2.2.2.2.1] 38] w594) := ⟨by rw [hst]; exact hq7⟩; clear hq0 hq1 hq2 hq3 hq4 hq5 hq6 hq7; clear HS hst; have HS := HS_; clear HS_; have hc596 : w594.cell? ⟨g575, 0, none⟩ = some (.int .i64 t572.1) := blk_cellv (HS.out.at0) 0 rfl; have hc597 : w594.cell? ⟨g575, 1, none⟩ = some (.int .i64 t572.2.1) := blk_cellv (HS.out.at0) 1 rfl; have hc598 : w594.cell? ⟨g575, 2, none⟩ = some (.int .i64 t572.2.2.1) := blk_cellv (HS.out.at0) 2 rfl; have hc599 : w594.cell? ⟨g575, 3, none⟩ = some (.int .i64 t572.2.2.2.1) := blk_cellv (HS.out.at0) 3 rfl; have hc600 : w594.cell? ⟨g575, 4, none⟩ = some (.int .i64 t572.2.2.2.2.1) := blk_cellv (HS.out.at0) 4 rfl; have hc601 : w594.cell? ⟨g575, 5, none⟩ = some (.int .i64 t572.2.2.2.2.2.1) := blk_cellv (HS.out.at0) 5 rfl; have hc602 : w594.cell? ⟨g575, 6, none⟩ = some (.int .i64 t572.2.2.2.2.2.2.1) := blk_cellv (HS.out.at0) 6 rfl; have hc603 : w594.cell? ⟨g575, 7, none⟩ = some (.int .i64 t572.2.2.2.2.2.2.2.1) := blk_cellv (HS.out.at0) 7 rfl))
                    clear hc596 hc597 hc598 hc599 hc600 hc601 hc602 hc603
                    obtain ⟨t612, HA613, H⟩ := bind_some H
                    refine (plan_Check.calls 0 0 0 0 t612 _ ⟨HS.out.begin (l := []) (rest := [blk g575 #[.int .i64 t572.1, .int .i64 t572.2.1, .int .i64 t572.2.2.1, .int .i64 t572.2.2.2.1, .int .i64 t572.2.2.2.2.1, .int .i64 t572.2.2.2.2.2.1, .int .i64 t572.2.2.2.2.2.2.1, .int .i64 t572.2.2.2.2.2.2.2.1] 38])⟩ HA613).mono ?_
                    rintro e_ w614 ⟨rfl, hS⟩
                    have HS_ : Aside0 (Sep (fps []) w [blk g575 #[.int .i64 t572.1, .int .i64 t572.2.1, .int .i64 t572.2.2.1, .int .i64 t572.2.2.2.1, .int .i64 t572.2.2.2.2.1, .int .i64 t572.2.2.2.2.2.1, .int .i64 t572.2.2.2.2.2.2.1, .int .i64 t572.2.2.2.2.2.2.2.1] 38] w614) := ⟨HS.out.call (l := []) (rest := [blk g575 #[.int .i64 t572.1, .int .i64 t572.2.1, .int .i64 t572.2.2.1, .int .i64 t572.2.2.2.1, .int .i64 t572.2.2.2.2.1, .int .i64 t572.2.2.2.2.2.1, .int .i64 t572.2.2.2.2.2.2.1, .int .i64 t572.2.2.2.2.2.2.2.1] 38]) hS⟩
                    clear HS hS
                    have HS := HS_
                    clear HS_
                    go_wp2_with fail
                    go_ret
                    rw [← some_eq H]
                    exact ⟨(by first | rfl | (simp [IntKind.wrap_u32]; done)), (HS.out).keep (l := []) (rest := [blk g575 #[.int .i64 t572.1, .int .i64 t572.2.1, .int .i64 t572.2.2.1, .int .i64 t572.2.2.2.1, .int .i64 t572.2.2.2.2.1, .int .i64 t572.2.2.2.2.2.1, .int .i64 t572.2.2.2.2.2.2.1, .int .i64 t572.2.2.2.2.2.2.2.1] 38])⟩
                  · have H := if_no c611 H
                    have c611b0 : (t572.2.2.2.2.2.2.2.1 == 8) = false := beq_eq_false_iff_ne.mpr c611
                    have c611b1 : (t572.2.2.2.2.2.2.2.1 != 8) = true := bne_iff_ne.mpr c611
                    clear c611
                    go_wp2_with (first | ((with_reducible refine gate_dst (N := 1) rfl ?_); refine box_on ?hg (N := 1) ?hd (cs := #[.int .i64 0, .int .i64 0, .int .i64 0, .int .i64 0, .int .i64 0, .int .i64 0, .int .i64 0, .int .i64 0]) (t := 38) ?hr ?_; (case hd => rfl); (case hg => rfl); (case hr => first | (go_simp; done) | (go_simp; rfl)); intro g575 hg w576 hbox hb; have HS_ : Aside0 (Sep (fps []) w [blk g575 #[.int .i64 0, .int .i64 0, .int .i64 0, .int .i64 0, .int .i64 0, .int .i64 0, .int .i64 0, .int .i64 0] 38] w576) := ⟨HS.out.box hg hbox hb⟩; clear HS hg hbox hb; have HS := HS_; clear HS_; have hc578 : w576.cell? ⟨g575, 0, none⟩ = some (.int .i64 0) := blk_cellv (HS.out.at0) 0 rfl; have hz579 : w576.frozen? ⟨g575, 0, none⟩ = false := blk_fz (HS.out.at0) 0; have hc580 : w576.cell? ⟨g575, 1, none⟩ = some (.int .i64 0) := blk_cellv (HS.out.at0) 1 rfl; have hz581 : w576.frozen? ⟨g575, 1, none⟩ = false := blk_fz (HS.out.at0) 1; have hc582 : w576.cell? ⟨g575, 2, none⟩ = some (.int .i64 0) := blk_cellv (HS.out.at0) 2 rfl; have hz583 : w576.frozen? ⟨g575, 2, none⟩ = false := blk_fz (HS.out.at0) 2; have hc584 : w576.cell? ⟨g575, 3, none⟩ = some (.int .i64 0) := blk_cellv (HS.out.at0) 3 rfl; have hz585 : w576.frozen? ⟨g575, 3, none⟩ = false := blk_fz (HS.out.at0) 3; have hc586 : w576.cell? ⟨g575, 4, none⟩ = some (.int .i64 0) := blk_cellv (HS.out.at0) 4 rfl; have hz587 : w576.frozen? ⟨g575, 4, none⟩ = false := blk_fz (HS.out.at0) 4; have hc588 : w576.cell? ⟨g575, 5, none⟩ = some (.int .i64 0) := blk_cellv (HS.out.at0) 5 rfl; have hz589 : w576.frozen? ⟨g575, 5, none⟩ = false := blk_fz (HS.out.at0) 5; have hc590 : w576.cell? ⟨g575, 6, none⟩ = some (.int .i64 0) := blk_cellv (HS.out.at0) 6 rfl; have hz591 : w576.frozen? ⟨g575, 6, none⟩ = false := blk_fz (HS.out.at0) 6; have hc592 : w576.cell? ⟨g575, 7, none⟩ = some (.int .i64 0) := blk_cellv (HS.out.at0) 7 rfl; have hz593 : w576.frozen? ⟨g575, 7, none⟩ = false := blk_fz (HS.out.at0) 7) | ((with_reducible refine gate_store (t := 38) (p := 1) rfl ?_); refine store_event (w1 := (World.setCell (World.setCell (World.setCell (World.setCell (World.setCell (World.setCell (World.setCell (World.setCell w576 ⟨g575, 0, none⟩ (.int .i64 t572.1)) ⟨g575, 1, none⟩ (.int .i64 t572.2.1)) ⟨g575, 2, none⟩ (.int .i64 t572.2.2.1)) ⟨g575, 3, none⟩ (.int .i64 t572.2.2.2.1)) ⟨g575, 4, none⟩ (.int .i64 t572.2.2.2.2.1)) ⟨g575, 5, none⟩ (.int .i64 t572.2.2.2.2.2.1)) ⟨g575, 6, none⟩ (.int .i64 t572.2.2.2.2.2.2.1)) ⟨g575, 7, none⟩ (.int .i64 t572.2.2.2.2.2.2.2.1))) rfl (t := 38) (p := 1) rfl rfl ?hr ?_; (case hr => first | (go_simp; done) | (go_simp; rfl)); intro w594 hst; clear hc578 hz579 hc580 hz581 hc582 hz583 hc584 hz585 hc586 hz587 hc588 hz589 hc590 hz591 hc592 hz593; have hq0 : Sep (fps []) w [blk g575 #[.int .i64 t572.1, .int .i64 0, .int .i64 0, .int .i64 0, .int .i64 0, .int .i64 0, .int .i64 0, .int .i64 0] 38] (World.setCell w576 ⟨g575, 0, none⟩ (.int .i64 t572.1)) := (HS.out).set1 (l1 := []) (l2 := []) 0 (.int .i64 t572.1); have hq1 : Sep (fps []) w [blk g575 #[.int .i64 t572.1, .int .i64 t572.2.1, .int .i64 0, .int .i64 0, .int .i64 0, .int .i64 0, .int .i64 0, .int .i64 0] 38] (World.setCell (World.setCell w576 ⟨g575, 0, none⟩ (.int .i64 t572.1)) ⟨g575, 1, none⟩ (.int .i64 t572.2.1)) := (hq0).set1 (l1 := []) (l2 := []) 1 (.int .i64 t572.2.1); have hq2 : Sep (fps []) w [blk g575 #[.int .i64 t572.1, .int .i64 t572.2.1, .int .i64 t572.2.2.1, .int .i64 0, .int .i64 0, .int .i64 0, .int .i64 0, .int .i64 0] 38] (World.setCell (World.setCell (World.setCell w576 ⟨g575, 0, none⟩ (.int .i64 t572.1)) ⟨g575, 1, none⟩ (.int .i64 t572.2.1)) ⟨g575, 2, none⟩ (.int .i64 t572.2.2.1)) := (hq1).set1 (l1 := []) (l2 := []) 2 (.int .i64 t572.2.2.1); have hq3 : Sep (fps []) w [blk g575 #[.int .i64 t572.1, .int .i64 t572.2.1, .int .i64 t572.2.2.1, .int .i64 t572.2.2.2.1, .int .i64 0, .int .i64 0, .int .i64 0, .int .i64 0] 38] (World.setCell (World.setCell (World.setCell (World.setCell w576 ⟨g575, 0, none⟩ (.int .i64 t572.1)) ⟨g575, 1, none⟩ (.int .i64 t572.2.1)) ⟨g575, 2, none⟩ (.int .i64 t572.2.2.1)) ⟨g575, 3, none⟩ (.int .i64 t572.2.2.2.1)) := (hq2).set1 (l1 := []) (l2 := []) 3 (.int .i64 t572.2.2.2.1); have hq4 : Sep (fps []) w [blk g575 #[.int .i64 t572.1, .int .i64 t572.2.1, .int .i64 t572.2.2.1, .int .i64 t572.2.2.2.1, .int .i64 t572.2.2.2.2.1, .int .i64 0, .int .i64 0, .int .i64 0] 38] (World.setCell (World.setCell (World.setCell (World.setCell (World.setCell w576 ⟨g575, 0, none⟩ (.int .i64 t572.1)) ⟨g575, 1, none⟩ (.int .i64 t572.2.1)) ⟨g575, 2, none⟩ (.int .i64 t572.2.2.1)) ⟨g575, 3, none⟩ (.int .i64 t572.2.2.2.1)) ⟨g575, 4, none⟩ (.int .i64 t572.2.2.2.2.1)) := (hq3).set1 (l1 := []) (l2 := []) 4 (.int .i64 t572.2.2.2.2.1); have hq5 : Sep (fps []) w [blk g575 #[.int .i64 t572.1, .int .i64 t572.2.1, .int .i64 t572.2.2.1, .int .i64 t572.2.2.2.1, .int .i64 t572.2.2.2.2.1, .int .i64 t572.2.2.2.2.2.1, .int .i64 0, .int .i64 0] 38] (World.setCell (World.setCell (World.setCell (World.setCell (World.setCell (World.setCell w576 ⟨g575, 0, none⟩ (.int .i64 t572.1)) ⟨g575, 1, none⟩ (.int .i64 t572.2.1)) ⟨g575, 2, none⟩ (.int .i64 t572.2.2.1)) ⟨g575, 3, none⟩ (.int .i64 t572.2.2.2.1)) ⟨g575, 4, none⟩ (.int .i64 t572.2.2.2.2.1)) ⟨g575, 5, none⟩ (.int .i64 t572.2.2.2.2.2.1)) := (hq4).set1 (l1 := []) (l2 := []) 5 (.int .i64 t572.2.2.2.2.2.1); have hq6 : Sep (fps []) w [blk g575 #[.int .i64 t572.1, .int .i64 t572.2.1, .int .i64 t572.2.2.1, .int .i64 t572.2.2.2.1, .int .i64 t572.2.2.2.2.1, .int .i64 t572.2.2.2.2.2.1, .int .i64 t572.2.2.2.2.2.2.1, .int .i64 0] 38] (World.setCell (World.setCell (World.setCell (World.setCell (World.setCell (World.setCell (World.setCell w576 ⟨g575, 0, none⟩ (.int .i64 t572.1)) ⟨g575, 1, none⟩ (.int .i64 t572.2.1)) ⟨g575, 2, none⟩ (.int .i64 t572.2.2.1)) ⟨g575, 3, none⟩ (.int .i64 t572.2.2.2.1)) ⟨g575, 4, none⟩ (.int .i64 t572.2.2.2.2.1)) ⟨g575, 5, none⟩ (.int .i64 t572.2.2.2.2.2.1)) ⟨g575, 6, none⟩ (.int .i64 t572.2.2.2.2.2.2.1)) := (hq5).set1 (l1 := []) (l2 := []) 6 (.int .i64 t572.2.2.2.2.2.2.1); have hq7 : Sep (fps []) w [blk g575 #[.int .i64 t572.1, .int .i64 t572.2.1, .int .i64 t572.2.2.1, .int .i64 t572.2.2.2.1, .int .i64 t572.2.2.2.2.1, .int .i64 t572.2.2.2.2.2.1, .int .i64 t572.2.2.2.2.2.2.1, .int .i64 t572.2.2.2.2.2.2.2.1] 38] (World.setCell (World.setCell (World.setCell (World.setCell (World.setCell (World.setCell (World.setCell (World.setCell w576 ⟨g575, 0, none⟩ (.int .i64 t572.1)) ⟨g575, 1, none⟩ (.int .i64 t572.2.1)) ⟨g575, 2, none⟩ (.int .i64 t572.2.2.1)) ⟨g575, 3, none⟩ (.int .i64 t572.2.2.2.1)) ⟨g575, 4, none⟩ (.int .i64 t572.2.2.2.2.1)) ⟨g575, 5, none⟩ (.int .i64 t572.2.2.2.2.2.1)) ⟨g575, 6, none⟩ (.int .i64 t572.2.2.2.2.2.2.1)) ⟨g575, 7, none⟩ (.int .i64 t572.2.2.2.2.2.2.2.1)) := (hq6).set1 (l1 := []) (l2 := []) 7 (.int .i64 t572.2.2.2.2.2.2.2.1); have HS_ : Aside0 (Sep (fps []) w [blk g575 #[.int .i64 t572.1, .int .i64 t572.2.1, .int .i64 t572.2.2.1, .int .i64 t572.2.2.2.1, .int .i64 t572.2.2.2.2.1, .int .i64 t572.2.2.2.2.2.1, .int .i64 t572.2.2.2.2.2.2.1, .int .i64 t572.2.2.2.2.2.2.2.1] 38] w594) := ⟨by rw [hst]; exact hq7⟩; clear hq0 hq1 hq2 hq3 hq4 hq5 hq6 hq7; clear HS hst; have HS := HS_; clear HS_; have hc596 : w594.cell? ⟨g575, 0, none⟩ = some (.int .i64 t572.1) := blk_cellv (HS.out.at0) 0 rfl; have hc597 : w594.cell? ⟨g575, 1, none⟩ = some (.int .i64 t572.2.1) := blk_cellv (HS.out.at0) 1 rfl; have hc598 : w594.cell? ⟨g575, 2, none⟩ = some (.int .i64 t572.2.2.1) := blk_cellv (HS.out.at0) 2 rfl; have hc599 : w594.cell? ⟨g575, 3, none⟩ = some (.int .i64 t572.2.2.2.1) := blk_cellv (HS.out.at0) 3 rfl; have hc600 : w594.cell? ⟨g575, 4, none⟩ = some (.int .i64 t572.2.2.2.2.1) := blk_cellv (HS.out.at0) 4 rfl; have hc601 : w594.cell? ⟨g575, 5, none⟩ = some (.int .i64 t572.2.2.2.2.2.1) := blk_cellv (HS.out.at0) 5 rfl; have hc602 : w594.cell? ⟨g575, 6, none⟩ = some (.int .i64 t572.2.2.2.2.2.2.1) := blk_cellv (HS.out.at0) 6 rfl; have hc603 : w594.cell? ⟨g575, 7, none⟩ = some (.int .i64 t572.2.2.2.2.2.2.2.1) := blk_cellv (HS.out.at0) 7 rfl))
                    clear hc596 hc597 hc598 hc599 hc600 hc601 hc602 hc603
                    go_ret
                    rw [← some_eq H]
                    exact ⟨(by first | rfl | (simp [IntKind.wrap_u32]; done)), (HS.out).keep (l := []) (rest := [blk g575 #[.int .i64 t572.1, .int .i64 t572.2.1, .int .i64 t572.2.2.1, .int .i64 t572.2.2.2.1, .int .i64 t572.2.2.2.2.1, .int .i64 t572.2.2.2.2.2.1, .int .i64 t572.2.2.2.2.2.2.1, .int .i64 t572.2.2.2.2.2.2.2.1] 38])⟩
                · have H := if_no c610 H
                  have c610b0 : (t572.2.2.2.2.2.2.1 == 24) = false := beq_eq_false_iff_ne.mpr c610
                  have c610b1 : (t572.2.2.2.2.2.2.1 != 24) = true := bne_iff_ne.mpr c610
                  clear c610
                  go_wp2_with (first | ((with_reducible refine gate_dst (N := 1) rfl ?_); refine box_on ?hg (N := 1) ?hd (cs := #[.int .i64 0, .int .i64 0, .int .i64 0, .int .i64 0, .int .i64 0, .int .i64 0, .int .i64 0, .int .i64 0]) (t := 38) ?hr ?_; (case hd => rfl); (case hg => rfl); (case hr => first | (go_simp; done) | (go_simp; rfl)); intro g575 hg w576 hbox hb; have HS_ : Aside0 (Sep (fps []) w [blk g575 #[.int .i64 0, .int .i64 0, .int .i64 0, .int .i64 0, .int .i64 0, .int .i64 0, .int .i64 0, .int .i64 0] 38] w576) := ⟨HS.out.box hg hbox hb⟩; clear HS hg hbox hb; have HS := HS_; clear HS_; have hc578 : w576.cell? ⟨g575, 0, none⟩ = some (.int .i64 0) := blk_cellv (HS.out.at0) 0 rfl; have hz579 : w576.frozen? ⟨g575, 0, none⟩ = false := blk_fz (HS.out.at0) 0; have hc580 : w576.cell? ⟨g575, 1, none⟩ = some (.int .i64 0) := blk_cellv (HS.out.at0) 1 rfl; have hz581 : w576.frozen? ⟨g575, 1, none⟩ = false := blk_fz (HS.out.at0) 1; have hc582 : w576.cell? ⟨g575, 2, none⟩ = some (.int .i64 0) := blk_cellv (HS.out.at0) 2 rfl; have hz583 : w576.frozen? ⟨g575, 2, none⟩ = false := blk_fz (HS.out.at0) 2; have hc584 : w576.cell? ⟨g575, 3, none⟩ = some (.int .i64 0) := blk_cellv (HS.out.at0) 3 rfl; have hz585 : w576.frozen? ⟨g575, 3, none⟩ = false := blk_fz (HS.out.at0) 3; have hc586 : w576.cell? ⟨g575, 4, none⟩ = some (.int .i64 0) := blk_cellv (HS.out.at0) 4 rfl; have hz587 : w576.frozen? ⟨g575, 4, none⟩ = false := blk_fz (HS.out.at0) 4; have hc588 : w576.cell? ⟨g575, 5, none⟩ = some (.int .i64 0) := blk_cellv (HS.out.at0) 5 rfl; have hz589 : w576.frozen? ⟨g575, 5, none⟩ = false := blk_fz (HS.out.at0) 5; have hc590 : w576.cell? ⟨g575, 6, none⟩ = some (.int .i64 0) := blk_cellv (HS.out.at0) 6 rfl; have hz591 : w576.frozen? ⟨g575, 6, none⟩ = false := blk_fz (HS.out.at0) 6; have hc592 : w576.cell? ⟨g575, 7, none⟩ = some (.int .i64 0) := blk_cellv (HS.out.at0) 7 rfl; have hz593 : w576.frozen? ⟨g575, 7, none⟩ = false := blk_fz (HS.out.at0) 7) | ((with_reducible refine gate_store (t := 38) (p := 1) rfl ?_); refine store_event (w1 := (World.setCell (World.setCell (World.setCell (World.setCell (World.setCell (World.setCell (World.setCell (World.setCell w576 ⟨g575, 0, none⟩ (.int .i64 t572.1)) ⟨g575, 1, none⟩ (.int .i64 t572.2.1)) ⟨g575, 2, none⟩ (.int .i64 t572.2.2.1)) ⟨g575, 3, none⟩ (.int .i64 t572.2.2.2.1)) ⟨g575, 4, none⟩ (.int .i64 t572.2.2.2.2.1)) ⟨g575, 5, none⟩ (.int .i64 t572.2.2.2.2.2.1)) ⟨g575, 6, none⟩ (.int .i64 t572.2.2.2.2.2.2.1)) ⟨g575, 7, none⟩ (.int .i64 t572.2.2.2.2.2.2.2.1))) rfl (t := 38) (p := 1) rfl rfl ?hr ?_; (case hr => first | (go_simp; done) | (go_simp; rfl)); intro w594 hst; clear hc578 hz579 hc580 hz581 hc582 hz583 hc584 hz585 hc586 hz587 hc588 hz589 hc590 hz591 hc592 hz593; have hq0 : Sep (fps []) w [blk g575 #[.int .i64 t572.1, .int .i64 0, .int .i64 0, .int .i64 0, .int .i64 0, .int .i64 0, .int .i64 0, .int .i64 0] 38] (World.setCell w576 ⟨g575, 0, none⟩ (.int .i64 t572.1)) := (HS.out).set1 (l1 := []) (l2 := []) 0 (.int .i64 t572.1); have hq1 : Sep (fps []) w [blk g575 #[.int .i64 t572.1, .int .i64 t572.2.1, .int .i64 0, .int .i64 0, .int .i64 0, .int .i64 0, .int .i64 0, .int .i64 0] 38] (World.setCell (World.setCell w576 ⟨g575, 0, none⟩ (.int .i64 t572.1)) ⟨g575, 1, none⟩ (.int .i64 t572.2.1)) := (hq0).set1 (l1 := []) (l2 := []) 1 (.int .i64 t572.2.1); have hq2 : Sep (fps []) w [blk g575 #[.int .i64 t572.1, .int .i64 t572.2.1, .int .i64 t572.2.2.1, .int .i64 0, .int .i64 0, .int .i64 0, .int .i64 0, .int .i64 0] 38] (World.setCell (World.setCell (World.setCell w576 ⟨g575, 0, none⟩ (.int .i64 t572.1)) ⟨g575, 1, none⟩ (.int .i64 t572.2.1)) ⟨g575, 2, none⟩ (.int .i64 t572.2.2.1)) := (hq1).set1 (l1 := []) (l2 := []) 2 (.int .i64 t572.2.2.1); have hq3 : Sep (fps []) w [blk g575 #[.int .i64 t572.1, .int .i64 t572.2.1, .int .i64 t572.2.2.1, .int .i64 t572.2.2.2.1, .int .i64 0, .int .i64 0, .int .i64 0, .int .i64 0] 38] (World.setCell (World.setCell (World.setCell (World.setCell w576 ⟨g575, 0, none⟩ (.int .i64 t572.1)) ⟨g575, 1, none⟩ (.int .i64 t572.2.1)) ⟨g575, 2, none⟩ (.int .i64 t572.2.2.1)) ⟨g575, 3, none⟩ (.int .i64 t572.2.2.2.1)) := (hq2).set1 (l1 := []) (l2 := []) 3 (.int .i64 t572.2.2.2.1); have hq4 : Sep (fps []) w [blk g575 #[.int .i64 t572.1, .int .i64 t572.2.1, .int .i64 t572.2.2.1, .int .i64 t572.2.2.2.1, .int .i64 t572.2.2.2.2.1, .int .i64 0, .int .i64 0, .int .i64 0] 38] (World.setCell (World.setCell (World.setCell (World.setCell (World.setCell w576 ⟨g575, 0, none⟩ (.int .i64 t572.1)) ⟨g575, 1, none⟩ (.int .i64 t572.2.1)) ⟨g575, 2, none⟩ (.int .i64 t572.2.2.1)) ⟨g575, 3, none⟩ (.int .i64 t572.2.2.2.1)) ⟨g575, 4, none⟩ (.int .i64 t572.2.2.2.2.1)) := (hq3).set1 (l1 := []) (l2 := []) 4 (.int .i64 t572.2.2.2.2.1); have hq5 : Sep (fps []) w [blk g575 #[.int .i64 t572.1, .int .i64 t572.2.1, .int .i64 t572.2.2.1, .int .i64 t572.2.2.2.1, .int .i64 t572.2.2.2.2.1, .int .i64 t572.2.2.2.2.2.1, .int .i64 0, .int .i64 0] 38] (World.setCell (World.setCell (World.setCell (World.setCell (World.setCell (World.setCell w576 ⟨g575, 0, none⟩ (.int .i64 t572.1)) ⟨g575, 1, none⟩ (.int .i64 t572.2.1)) ⟨g575, 2, none⟩ (.int .i64 t572.2.2.1)) ⟨g575, 3, none⟩ (.int .i64 t572.2.2.2.1)) ⟨g575, 4, none⟩ (.int .i64 t572.2.2.2.2.1)) ⟨g575, 5, none⟩ (.int .i64 t572.2.2.2.2.2.1)) := (hq4).set1 (l1 := []) (l2 := []) 5 (.int .i64 t572.2.2.2.2.2.1); have hq6 : Sep (fps []) w [blk g575 #[.int .i64 t572.1, .int .i64 t572.2.1, .int .i64 t572.2.2.1, .int .i64 t572.2.2.2.1, .int .i64 t572.2.2.2.2.1, .int .i64 t572.2.2.2.2.2.1, .int .i64 t572.2.2.2.2.2.2.1, .int .i64 0] 38] (World.setCell (World.setCell (World.setCell (World.setCell (World.setCell (World.setCell (World.setCell w576 ⟨g575, 0, none⟩ (.int .i64 t572.1)) ⟨g575, 1, none⟩ (.int .i64 t572.2.1)) ⟨g575, 2, none⟩ (.int .i64 t572.2.2.1)) ⟨g575, 3, none⟩ (.int .i64 t572.2.2.2.1)) ⟨g575, 4, none⟩ (.int .i64 t572.2.2.2.2.1)) ⟨g575, 5, none⟩ (.int .i64 t572.2.2.2.2.2.1)) ⟨g575, 6, none⟩ (.int .i64 t572.2.2.2.2.2.2.1)) := (hq5).set1 (l1 := []) (l2 := []) 6 (.int .i64 t572.2.2.2.2.2.2.1); have hq7 : Sep (fps []) w [blk g575 #[.int .i64 t572.1, .int .i64 t572.2.1, .int .i64 t572.2.2.1, .int .i64 t572.2.2.2.1, .int .i64 t572.2.2.2.2.1, .int .i64 t572.2.2.2.2.2.1, .int .i64 t572.2.2.2.2.2.2.1, .int .i64 t572.2.2.2.2.2.2.2.1] 38] (World.setCell (World.setCell (World.setCell (World.setCell (World.setCell (World.setCell (World.setCell (World.setCell w576 ⟨g575, 0, none⟩ (.int .i64 t572.1)) ⟨g575, 1, none⟩ (.int .i64 t572.2.1)) ⟨g575, 2, none⟩ (.int .i64 t572.2.2.1)) ⟨g575, 3, none⟩ (.int .i64 t572.2.2.2.1)) ⟨g575, 4, none⟩ (.int .i64 t572.2.2.2.2.1)) ⟨g575, 5, none⟩ (.int .i64 t572.2.2.2.2.2.1)) ⟨g575, 6, none⟩ (.int .i64 t572.2.2.2.2.2.2.1)) ⟨g575, 7, none⟩ (.int .i64 t572.2.2.2.2.2.2.2.1)) := (hq6).set1 (l1 := []) (l2 := []) 7 (.int .i64 t572.2.2.2.2.2.2.2.1); have HS_ : Aside0 (Sep (fps []) w [blk g575 #[.int .i64 t572.1, .int .i64 t572.2.1, .int .i64 t572.2.2.1, .int .i64 t572.2.2.2.1, .int .i64 t572.2.2.2.2.1, .int .i64 t572.2.2.2.2.2.1, .int .i64 t572.2.2.2.2.2.2.1, .int .i64 t572.2.2.2.2.2.2.2.1] 38] w594) := ⟨by rw [hst]; exact hq7⟩; clear hq0 hq1 hq2 hq3 hq4 hq5 hq6 hq7; clear HS hst; have HS := HS_; clear HS_; have hc596 : w594.cell? ⟨g575, 0, none⟩ = some (.int .i64 t572.1) := blk_cellv (HS.out.at0) 0 rfl; have hc597 : w594.cell? ⟨g575, 1, none⟩ = some (.int .i64 t572.2.1) := blk_cellv (HS.out.at0) 1 rfl; have hc598 : w594.cell? ⟨g575, 2, none⟩ = some (.int .i64 t572.2.2.1) := blk_cellv (HS.out.at0) 2 rfl; have hc599 : w594.cell? ⟨g575, 3, none⟩ = some (.int .i64 t572.2.2.2.1) := blk_cellv (HS.out.at0) 3 rfl; have hc600 : w594.cell? ⟨g575, 4, none⟩ = some (.int .i64 t572.2.2.2.2.1) := blk_cellv (HS.out.at0) 4 rfl; have hc601 : w594.cell? ⟨g575, 5, none⟩ = some (.int .i64 t572.2.2.2.2.2.1) := blk_cellv (HS.out.at0) 5 rfl; have hc602 : w594.cell? ⟨g575, 6, none⟩ = some (.int .i64 t572.2.2.2.2.2.2.1) := blk_cellv (HS.out.at0) 6 rfl; have hc603 : w594.cell? ⟨g575, 7, none⟩ = some (.int .i64 t572.2.2.2.2.2.2.2.1) := blk_cellv (HS.out.at0) 7 rfl))
                  clear hc596 hc597 hc598 hc599 hc600 hc601 hc602 hc603
                  go_ret
                  rw [← some_eq H]
                  exact ⟨(by first | rfl | (simp [IntKind.wrap_u32]; done)), (HS.out).keep (l := []) (rest := [blk g575 #[.int .i64 t572.1, .int .i64 t572.2.1, .int .i64 t572.2.2.1, .int .i64 t572.2.2.2.1, .int .i64 t572.2.2.2.2.1, .int .i64 t572.2.2.2.2.2.1, .int .i64 t572.2.2.2.2.2.2.1, .int .i64 t572.2.2.2.2.2.2.2.1] 38])⟩
              · have H := if_no c609 H
                have c609b0 : (t572.2.2.2.2.2.1 == 1700) = false := beq_eq_false_iff_ne.mpr c609
                have c609b1 : (t572.2.2.2.2.2.1 != 1700) = true := bne_iff_ne.mpr c609
                clear c609
                go_wp2_with (first | ((with_reducible refine gate_dst (N := 1) rfl ?_); refine box_on ?hg (N := 1) ?hd (cs := #[.int .i64 0, .int .i64 0, .int .i64 0, .int .i64 0, .int .i64 0, .int .i64 0, .int .i64 0, .int .i64 0]) (t := 38) ?hr ?_; (case hd => rfl); (case hg => rfl); (case hr => first | (go_simp; done) | (go_simp; rfl)); intro g575 hg w576 hbox hb; have HS_ : Aside0 (Sep (fps []) w [blk g575 #[.int .i64 0, .int .i64 0, .int .i64 0, .int .i64 0, .int .i64 0, .int .i64 0, .int .i64 0, .int .i64 0] 38] w576) := ⟨HS.out.box hg hbox hb⟩; clear HS hg hbox hb; have HS := HS_; clear HS_; have hc578 : w576.cell? ⟨g575, 0, none⟩ = some (.int .i64 0) := blk_cellv (HS.out.at0) 0 rfl; have hz579 : w576.frozen? ⟨g575, 0, none⟩ = false := blk_fz (HS.out.at0) 0; have hc580 : w576.cell? ⟨g575, 1, none⟩ = some (.int .i64 0) := blk_cellv (HS.out.at0) 1 rfl; have hz581 : w576.frozen? ⟨g575, 1, none⟩ = false := blk_fz (HS.out.at0) 1; have hc582 : w576.cell? ⟨g575, 2, none⟩ = some (.int .i64 0) := blk_cellv (HS.out.at0) 2 rfl; have hz583 : w576.frozen? ⟨g575, 2, none⟩ = false := blk_fz (HS.out.at0) 2; have hc584 : w576.cell? ⟨g575, 3, none⟩ = some (.int .i64 0) := blk_cellv (HS.out.at0) 3 rfl; have hz585 : w576.frozen? ⟨g575, 3, none⟩ = false := blk_fz (HS.out.at0) 3; have hc586 : w576.cell? ⟨g575, 4, none⟩ = some (.int .i64 0) := blk_cellv (HS.out.at0) 4 rfl; have hz587 : w576.frozen? ⟨g575, 4, none⟩ = false := blk_fz (HS.out.at0) 4; have hc588 : w576.cell? ⟨g575, 5, none⟩ = some (.int .i64 0) := blk_cellv (HS.out.at0) 5 rfl; have hz589 : w576.frozen? ⟨g575, 5, none⟩ = false := blk_fz (HS.out.at0) 5; have hc590 : w576.cell? ⟨g575, 6, none⟩ = some (.int .i64 0) := blk_cellv (HS.out.at0) 6 rfl; have hz591 : w576.frozen? ⟨g575, 6, none⟩ = false := blk_fz (HS.out.at0) 6; have hc592 : w576.cell? ⟨g575, 7, none⟩ = some (.int .i64 0) := blk_cellv (HS.out.at0) 7 rfl; have hz593 : w576.frozen? ⟨g575, 7, none⟩ = false := blk_fz (HS.out.at0) 7) | ((with_reducible refine gate_store (t := 38) (p := 1) rfl ?_); refine store_event (w1 := (World.setCell (World.setCell (World.setCell (World.setCell (World.setCell (World.setCell (World.setCell (World.setCell w576 ⟨g575, 0, none⟩ (.int .i64 t572.1)) ⟨g575, 1, none⟩ (.int .i64 t572.2.1)) ⟨g575, 2, none⟩ (.int .i64 t572.2.2.1)) ⟨g575, 3, none⟩ (.int .i64 t572.2.2.2.1)) ⟨g575, 4, none⟩ (.int .i64 t572.2.2.2.2.1)) ⟨g575, 5, none⟩ (.int .i64 t572.2.2.2.2.2.1)) ⟨g575, 6, none⟩ (.int .i64 t572.2.2.2.2.2.2.1)) ⟨g575, 7, none⟩ (.int .i64 t572.2.2.2.2.2.2.2.1))) rfl (t := 38) (p := 1) rfl rfl ?hr ?_; (case hr => first | (go_simp; done) | (go_simp; rfl)); intro w594 hst; clear hc578 hz579 hc580 hz581 hc582 hz583 hc584 hz585 hc586 hz587 hc588 hz589 hc590 hz591 hc592 hz593; have hq0 : Sep (fps []) w [blk g575 #[.int .i64 t572.1, .int .i64 0, .int .i64 0, .int .i64 0, .int .i64 0, .int .i64 0, .int .i64 0, .int .i64 0] 38] (World.setCell w576 ⟨g575, 0, none⟩ (.int .i64 t572.1)) := (HS.out).set1 (l1 := []) (l2 := []) 0 (.int .i64 t572.1); have hq1 : Sep (fps []) w [blk g575 #[.int .i64 t572.1, .int .i64 t572.2.1, .int .i64 0, .int .i64 0, .int .i64 0, .int .i64 0, .int .i64 0, .int .i64 0] 38] (World.setCell (World.setCell w576 ⟨g575, 0, none⟩ (.int .i64 t572.1)) ⟨g575, 1, none⟩ (.int .i64 t572.2.1)) := (hq0).set1 (l1 := []) (l2 := []) 1 (.int .i64 t572.2.1); have hq2 : Sep (fps []) w [blk g575 #[.int .i64 t572.1, .int .i64 t572.2.1, .int .i64 t572.2.2.1, .int .i64 0, .int .i64 0, .int .i64 0, .int .i64 0, .int .i64 0] 38] (World.setCell (World.setCell (World.setCell w576 ⟨g575, 0, none⟩ (.int .i64 t572.1)) ⟨g575, 1, none⟩ (.int .i64 t572.2.1)) ⟨g575, 2, none⟩ (.int .i64 t572.2.2.1)) := (hq1).set1 (l1 := []) (l2 := []) 2 (.int .i64 t572.2.2.1); have hq3 : Sep (fps []) w [blk g575 #[.int .i64 t572.1, .int .i64 t572.2.1, .int .i64 t572.2.2.1, .int .i64 t572.2.2.2.1, .int .i64 0, .int .i64 0, .int .i64 0, .int .i64 0] 38] (World.setCell (World.setCell (World.setCell (World.setCell w576 ⟨g575, 0, none⟩ (.int .i64 t572.1)) ⟨g575, 1, none⟩ (.int .i64 t572.2.1)) ⟨g575, 2, none⟩ (.int .i64 t572.2.2.1)) ⟨g575, 3, none⟩ (.int .i64 t572.2.2.2.1)) := (hq2).set1 (l1 := []) (l2 := []) 3 (.int .i64 t572.2.2.2.1); have hq4 : Sep (fps []) w [blk g575 #[.int .i64 t572.1, .int .i64 t572.2.1, .int .i64 t572.2.2.1, .int .i64 t572.2.2.2.1, .int .i64 t572.2.2.2.2.1, .int .i64 0, .int .i64 0, .int .i64 0] 38] (World.setCell (World.setCell (World.setCell (World.setCell (World.setCell w576 ⟨g575, 0, none⟩ (.int .i64 t572.1)) ⟨g575, 1, none⟩ (.int .i64 t572.2.1)) ⟨g575, 2, none⟩ (.int .i64 t572.2.2.1)) ⟨g575, 3, none⟩ (.int .i64 t572.2.2.2.1)) ⟨g575, 4, none⟩ (.int .i64 t572.2.2.2.2.1)) := (hq3).set1 (l1 := []) (l2 := []) 4 (.int .i64 t572.2.2.2.2.1); have hq5 : Sep (fps []) w [blk g575 #[.int .i64 t572.1, .int .i64 t572.2.1, .int .i64 t572.2.2.1, .int .i64 t572.2.2.2.1, .int .i64 t572.2.2.2.2.1, .int .i64 t572.2.2.2.2.2.1, .int .i64 0, .int .i64 0] 38] (World.setCell (World.setCell (World.setCell (World.setCell (World.setCell (World.setCell w576 ⟨g575, 0, none⟩ (.int .i64 t572.1)) ⟨g575, 1, none⟩ (.int .i64 t572.2.1)) ⟨g575, 2, none⟩ (.int .i64 t572.2.2.1)) ⟨g575, 3, none⟩ (.int .i64 t572.2.2.2.1)) ⟨g575, 4, none⟩ (.int .i64 t572.2.2.2.2.1)) ⟨g575, 5, none⟩ (.int .i64 t572.2.2.2.2.2.1)) := (hq4).set1 (l1 := []) (l2 := []) 5 (.int .i64 t572.2.2.2.2.2.1); have hq6 : Sep (fps []) w [blk g575 #[.int .i64 t572.1, .int .i64 t572.2.1, .int .i64 t572.2.2.1, .int .i64 t572.2.2.2.1, .int .i64 t572.2.2.2.2.1, .int .i64 t572.2.2.2.2.2.1, .int .i64 t572.2.2.2.2.2.2.1, .int .i64 0] 38] (World.setCell (World.setCell (World.setCell (World.setCell (World.setCell (World.setCell (World.setCell w576 ⟨g575, 0, none⟩ (.int .i64 t572.1)) ⟨g575, 1, none⟩ (.int .i64 t572.2.1)) ⟨g575, 2, none⟩ (.int .i64 t572.2.2.1)) ⟨g575, 3, none⟩ (.int .i64 t572.2.2.2.1)) ⟨g575, 4, none⟩ (.int .i64 t572.2.2.2.2.1)) ⟨g575, 5, none⟩ (.int .i64 t572.2.2.2.2.2.1)) ⟨g575, 6, none⟩ (.int .i64 t572.2.2.2.2.2.2.1)) := (hq5).set1 (l1 := []) (l2 := []) 6 (.int .i64 t572.2.2.2.2.2.2.1); have hq7 : Sep (fps []) w [blk g575 #[.int .i64 t572.1, .int .i64 t572.2.1, .int .i64 t572.2.2.1, .int .i64 t572.2.2.2.1, .int .i64 t572.2.2.2.2.1, .int .i64 t572.2.2.2.2.2.1, .int .i64 t572.2.2.2.2.2.2.1, .int .i64 t572.2.2.2.2.2.2.2.1] 38] (World.setCell (World.setCell (World.setCell (World.setCell (World.setCell (World.setCell (World.setCell (World.setCell w576 ⟨g575, 0, none⟩ (.int .i64 t572.1)) ⟨g575, 1, none⟩ (.int .i64 t572.2.1)) ⟨g575, 2, none⟩ (.int .i64 t572.2.2.1)) ⟨g575, 3, none⟩ (.int .i64 t572.2.2.2.1)) ⟨g575, 4, none⟩ (.int .i64 t572.2.2.2.2.1)) ⟨g575, 5, none⟩ (.int .i64 t572.2.2.2.2.2.1)) ⟨g575, 6, none⟩ (.int .i64 t572.2.2.2.2.2.2.1)) ⟨g575, 7, none⟩ (.int .i64 t572.2.2.2.2.2.2.2.1)) := (hq6).set1 (l1 := []) (l2 := []) 7 (.int .i64 t572.2.2.2.2.2.2.2.1); have HS_ : Aside0 (Sep (fps []) w [blk g575 #[.int .i64 t572.1, .int .i64 t572.2.1, .int .i64 t572.2.2.1, .int .i64 t572.2.2.2.1, .int .i64 t572.2.2.2.2.1, .int .i64 t572.2.2.2.2.2.1, .int .i64 t572.2.2.2.2.2.2.1, .int .i64 t572.2.2.2.2.2.2.2.1] 38] w594) := ⟨by rw [hst]; exact hq7⟩; clear hq0 hq1 hq2 hq3 hq4 hq5 hq6 hq7; clear HS hst; have HS := HS_; clear HS_; have hc596 : w594.cell? ⟨g575, 0, none⟩ = some (.int .i64 t572.1) := blk_cellv (HS.out.at0) 0 rfl; have hc597 : w594.cell? ⟨g575, 1, none⟩ = some (.int .i64 t572.2.1) := blk_cellv (HS.out.at0) 1 rfl; have hc598 : w594.cell? ⟨g575, 2, none⟩ = some (.int .i64 t572.2.2.1) := blk_cellv (HS.out.at0) 2 rfl; have hc599 : w594.cell? ⟨g575, 3, none⟩ = some (.int .i64 t572.2.2.2.1) := blk_cellv (HS.out.at0) 3 rfl; have hc600 : w594.cell? ⟨g575, 4, none⟩ = some (.int .i64 t572.2.2.2.2.1) := blk_cellv (HS.out.at0) 4 rfl; have hc601 : w594.cell? ⟨g575, 5, none⟩ = some (.int .i64 t572.2.2.2.2.2.1) := blk_cellv (HS.out.at0) 5 rfl; have hc602 : w594.cell? ⟨g575, 6, none⟩ = some (.int .i64 t572.2.2.2.2.2.2.1) := blk_cellv (HS.out.at0) 6 rfl; have hc603 : w594.cell? ⟨g575, 7, none⟩ = some (.int .i64 t572.2.2.2.2.2.2.2.1) := blk_cellv (HS.out.at0) 7 rfl))
                clear hc596 hc597 hc598 hc599 hc600 hc601 hc602 hc603
                go_ret
                rw [← some_eq H]
                exact ⟨(by first | rfl | (simp [IntKind.wrap_u32]; done)), (HS.out).keep (l := []) (rest := [blk g575 #[.int .i64 t572.1, .int .i64 t572.2.1, .int .i64 t572.2.2.1, .int .i64 t572.2.2.2.1, .int .i64 t572.2.2.2.2.1, .int .i64 t572.2.2.2.2.2.1, .int .i64 t572.2.2.2.2.2.2.1, .int .i64 t572.2.2.2.2.2.2.2.1] 38])⟩
            · have H := if_no c608 H
              have c608b0 : (t572.2.2.2.2.1 == 5104) = false := beq_eq_false_iff_ne.mpr c608
              have c608b1 : (t572.2.2.2.2.1 != 5104) = true := bne_iff_ne.mpr c608
              clear c608
              go_wp2_with (first | ((with_reducible refine gate_dst (N := 1) rfl ?_); refine box_on ?hg (N := 1) ?hd (cs := #[.int .i64 0, .int .i64 0, .int .i64 0, .int .i64 0, .int .i64 0, .int .i64 0, .int .i64 0, .int .i64 0]) (t := 38) ?hr ?_; (case hd => rfl); (case hg => rfl); (case hr => first | (go_simp; done) | (go_simp; rfl)); intro g575 hg w576 hbox hb; have HS_ : Aside0 (Sep (fps []) w [blk g575 #[.int .i64 0, .int .i64 0, .int .i64 0, .int .i64 0, .int .i64 0, .int .i64 0, .int .i64 0, .int .i64 0] 38] w576) := ⟨HS.out.box hg hbox hb⟩; clear HS hg hbox hb; have HS := HS_; clear HS_; have hc578 : w576.cell? ⟨g575, 0, none⟩ = some (.int .i64 0) := blk_cellv (HS.out.at0) 0 rfl; have hz579 : w576.frozen? ⟨g575, 0, none⟩ = false := blk_fz (HS.out.at0) 0; have hc580 : w576.cell? ⟨g575, 1, none⟩ = some (.int .i64 0) := blk_cellv (HS.out.at0) 1 rfl; have hz581 : w576.frozen? ⟨g575, 1, none⟩ = false := blk_fz (HS.out.at0) 1; have hc582 : w576.cell? ⟨g575, 2, none⟩ = some (.int .i64 0) := blk_cellv (HS.out.at0) 2 rfl; have hz583 : w576.frozen? ⟨g575, 2, none⟩ = false := blk_fz (HS.out.at0) 2; have hc584 : w576.cell? ⟨g575, 3, none⟩ = some (.int .i64 0) := blk_cellv (HS.out.at0) 3 rfl; have hz585 : w576.frozen? ⟨g575, 3, none⟩ = false := blk_fz (HS.out.at0) 3; have hc586 : w576.cell? ⟨g575, 4, none⟩ = some (.int .i64 0) := blk_cellv (HS.out.at0) 4 rfl; have hz587 : w576.frozen? ⟨g575, 4, none⟩ = false := blk_fz (HS.out.at0) 4; have hc588 : w576.cell? ⟨g575, 5, none⟩ = some (.int .i64 0) := blk_cellv (HS.out.at0) 5 rfl; have hz589 : w576.frozen? ⟨g575, 5, none⟩ = false := blk_fz (HS.out.at0) 5; have hc590 : w576.cell? ⟨g575, 6, none⟩ = some (.int .i64 0) := blk_cellv (HS.out.at0) 6 rfl; have hz591 : w576.frozen? ⟨g575, 6, none⟩ = false := blk_fz (HS.out.at0) 6; have hc592 : w576.cell? ⟨g575, 7, none⟩ = some (.int .i64 0) := blk_cellv (HS.out.at0) 7 rfl; have hz593 : w576.frozen? ⟨g575, 7, none⟩ = false := blk_fz (HS.out.at0) 7) | ((with_reducible refine gate_store (t := 38) (p := 1) rfl ?_); refine store_event (w1 := (World.setCell (World.setCell (World.setCell (World.setCell (World.setCell (World.setCell (World.setCell (World.setCell w576 ⟨g575, 0, none⟩ (.int .i64 t572.1)) ⟨g575, 1, none⟩ (.int .i64 t572.2.1)) ⟨g575, 2, none⟩ (.int .i64 t572.2.2.1)) ⟨g575, 3, none⟩ (.int .i64 t572.2.2.2.1)) ⟨g575, 4, none⟩ (.int .i64 t572.2.2.2.2.1)) ⟨g575, 5, none⟩ (.int .i64 t572.2.2.2.2.2.1)) ⟨g575, 6, none⟩ (.int .i64 t572.2.2.2.2.2.2.1)) ⟨g575, 7, none⟩ (.int .i64 t572.2.2.2.2.2.2.2.1))) rfl (t := 38) (p := 1) rfl rfl ?hr ?_; (case hr => first | (go_simp; done) | (go_simp; rfl)); intro w594 hst; clear hc578 hz579 hc580 hz581 hc582 hz583 hc584 hz585 hc586 hz587 hc588 hz589 hc590 hz591 hc592 hz593; have hq0 : Sep (fps []) w [blk g575 #[.int .i64 t572.1, .int .i64 0, .int .i64 0, .int .i64 0, .int .i64 0, .int .i64 0, .int .i64 0, .int .i64 0] 38] (World.setCell w576 ⟨g575, 0, none⟩ (.int .i64 t572.1)) := (HS.out).set1 (l1 := []) (l2 := []) 0 (.int .i64 t572.1); have hq1 : Sep (fps []) w [blk g575 #[.int .i64 t572.1, .int .i64 t572.2.1, .int .i64 0, .int .i64 0, .int .i64 0, .int .i64 0, .int .i64 0, .int .i64 0] 38] (World.setCell (World.setCell w576 ⟨g575, 0, none⟩ (.int .i64 t572.1)) ⟨g575, 1, none⟩ (.int .i64 t572.2.1)) := (hq0).set1 (l1 := []) (l2 := []) 1 (.int .i64 t572.2.1); have hq2 : Sep (fps []) w [blk g575 #[.int .i64 t572.1, .int .i64 t572.2.1, .int .i64 t572.2.2.1, .int .i64 0, .int .i64 0, .int .i64 0, .int .i64 0, .int .i64 0] 38] (World.setCell (World.setCell (World.setCell w576 ⟨g575, 0, none⟩ (.int .i64 t572.1)) ⟨g575, 1, none⟩ (.int .i64 t572.2.1)) ⟨g575, 2, none⟩ (.int .i64 t572.2.2.1)) := (hq1).set1 (l1 := []) (l2 := []) 2 (.int .i64 t572.2.2.1); have hq3 : Sep (fps []) w [blk g575 #[.int .i64 t572.1, .int .i64 t572.2.1, .int .i64 t572.2.2.1, .int .i64 t572.2.2.2.1, .int .i64 0, .int .i64 0, .int .i64 0, .int .i64 0] 38] (World.setCell (World.setCell (World.setCell (World.setCell w576 ⟨g575, 0, none⟩ (.int .i64 t572.1)) ⟨g575, 1, none⟩ (.int .i64 t572.2.1)) ⟨g575, 2, none⟩ (.int .i64 t572.2.2.1)) ⟨g575, 3, none⟩ (.int .i64 t572.2.2.2.1)) := (hq2).set1 (l1 := []) (l2 := []) 3 (.int .i64 t572.2.2.2.1); have hq4 : Sep (fps []) w [blk g575 #[.int .i64 t572.1, .int .i64 t572.2.1, .int .i64 t572.2.2.1, .int .i64 t572.2.2.2.1, .int .i64 t572.2.2.2.2.1, .int .i64 0, .int .i64 0, .int .i64 0] 38] (World.setCell (World.setCell (World.setCell (World.setCell (World.setCell w576 ⟨g575, 0, none⟩ (.int .i64 t572.1)) ⟨g575, 1, none⟩ (.int .i64 t572.2.1)) ⟨g575, 2, none⟩ (.int .i64 t572.2.2.1)) ⟨g575, 3, none⟩ (.int .i64 t572.2.2.2.1)) ⟨g575, 4, none⟩ (.int .i64 t572.2.2.2.2.1)) := (hq3).set1 (l1 := []) (l2 := []) 4 (.int .i64 t572.2.2.2.2.1); have hq5 : Sep (fps []) w [blk g575 #[.int .i64 t572.1, .int .i64 t572.2.1, .int .i64 t572.2.2.1, .int .i64 t572.2.2.2.1, .int .i64 t572.2.2.2.2.1, .int .i64 t572.2.2.2.2.2.1, .int .i64 0, .int .i64 0] 38] (World.setCell (World.setCell (World.setCell (World.setCell (World.setCell (World.setCell w576 ⟨g575, 0, none⟩ (.int .i64 t572.1)) ⟨g575, 1, none⟩ (.int .i64 t572.2.1)) ⟨g575, 2, none⟩ (.int .i64 t572.2.2.1)) ⟨g575, 3, none⟩ (.int .i64 t572.2.2.2.1)) ⟨g575, 4, none⟩ (.int .i64 t572.2.2.2.2.1)) ⟨g575, 5, none⟩ (.int .i64 t572.2.2.2.2.2.1)) := (hq4).set1 (l1 := []) (l2 := []) 5 (.int .i64 t572.2.2.2.2.2.1); have hq6 : Sep (fps []) w [blk g575 #[.int .i64 t572.1, .int .i64 t572.2.1, .int .i64 t572.2.2.1, .int .i64 t572.2.2.2.1, .int .i64 t572.2.2.2.2.1, .int .i64 t572.2.2.2.2.2.1, .int .i64 t572.2.2.2.2.2.2.1, .int .i64 0] 38] (World.setCell (World.setCell (World.setCell (World.setCell (World.setCell (World.setCell (World.setCell w576 ⟨g575, 0, none⟩ (.int .i64 t572.1)) ⟨g575, 1, none⟩ (.int .i64 t572.2.1)) ⟨g575, 2, none⟩ (.int .i64 t572.2.2.1)) ⟨g575, 3, none⟩ (.int .i64 t572.2.2.2.1)) ⟨g575, 4, none⟩ (.int .i64 t572.2.2.2.2.1)) ⟨g575, 5, none⟩ (.int .i64 t572.2.2.2.2.2.1)) ⟨g575, 6, none⟩ (.int .i64 t572.2.2.2.2.2.2.1)) := (hq5).set1 (l1 := []) (l2 := []) 6 (.int .i64 t572.2.2.2.2.2.2.1); have hq7 : Sep (fps []) w [blk g575 #[.int .i64 t572.1, .int .i64 t572.2.1, .int .i64 t572.2.2.1, .int .i64 t572.2.2.2.1, .int .i64 t572.2.2.2.2.1, .int .i64 t572.2.2.2.2.2.1, .int .i64 t572.2.2.2.2.2.2.1, .int .i64 t572.2.2.2.2.2.2.2.1] 38] (World.setCell (World.setCell (World.setCell (World.setCell (World.setCell (World.setCell (World.setCell (World.setCell w576 ⟨g575, 0, none⟩ (.int .i64 t572.1)) ⟨g575, 1, none⟩ (.int .i64 t572.2.1)) ⟨g575, 2, none⟩ (.int .i64 t572.2.2.1)) ⟨g575, 3, none⟩ (.int .i64 t572.2.2.2.1)) ⟨g575, 4, none⟩ (.int .i64 t572.2.2.2.2.1)) ⟨g575, 5, none⟩ (.int .i64 t572.2.2.2.2.2.1)) ⟨g575, 6, none⟩ (.int .i64 t572.2.2.2.2.2.2.1)) ⟨g575, 7, none⟩ (.int .i64 t572.2.2.2.2.2.2.2.1)) := (hq6).set1 (l1 := []) (l2 := []) 7 (.int .i64 t572.2.2.2.2.2.2.2.1); have HS_ : Aside0 (Sep (fps []) w [blk g575 #[.int .i64 t572.1, .int .i64 t572.2.1, .int .i64 t572.2.2.1, .int .i64 t572.2.2.2.1, .int .i64 t572.2.2.2.2.1, .int .i64 t572.2.2.2.2.2.1, .int .i64 t572.2.2.2.2.2.2.1, .int .i64 t572.2.2.2.2.2.2.2.1] 38] w594) := ⟨by rw [hst]; exact hq7⟩; clear hq0 hq1 hq2 hq3 hq4 hq5 hq6 hq7; clear HS hst; have HS := HS_; clear HS_; have hc596 : w594.cell? ⟨g575, 0, none⟩ = some (.int .i64 t572.1) := blk_cellv (HS.out.at0) 0 rfl; have hc597 : w594.cell? ⟨g575, 1, none⟩ = some (.int .i64 t572.2.1) := blk_cellv (HS.out.at0) 1 rfl; have hc598 : w594.cell? ⟨g575, 2, none⟩ = some (.int .i64 t572.2.2.1) := blk_cellv (HS.out.at0) 2 rfl; have hc599 : w594.cell? ⟨g575, 3, none⟩ = some (.int .i64 t572.2.2.2.1) := blk_cellv (HS.out.at0) 3 rfl; have hc600 : w594.cell? ⟨g575, 4, none⟩ = some (.int .i64 t572.2.2.2.2.1) := blk_cellv (HS.out.at0) 4 rfl; have hc601 : w594.cell? ⟨g575, 5, none⟩ = some (.int .i64 t572.2.2.2.2.2.1) := blk_cellv (HS.out.at0) 5 rfl; have hc602 : w594.cell? ⟨g575, 6, none⟩ = some (.int .i64 t572.2.2.2.2.2.2.1) := blk_cellv (HS.out.at0) 6 rfl; have hc603 : w594.cell? ⟨g575, 7, none⟩ = some (.int .i64 t572.2.2.2.2.2.2.2.1) := blk_cellv (HS.out.at0) 7 rfl))
              clear hc596 hc597 hc598 hc599 hc600 hc601 hc602 hc603
              go_ret
              rw [← some_eq H]
              exact ⟨(by first | rfl | (simp [IntKind.wrap_u32]; done)), (HS.out).keep (l := []) (rest := [blk g575 #[.int .i64 t572.1, .int .i64 t572.2.1, .int .i64 t572.2.2.1, .int .i64 t572.2.2.2.1, .int .i64 t572.2.2.2.2.1, .int .i64 t572.2.2.2.2.2.1, .int .i64 t572.2.2.2.2.2.2.1, .int .i64 t572.2.2.2.2.2.2.2.1] 38])⟩
          · have H := if_no c607 H
            have c607b0 : (t572.2.2.2.1 == 120) = false := beq_eq_false_iff_ne.mpr c607
            have c607b1 : (t572.2.2.2.1 != 120) = true := bne_iff_ne.mpr c607
            clear c607
            go_wp2_with (first | ((with_reducible refine gate_dst (N := 1) rfl ?_); refine box_on ?hg (N := 1) ?hd (cs := #[.int .i64 0, .int .i64 0, .int .i64 0, .int .i64 0, .int .i64 0, .int .i64 0, .int .i64 0, .int .i64 0]) (t := 38) ?hr ?_; (case hd => rfl); (case hg => rfl); (case hr => first | (go_simp; done) | (go_simp; rfl)); intro g575 hg w576 hbox hb; have HS_ : Aside0 (Sep (fps []) w [blk g575 #[.int .i64 0, .int .i64 0, .int .i64 0, .int .i64 0, .int .i64 0, .int .i64 0, .int .i64 0, .int .i64 0] 38] w576) := ⟨HS.out.box hg hbox hb⟩; clear HS hg hbox hb; have HS := HS_; clear HS_; have hc578 : w576.cell? ⟨g575, 0, none⟩ = some (.int .i64 0) := blk_cellv (HS.out.at0) 0 rfl; have hz579 : w576.frozen? ⟨g575, 0, none⟩ = false := blk_fz (HS.out.at0) 0; have hc580 : w576.cell? ⟨g575, 1, none⟩ = some (.int .i64 0) := blk_cellv (HS.out.at0) 1 rfl; have hz581 : w576.frozen? ⟨g575, 1, none⟩ = false := blk_fz (HS.out.at0) 1; have hc582 : w576.cell? ⟨g575, 2, none⟩ = some (.int .i64 0) := blk_cellv (HS.out.at0) 2 rfl; have hz583 : w576.frozen? ⟨g575, 2, none⟩ = false := blk_fz (HS.out.at0) 2; have hc584 : w576.cell? ⟨g575, 3, none⟩ = some (.int .i64 0) := blk_cellv (HS.out.at0) 3 rfl; have hz585 : w576.frozen? ⟨g575, 3, none⟩ = false := blk_fz (HS.out.at0) 3; have hc586 : w576.cell? ⟨g575, 4, none⟩ = some (.int .i64 0) := blk_cellv (HS.out.at0) 4 rfl; have hz587 : w576.frozen? ⟨g575, 4, none⟩ = false := blk_fz (HS.out.at0) 4; have hc588 : w576.cell? ⟨g575, 5, none⟩ = some (.int .i64 0) := blk_cellv (HS.out.at0) 5 rfl; have hz589 : w576.frozen? ⟨g575, 5, none⟩ = false := blk_fz (HS.out.at0) 5; have hc590 : w576.cell? ⟨g575, 6, none⟩ = some (.int .i64 0) := blk_cellv (HS.out.at0) 6 rfl; have hz591 : w576.frozen? ⟨g575, 6, none⟩ = false := blk_fz (HS.out.at0) 6; have hc592 : w576.cell? ⟨g575, 7, none⟩ = some (.int .i64 0) := blk_cellv (HS.out.at0) 7 rfl; have hz593 : w576.frozen? ⟨g575, 7, none⟩ = false := blk_fz (HS.out.at0) 7) | ((with_reducible refine gate_store (t := 38) (p := 1) rfl ?_); refine store_event (w1 := (World.setCell (World.setCell (World.setCell (World.setCell (World.setCell (World.setCell (World.setCell (World.setCell w576 ⟨g575, 0, none⟩ (.int .i64 t572.1)) ⟨g575, 1, none⟩ (.int .i64 t572.2.1)) ⟨g575, 2, none⟩ (.int .i64 t572.2.2.1)) ⟨g575, 3, none⟩ (.int .i64 t572.2.2.2.1)) ⟨g575, 4, none⟩ (.int .i64 t572.2.2.2.2.1)) ⟨g575, 5, none⟩ (.int .i64 t572.2.2.2.2.2.1)) ⟨g575, 6, none⟩ (.int .i64 t572.2.2.2.2.2.2.1)) ⟨g575, 7, none⟩ (.int .i64 t572.2.2.2.2.2.2.2.1))) rfl (t := 38) (p := 1) rfl rfl ?hr ?_; (case hr => first | (go_simp; done) | (go_simp; rfl)); intro w594 hst; clear hc578 hz579 hc580 hz581 hc582 hz583 hc584 hz585 hc586 hz587 hc588 hz589 hc590 hz591 hc592 hz593; have hq0 : Sep (fps []) w [blk g575 #[.int .i64 t572.1, .int .i64 0, .int .i64 0, .int .i64 0, .int .i64 0, .int .i64 0, .int .i64 0, .int .i64 0] 38] (World.setCell w576 ⟨g575, 0, none⟩ (.int .i64 t572.1)) := (HS.out).set1 (l1 := []) (l2 := []) 0 (.int .i64 t572.1); have hq1 : Sep (fps []) w [blk g575 #[.int .i64 t572.1, .int .i64 t572.2.1, .int .i64 0, .int .i64 0, .int .i64 0, .int .i64 0, .int .i64 0, .int .i64 0] 38] (World.setCell (World.setCell w576 ⟨g575, 0, none⟩ (.int .i64 t572.1)) ⟨g575, 1, none⟩ (.int .i64 t572.2.1)) := (hq0).set1 (l1 := []) (l2 := []) 1 (.int .i64 t572.2.1); have hq2 : Sep (fps []) w [blk g575 #[.int .i64 t572.1, .int .i64 t572.2.1, .int .i64 t572.2.2.1, .int .i64 0, .int .i64 0, .int .i64 0, .int .i64 0, .int .i64 0] 38] (World.setCell (World.setCell (World.setCell w576 ⟨g575, 0, none⟩ (.int .i64 t572.1)) ⟨g575, 1, none⟩ (.int .i64 t572.2.1)) ⟨g575, 2, none⟩ (.int .i64 t572.2.2.1)) := (hq1).set1 (l1 := []) (l2 := []) 2 (.int .i64 t572.2.2.1); have hq3 : Sep (fps []) w [blk g575 #[.int .i64 t572.1, .int .i64 t572.2.1, .int .i64 t572.2.2.1, .int .i64 t572.2.2.2.1, .int .i64 0, .int .i64 0, .int .i64 0, .int .i64 0] 38] (World.setCell (World.setCell (World.setCell (World.setCell w576 ⟨g575, 0, none⟩ (.int .i64 t572.1)) ⟨g575, 1, none⟩ (.int .i64 t572.2.1)) ⟨g575, 2, none⟩ (.int .i64 t572.2.2.1)) ⟨g575, 3, none⟩ (.int .i64 t572.2.2.2.1)) := (hq2).set1 (l1 := []) (l2 := []) 3 (.int .i64 t572.2.2.2.1); have hq4 : Sep (fps []) w [blk g575 #[.int .i64 t572.1, .int .i64 t572.2.1, .int .i64 t572.2.2.1, .int .i64 t572.2.2.2.1, .int .i64 t572.2.2.2.2.1, .int .i64 0, .int .i64 0, .int .i64 0] 38] (World.setCell (World.setCell (World.setCell (World.setCell (World.setCell w576 ⟨g575, 0, none⟩ (.int .i64 t572.1)) ⟨g575, 1, none⟩ (.int .i64 t572.2.1)) ⟨g575, 2, none⟩ (.int .i64 t572.2.2.1)) ⟨g575, 3, none⟩ (.int .i64 t572.2.2.2.1)) ⟨g575, 4, none⟩ (.int .i64 t572.2.2.2.2.1)) := (hq3).set1 (l1 := []) (l2 := []) 4 (.int .i64 t572.2.2.2.2.1); have hq5 : Sep (fps []) w [blk g575 #[.int .i64 t572.1, .int .i64 t572.2.1, .int .i64 t572.2.2.1, .int .i64 t572.2.2.2.1, .int .i64 t572.2.2.2.2.1, .int .i64 t572.2.2.2.2.2.1, .int .i64 0, .int .i64 0] 38] (World.setCell (World.setCell (World.setCell (World.setCell (World.setCell (World.setCell w576 ⟨g575, 0, none⟩ (.int .i64 t572.1)) ⟨g575, 1, none⟩ (.int .i64 t572.2.1)) ⟨g575, 2, none⟩ (.int .i64 t572.2.2.1)) ⟨g575, 3, none⟩ (.int .i64 t572.2.2.2.1)) ⟨g575, 4, none⟩ (.int .i64 t572.2.2.2.2.1)) ⟨g575, 5, none⟩ (.int .i64 t572.2.2.2.2.2.1)) := (hq4).set1 (l1 := []) (l2 := []) 5 (.int .i64 t572.2.2.2.2.2.1); have hq6 : Sep (fps []) w [blk g575 #[.int .i64 t572.1, .int .i64 t572.2.1, .int .i64 t572.2.2.1, .int .i64 t572.2.2.2.1, .int .i64 t572.2.2.2.2.1, .int .i64 t572.2.2.2.2.2.1, .int .i64 t572.2.2.2.2.2.2.1, .int .i64 0] 38] (World.setCell (World.setCell (World.setCell (World.setCell (World.setCell (World.setCell (World.setCell w576 ⟨g575, 0, none⟩ (.int .i64 t572.1)) ⟨g575, 1, none⟩ (.int .i64 t572.2.1)) ⟨g575, 2, none⟩ (.int .i64 t572.2.2.1)) ⟨g575, 3, none⟩ (.int .i64 t572.2.2.2.1)) ⟨g575, 4, none⟩ (.int .i64 t572.2.2.2.2.1)) ⟨g575, 5, none⟩ (.int .i64 t572.2.2.2.2.2.1)) ⟨g575, 6, none⟩ (.int .i64 t572.2.2.2.2.2.2.1)) := (hq5).set1 (l1 := []) (l2 := []) 6 (.int .i64 t572.2.2.2.2.2.2.1); have hq7 : Sep (fps []) w [blk g575 #[.int .i64 t572.1, .int .i64 t572.2.1, .int .i64 t572.2.2.1, .int .i64 t572.2.2.2.1, .int .i64 t572.2.2.2.2.1, .int .i64 t572.2.2.2.2.2.1, .int .i64 t572.2.2.2.2.2.2.1, .int .i64 t572.2.2.2.2.2.2.2.1] 38] (World.setCell (World.setCell (World.setCell (World.setCell (World.setCell (World.setCell (World.setCell (World.setCell w576 ⟨g575, 0, none⟩ (.int .i64 t572.1)) ⟨g575, 1, none⟩ (.int .i64 t572.2.1)) ⟨g575, 2, none⟩ (.int .i64 t572.2.2.1)) ⟨g575, 3, none⟩ (.int .i64 t572.2.2.2.1)) ⟨g575, 4, none⟩ (.int .i64 t572.2.2.2.2.1)) ⟨g575, 5, none⟩ (.int .i64 t572.2.2.2.2.2.1)) ⟨g575, 6, none⟩ (.int .i64 t572.2.2.2.2.2.2.1)) ⟨g575, 7, none⟩ (.int .i64 t572.2.2.2.2.2.2.2.1)) := (hq6).set1 (l1 := []) (l2 := []) 7 (.int .i64 t572.2.2.2.2.2.2.2.1); have HS_ : Aside0 (Sep (fps []) w [blk g575 #[.int .i64 t572.1, .int .i64 t572.2.1, .int .i64 t572.2.2.1, .int .i64 t572.2.2.2.1, .int .i64 t572.2.2.2.2.1, .int .i64 t572.2.2.2.2.2.1, .int .i64 t572.2.2.2.2.2.2.1, .int .i64 t572.2.2.2.2.2.2.2.1] 38] w594) := ⟨by rw [hst]; exact hq7⟩; clear hq0 hq1 hq2 hq3 hq4 hq5 hq6 hq7; clear HS hst; have HS := HS_; clear HS_; have hc596 : w594.cell? ⟨g575, 0, none⟩ = some (.int .i64 t572.1) := blk_cellv (HS.out.at0) 0 rfl; have hc597 : w594.cell? ⟨g575, 1, none⟩ = some (.int .i64 t572.2.1) := blk_cellv (HS.out.at0) 1 rfl; have hc598 : w594.cell? ⟨g575, 2, none⟩ = some (.int .i64 t572.2.2.1) := blk_cellv (HS.out.at0) 2 rfl; have hc599 : w594.cell? ⟨g575, 3, none⟩ = some (.int .i64 t572.2.2.2.1) := blk_cellv (HS.out.at0) 3 rfl; have hc600 : w594.cell? ⟨g575, 4, none⟩ = some (.int .i64 t572.2.2.2.2.1) := blk_cellv (HS.out.at0) 4 rfl; have hc601 : w594.cell? ⟨g575, 5, none⟩ = some (.int .i64 t572.2.2.2.2.2.1) := blk_cellv (HS.out.at0) 5 rfl; have hc602 : w594.cell? ⟨g575, 6, none⟩ = some (.int .i64 t572.2.2.2.2.2.2.1) := blk_cellv (HS.out.at0) 6 rfl; have hc603 : w594.cell? ⟨g575, 7, none⟩ = some (.int .i64 t572.2.2.2.2.2.2.2.1) := blk_cellv (HS.out.at0) 7 rfl))
            clear hc596 hc597 hc598 hc599 hc600 hc601 hc602 hc603
            go_ret
            rw [← some_eq H]
            exact ⟨(by first | rfl | (simp [IntKind.wrap_u32]; done)), (HS.out).keep (l := []) (rest := [blk g575 #[.int .i64 t572.1, .int .i64 t572.2.1, .int .i64 t572.2.2.1, .int .i64 t572.2.2.2.1, .int .i64 t572.2.2.2.2.1, .int .i64 t572.2.2.2.2.2.1, .int .i64 t572.2.2.2.2.2.2.1, .int .i64 t572.2.2.2.2.2.2.2.1] 38])⟩
        · have H := if_no c606 H
          have c606b0 : (t572.2.2.1 == 9) = false := beq_eq_false_iff_ne.mpr c606
          have c606b1 : (t572.2.2.1 != 9) = true := bne_iff_ne.mpr c606
          clear c606
          go_wp2_with (first | ((with_reducible refine gate_dst (N := 1) rfl ?_); refine box_on ?hg (N := 1) ?hd (cs := #[.int .i64 0, .int .i64 0, .int .i64 0, .int .i64 0, .int .i64 0, .int .i64 0, .int .i64 0, .int .i64 0]) (t := 38) ?hr ?_; (case hd => rfl); (case hg => rfl); (case hr => first | (go_simp; done) | (go_simp; rfl)); intro g575 hg w576 hbox hb; have HS_ : Aside0 (Sep (fps []) w [blk g575 #[.int .i64 0, .int .i64 0, .int .i64 0, .int .i64 0, .int .i64 0, .int .i64 0, .int .i64 0, .int .i64 0] 38] w576) := ⟨HS.out.box hg hbox hb⟩; clear HS hg hbox hb; have HS := HS_; clear HS_; have hc578 : w576.cell? ⟨g575, 0, none⟩ = some (.int .i64 0) := blk_cellv (HS.out.at0) 0 rfl; have hz579 : w576.frozen? ⟨g575, 0, none⟩ = false := blk_fz (HS.out.at0) 0; have hc580 : w576.cell? ⟨g575, 1, none⟩ = some (.int .i64 0) := blk_cellv (HS.out.at0) 1 rfl; have hz581 : w576.frozen? ⟨g575, 1, none⟩ = false := blk_fz (HS.out.at0) 1; have hc582 : w576.cell? ⟨g575, 2, none⟩ = some (.int .i64 0) := blk_cellv (HS.out.at0) 2 rfl; have hz583 : w576.frozen? ⟨g575, 2, none⟩ = false := blk_fz (HS.out.at0) 2; have hc584 : w576.cell? ⟨g575, 3, none⟩ = some (.int .i64 0) := blk_cellv (HS.out.at0) 3 rfl; have hz585 : w576.frozen? ⟨g575, 3, none⟩ = false := blk_fz (HS.out.at0) 3; have hc586 : w576.cell? ⟨g575, 4, none⟩ = some (.int .i64 0) := blk_cellv (HS.out.at0) 4 rfl; have hz587 : w576.frozen? ⟨g575, 4, none⟩ = false := blk_fz (HS.out.at0) 4; have hc588 : w576.cell? ⟨g575, 5, none⟩ = some (.int .i64 0) := blk_cellv (HS.out.at0) 5 rfl; have hz589 : w576.frozen? ⟨g575, 5, none⟩ = false := blk_fz (HS.out.at0) 5; have hc590 : w576.cell? ⟨g575, 6, none⟩ = some (.int .i64 0) := blk_cellv (HS.out.at0) 6 rfl; have hz591 : w576.frozen? ⟨g575, 6, none⟩ = false := blk_fz (HS.out.at0) 6; have hc592 : w576.cell? ⟨g575, 7, none⟩ = some (.int .i64 0) := blk_cellv (HS.out.at0) 7 rfl; have hz593 : w576.frozen? ⟨g575, 7, none⟩ = false := blk_fz (HS.out.at0) 7) | ((with_reducible refine gate_store (t := 38) (p := 1) rfl ?_); refine store_event (w1 := (World.setCell (World.setCell (World.setCell (World.setCell (World.setCell (World.setCell (World.setCell (World.setCell w576 ⟨g575, 0, none⟩ (.int .i64 t572.1)) ⟨g575, 1, none⟩ (.int .i64 t572.2.1)) ⟨g575, 2, none⟩ (.int .i64 t572.2.2.1)) ⟨g575, 3, none⟩ (.int .i64 t572.2.2.2.1)) ⟨g575, 4, none⟩ (.int .i64 t572.2.2.2.2.1)) ⟨g575, 5, none⟩ (.int .i64 t572.2.2.2.2.2.1)) ⟨g575, 6, none⟩ (.int .i64 t572.2.2.2.2.2.2.1)) ⟨g575, 7, none⟩ (.int .i64 t572.2.2.2.2.2.2.2.1))) rfl (t := 38) (p := 1) rfl rfl ?hr ?_; (case hr => first | (go_simp; done) | (go_simp; rfl)); intro w594 hst; clear hc578 hz579 hc580 hz581 hc582 hz583 hc584 hz585 hc586 hz587 hc588 hz589 hc590 hz591 hc592 hz593; have hq0 : Sep (fps []) w [blk g575 #[.int .i64 t572.1, .int .i64 0, .int .i64 0, .int .i64 0, .int .i64 0, .int .i64 0, .int .i64 0, .int .i64 0] 38] (World.setCell w576 ⟨g575, 0, none⟩ (.int .i64 t572.1)) := (HS.out).set1 (l1 := []) (l2 := []) 0 (.int .i64 t572.1); have hq1 : Sep (fps []) w [blk g575 #[.int .i64 t572.1, .int .i64 t572.2.1, .int .i64 0, .int .i64 0, .int .i64 0, .int .i64 0, .int .i64 0, .int .i64 0] 38] (World.setCell (World.setCell w576 ⟨g575, 0, none⟩ (.int .i64 t572.1)) ⟨g575, 1, none⟩ (.int .i64 t572.2.1)) := (hq0).set1 (l1 := []) (l2 := []) 1 (.int .i64 t572.2.1); have hq2 : Sep (fps []) w [blk g575 #[.int .i64 t572.1, .int .i64 t572.2.1, .int .i64 t572.2.2.1, .int .i64 0, .int .i64 0, .int .i64 0, .int .i64 0, .int .i64 0] 38] (World.setCell (World.setCell (World.setCell w576 ⟨g575, 0, none⟩ (.int .i64 t572.1)) ⟨g575, 1, none⟩ (.int .i64 t572.2.1)) ⟨g575, 2, none⟩ (.int .i64 t572.2.2.1)) := (hq1).set1 (l1 := []) (l2 := []) 2 (.int .i64 t572.2.2.1); have hq3 : Sep (fps []) w [blk g575 #[.int .i64 t572.1, .int .i64 t572.2.1, .int .i64 t572.2.2.1, .int .i64 t572.2.2.2.1, .int .i64 0, .int .i64 0, .int .i64 0, .int .i64 0] 38] (World.setCell (World.setCell (World.setCell (World.setCell w576 ⟨g575, 0, none⟩ (.int .i64 t572.1)) ⟨g575, 1, none⟩ (.int .i64 t572.2.1)) ⟨g575, 2, none⟩ (.int .i64 t572.2.2.1)) ⟨g575, 3, none⟩ (.int .i64 t572.2.2.2.1)) := (hq2).set1 (l1 := []) (l2 := []) 3 (.int .i64 t572.2.2.2.1); have hq4 : Sep (fps []) w [blk g575 #[.int .i64 t572.1, .int .i64 t572.2.1, .int .i64 t572.2.2.1, .int .i64 t572.2.2.2.1, .int .i64 t572.2.2.2.2.1, .int .i64 0, .int .i64 0, .int .i64 0] 38] (World.setCell (World.setCell (World.setCell (World.setCell (World.setCell w576 ⟨g575, 0, none⟩ (.int .i64 t572.1)) ⟨g575, 1, none⟩ (.int .i64 t572.2.1)) ⟨g575, 2, none⟩ (.int .i64 t572.2.2.1)) ⟨g575, 3, none⟩ (.int .i64 t572.2.2.2.1)) ⟨g575, 4, none⟩ (.int .i64 t572.2.2.2.2.1)) := (hq3).set1 (l1 := []) (l2 := []) 4 (.int .i64 t572.2.2.2.2.1); have hq5 : Sep (fps []) w [blk g575 #[.int .i64 t572.1, .int .i64 t572.2.1, .int .i64 t572.2.2.1, .int .i64 t572.2.2.2.1, .int .i64 t572.2.2.2.2.1, .int .i64 t572.2.2.2.2.2.1, .int .i64 0, .int .i64 0] 38] (World.setCell (World.setCell (World.setCell (World.setCell (World.setCell (World.setCell w576 ⟨g575, 0, none⟩ (.int .i64 t572.1)) ⟨g575, 1, none⟩ (.int .i64 t572.2.1)) ⟨g575, 2, none⟩ (.int .i64 t572.2.2.1)) ⟨g575, 3, none⟩ (.int .i64 t572.2.2.2.1)) ⟨g575, 4, none⟩ (.int .i64 t572.2.2.2.2.1)) ⟨g575, 5, none⟩ (.int .i64 t572.2.2.2.2.2.1)) := (hq4).set1 (l1 := []) (l2 := []) 5 (.int .i64 t572.2.2.2.2.2.1); have hq6 : Sep (fps []) w [blk g575 #[.int .i64 t572.1, .int .i64 t572.2.1, .int .i64 t572.2.2.1, .int .i64 t572.2.2.2.1, .int .i64 t572.2.2.2.2.1, .int .i64 t572.2.2.2.2.2.1, .int .i64 t572.2.2.2.2.2.2.1, .int .i64 0] 38] (World.setCell (World.setCell (World.setCell (World.setCell (World.setCell (World.setCell (World.setCell w576 ⟨g575, 0, none⟩ (.int .i64 t572.1)) ⟨g575, 1, none⟩ (.int .i64 t572.2.1)) ⟨g575, 2, none⟩ (.int .i64 t572.2.2.1)) ⟨g575, 3, none⟩ (.int .i64 t572.2.2.2.1)) ⟨g575, 4, none⟩ (.int .i64 t572.2.2.2.2.1)) ⟨g575, 5, none⟩ (.int .i64 t572.2.2.2.2.2.1)) ⟨g575, 6, none⟩ (.int .i64 t572.2.2.2.2.2.2.1)) := (hq5).set1 (l1 := []) (l2 := []) 6 (.int .i64 t572.2.2.2.2.2.2.1); have hq7 : Sep (fps []) w [blk g575 #[.int .i64 t572.1, .int .i64 t572.2.1, .int .i64 t572.2.2.1, .int .i64 t572.2.2.2.1, .int .i64 t572.2.2.2.2.1, .int .i64 t572.2.2.2.2.2.1, .int .i64 t572.2.2.2.2.2.2.1, .int .i64 t572.2.2.2.2.2.2.2.1] 38] (World.setCell (World.setCell (World.setCell (World.setCell (World.setCell (World.setCell (World.setCell (World.setCell w576 ⟨g575, 0, none⟩ (.int .i64 t572.1)) ⟨g575, 1, none⟩ (.int .i64 t572.2.1)) ⟨g575, 2, none⟩ (.int .i64 t572.2.2.1)) ⟨g575, 3, none⟩ (.int .i64 t572.2.2.2.1)) ⟨g575, 4, none⟩ (.int .i64 t572.2.2.2.2.1)) ⟨g575, 5, none⟩ (.int .i64 t572.2.2.2.2.2.1)) ⟨g575, 6, none⟩ (.int .i64 t572.2.2.2.2.2.2.1)) ⟨g575, 7, none⟩ (.int .i64 t572.2.2.2.2.2.2.2.1)) := (hq6).set1 (l1 := []) (l2 := []) 7 (.int .i64 t572.2.2.2.2.2.2.2.1); have HS_ : Aside0 (Sep (fps []) w [blk g575 #[.int .i64 t572.1, .int .i64 t572.2.1, .int .i64 t572.2.2.1, .int .i64 t572.2.2.2.1, .int .i64 t572.2.2.2.2.1, .int .i64 t572.2.2.2.2.2.1, .int .i64 t572.2.2.2.2.2.2.1, .int .i64 t572.2.2.2.2.2.2.2.1] 38] w594) := ⟨by rw [hst]; exact hq7⟩; clear hq0 hq1 hq2 hq3 hq4 hq5 hq6 hq7; clear HS hst; have HS := HS_; clear HS_; have hc596 : w594.cell? ⟨g575, 0, none⟩ = some (.int .i64 t572.1) := blk_cellv (HS.out.at0) 0 rfl; have hc597 : w594.cell? ⟨g575, 1, none⟩ = some (.int .i64 t572.2.1) := blk_cellv (HS.out.at0) 1 rfl; have hc598 : w594.cell? ⟨g575, 2, none⟩ = some (.int .i64 t572.2.2.1) := blk_cellv (HS.out.at0) 2 rfl; have hc599 : w594.cell? ⟨g575, 3, none⟩ = some (.int .i64 t572.2.2.2.1) := blk_cellv (HS.out.at0) 3 rfl; have hc600 : w594.cell? ⟨g575, 4, none⟩ = some (.int .i64 t572.2.2.2.2.1) := blk_cellv (HS.out.at0) 4 rfl; have hc601 : w594.cell? ⟨g575, 5, none⟩ = some (.int .i64 t572.2.2.2.2.2.1) := blk_cellv (HS.out.at0) 5 rfl; have hc602 : w594.cell? ⟨g575, 6, none⟩ = some (.int .i64 t572.2.2.2.2.2.2.1) := blk_cellv (HS.out.at0) 6 rfl; have hc603 : w594.cell? ⟨g575, 7, none⟩ = some (.int .i64 t572.2.2.2.2.2.2.2.1) := blk_cellv (HS.out.at0) 7 rfl))
          clear hc596 hc597 hc598 hc599 hc600 hc601 hc602 hc603
          go_ret
          rw [← some_eq H]
          exact ⟨(by first | rfl | (simp [IntKind.wrap_u32]; done)), (HS.out).keep (l := []) (rest := [blk g575 #[.int .i64 t572.1, .int .i64 t572.2.1, .int .i64 t572.2.2.1, .int .i64 t572.2.2.2.1, .int .i64 t572.2.2.2.2.1, .int .i64 t572.2.2.2.2.2.1, .int .i64 t572.2.2.2.2.2.2.1, .int .i64 t572.2.2.2.2.2.2.2.1] 38])⟩
      · have H := if_no c605 H
        have c605b0 : (t572.2.1 == 8) = false := beq_eq_false_iff_ne.mpr c605
        have c605b1 : (t572.2.1 != 8) = true := bne_iff_ne.mpr c605
        clear c605
        go_wp2_with (first | ((with_reducible refine gate_dst (N := 1) rfl ?_); refine box_on ?hg (N := 1) ?hd (cs := #[.int .i64 0, .int .i64 0, .int .i64 0, .int .i64 0, .int .i64 0, .int .i64 0, .int .i64 0, .int .i64 0]) (t := 38) ?hr ?_; (case hd => rfl); (case hg => rfl); (case hr => first | (go_simp; done) | (go_simp; rfl)); intro g575 hg w576 hbox hb; have HS_ : Aside0 (Sep (fps []) w [blk g575 #[.int .i64 0, .int .i64 0, .int .i64 0, .int .i64 0, .int .i64 0, .int .i64 0, .int .i64 0, .int .i64 0] 38] w576) := ⟨HS.out.box hg hbox hb⟩; clear HS hg hbox hb; have HS := HS_; clear HS_; have hc578 : w576.cell? ⟨g575, 0, none⟩ = some (.int .i64 0) := blk_cellv (HS.out.at0) 0 rfl; have hz579 : w576.frozen? ⟨g575, 0, none⟩ = false := blk_fz (HS.out.at0) 0; have hc580 : w576.cell? ⟨g575, 1, none⟩ = some (.int .i64 0) := blk_cellv (HS.out.at0) 1 rfl; have hz581 : w576.frozen? ⟨g575, 1, none⟩ = false := blk_fz (HS.out.at0) 1; have hc582 : w576.cell? ⟨g575, 2, none⟩ = some (.int .i64 0) := blk_cellv (HS.out.at0) 2 rfl; have hz583 : w576.frozen? ⟨g575, 2, none⟩ = false := blk_fz (HS.out.at0) 2; have hc584 : w576.cell? ⟨g575, 3, none⟩ = some (.int .i64 0) := blk_cellv (HS.out.at0) 3 rfl; have hz585 : w576.frozen? ⟨g575, 3, none⟩ = false := blk_fz (HS.out.at0) 3; have hc586 : w576.cell? ⟨g575, 4, none⟩ = some (.int .i64 0) := blk_cellv (HS.out.at0) 4 rfl; have hz587 : w576.frozen? ⟨g575, 4, none⟩ = false := blk_fz (HS.out.at0) 4; have hc588 : w576.cell? ⟨g575, 5, none⟩ = some (.int .i64 0) := blk_cellv (HS.out.at0) 5 rfl; have hz589 : w576.frozen? ⟨g575, 5, none⟩ = false := blk_fz (HS.out.at0) 5; have hc590 : w576.cell? ⟨g575, 6, none⟩ = some (.int .i64 0) := blk_cellv (HS.out.at0) 6 rfl; have hz591 : w576.frozen? ⟨g575, 6, none⟩ = false := blk_fz (HS.out.at0) 6; have hc592 : w576.cell? ⟨g575, 7, none⟩ = some (.int .i64 0) := blk_cellv (HS.out.at0) 7 rfl; have hz593 : w576.frozen? ⟨g575, 7, none⟩ = false := blk_fz (HS.out.at0) 7) | ((with_reducible refine gate_store (t := 38) (p := 1) rfl ?_); refine store_event (w1 := (World.setCell (World.setCell (World.setCell (World.setCell (World.setCell (World.setCell (World.setCell (World.setCell w576 ⟨g575, 0, none⟩ (.int .i64 t572.1)) ⟨g575, 1, none⟩ (.int .i64 t572.2.1)) ⟨g575, 2, none⟩ (.int .i64 t572.2.2.1)) ⟨g575, 3, none⟩ (.int .i64 t572.2.2.2.1)) ⟨g575, 4, none⟩ (.int .i64 t572.2.2.2.2.1)) ⟨g575, 5, none⟩ (.int .i64 t572.2.2.2.2.2.1)) ⟨g575, 6, none⟩ (.int .i64 t572.2.2.2.2.2.2.1)) ⟨g575, 7, none⟩ (.int .i64 t572.2.2.2.2.2.2.2.1))) rfl (t := 38) (p := 1) rfl rfl ?hr ?_; (case hr => first | (go_simp; done) | (go_simp; rfl)); intro w594 hst; clear hc578 hz579 hc580 hz581 hc582 hz583 hc584 hz585 hc586 hz587 hc588 hz589 hc590 hz591 hc592 hz593; have hq0 : Sep (fps []) w [blk g575 #[.int .i64 t572.1, .int .i64 0, .int .i64 0, .int .i64 0, .int .i64 0, .int .i64 0, .int .i64 0, .int .i64 0] 38] (World.setCell w576 ⟨g575, 0, none⟩ (.int .i64 t572.1)) := (HS.out).set1 (l1 := []) (l2 := []) 0 (.int .i64 t572.1); have hq1 : Sep (fps []) w [blk g575 #[.int .i64 t572.1, .int .i64 t572.2.1, .int .i64 0, .int .i64 0, .int .i64 0, .int .i64 0, .int .i64 0, .int .i64 0] 38] (World.setCell (World.setCell w576 ⟨g575, 0, none⟩ (.int .i64 t572.1)) ⟨g575, 1, none⟩ (.int .i64 t572.2.1)) := (hq0).set1 (l1 := []) (l2 := []) 1 (.int .i64 t572.2.1); have hq2 : Sep (fps []) w [blk g575 #[.int .i64 t572.1, .int .i64 t572.2.1, .int .i64 t572.2.2.1, .int .i64 0, .int .i64 0, .int .i64 0, .int .i64 0, .int .i64 0] 38] (World.setCell (World.setCell (World.setCell w576 ⟨g575, 0, none⟩ (.int .i64 t572.1)) ⟨g575, 1, none⟩ (.int .i64 t572.2.1)) ⟨g575, 2, none⟩ (.int .i64 t572.2.2.1)) := (hq1).set1 (l1 := []) (l2 := []) 2 (.int .i64 t572.2.2.1); have hq3 : Sep (fps []) w [blk g575 #[.int .i64 t572.1, .int .i64 t572.2.1, .int .i64 t572.2.2.1, .int .i64 t572.2.2.2.1, .int .i64 0, .int .i64 0, .int .i64 0, .int .i64 0] 38] (World.setCell (World.setCell (World.setCell (World.setCell w576 ⟨g575, 0, none⟩ (.int .i64 t572.1)) ⟨g575, 1, none⟩ (.int .i64 t572.2.1)) ⟨g575, 2, none⟩ (.int .i64 t572.2.2.1)) ⟨g575, 3, none⟩ (.int .i64 t572.2.2.2.1)) := (hq2).set1 (l1 := []) (l2 := []) 3 (.int .i64 t572.2.2.2.1); have hq4 : Sep (fps []) w [blk g575 #[.int .i64 t572.1, .int .i64 t572.2.1, .int .i64 t572.2.2.1, .int .i64 t572.2.2.2.1, .int .i64 t572.2.2.2.2.1, .int .i64 0, .int .i64 0, .int .i64 0] 38] (World.setCell (World.setCell (World.setCell (World.setCell (World.setCell w576 ⟨g575, 0, none⟩ (.int .i64 t572.1)) ⟨g575, 1, none⟩ (.int .i64 t572.2.1)) ⟨g575, 2, none⟩ (.int .i64 t572.2.2.1)) ⟨g575, 3, none⟩ (.int .i64 t572.2.2.2.1)) ⟨g575, 4, none⟩ (.int .i64 t572.2.2.2.2.1)) := (hq3).set1 (l1 := []) (l2 := []) 4 (.int .i64 t572.2.2.2.2.1); have hq5 : Sep (fps []) w [blk g575 #[.int .i64 t572.1, .int .i64 t572.2.1, .int .i64 t572.2.2.1, .int .i64 t572.2.2.2.1, .int .i64 t572.2.2.2.2.1, .int .i64 t572.2.2.2.2.2.1, .int .i64 0, .int .i64 0] 38] (World.setCell (World.setCell (World.setCell (World.setCell (World.setCell (World.setCell w576 ⟨g575, 0, none⟩ (.int .i64 t572.1)) ⟨g575, 1, none⟩ (.int .i64 t572.2.1)) ⟨g575, 2, none⟩ (.int .i64 t572.2.2.1)) ⟨g575, 3, none⟩ (.int .i64 t572.2.2.2.1)) ⟨g575, 4, none⟩ (.int .i64 t572.2.2.2.2.1)) ⟨g575, 5, none⟩ (.int .i64 t572.2.2.2.2.2.1)) := (hq4).set1 (l1 := []) (l2 := []) 5 (.int .i64 t572.2.2.2.2.2.1); have hq6 : Sep (fps []) w [blk g575 #[.int .i64 t572.1, .int .i64 t572.2.1, .int .i64 t572.2.2.1, .int .i64 t572.2.2.2.1, .int .i64 t572.2.2.2.2.1, .int .i64 t572.2.2.2.2.2.1, .int .i64 t572.2.2.2.2.2.2.1, .int .i64 0] 38] (World.setCell (World.setCell (World.setCell (World.setCell (World.setCell (World.setCell (World.setCell w576 ⟨g575, 0, none⟩ (.int .i64 t572.1)) ⟨g575, 1, none⟩ (.int .i64 t572.2.1)) ⟨g575, 2, none⟩ (.int .i64 t572.2.2.1)) ⟨g575, 3, none⟩ (.int .i64 t572.2.2.2.1)) ⟨g575, 4, none⟩ (.int .i64 t572.2.2.2.2.1)) ⟨g575, 5, none⟩ (.int .i64 t572.2.2.2.2.2.1)) ⟨g575, 6, none⟩ (.int .i64 t572.2.2.2.2.2.2.1)) := (hq5).set1 (l1 := []) (l2 := []) 6 (.int .i64 t572.2.2.2.2.2.2.1); have hq7 : Sep (fps []) w [blk g575 #[.int .i64 t572.1, .int .i64 t572.2.1, .int .i64 t572.2.2.1, .int .i64 t572.2.2.2.1, .int .i64 t572.2.2.2.2.1, .int .i64 t572.2.2.2.2.2.1, .int .i64 t572.2.2.2.2.2.2.1, .int .i64 t572.2.2.2.2.2.2.2.1] 38] (World.setCell (World.setCell (World.setCell (World.setCell (World.setCell (World.setCell (World.setCell (World.setCell w576 ⟨g575, 0, none⟩ (.int .i64 t572.1)) ⟨g575, 1, none⟩ (.int .i64 t572.2.1)) ⟨g575, 2, none⟩ (.int .i64 t572.2.2.1)) ⟨g575, 3, none⟩ (.int .i64 t572.2.2.2.1)) ⟨g575, 4, none⟩ (.int .i64 t572.2.2.2.2.1)) ⟨g575, 5, none⟩ (.int .i64 t572.2.2.2.2.2.1)) ⟨g575, 6, none⟩ (.int .i64 t572.2.2.2.2.2.2.1)) ⟨g575, 7, none⟩ (.int .i64 t572.2.2.2.2.2.2.2.1)) := (hq6).set1 (l1 := []) (l2 := []) 7 (.int .i64 t572.2.2.2.2.2.2.2.1); have HS_ : Aside0 (Sep (fps []) w [blk g575 #[.int .i64 t572.1, .int .i64 t572.2.1, .int .i64 t572.2.2.1, .int .i64 t572.2.2.2.1, .int .i64 t572.2.2.2.2.1, .int .i64 t572.2.2.2.2.2.1, .int .i64 t572.2.2.2.2.2.2.1, .int .i64 t572.2.2.2.2.2.2.2.1] 38] w594) := ⟨by rw [hst]; exact hq7⟩; clear hq0 hq1 hq2 hq3 hq4 hq5 hq6 hq7; clear HS hst; have HS := HS_; clear HS_; have hc596 : w594.cell? ⟨g575, 0, none⟩ = some (.int .i64 t572.1) := blk_cellv (HS.out.at0) 0 rfl; have hc597 : w594.cell? ⟨g575, 1, none⟩ = some (.int .i64 t572.2.1) := blk_cellv (HS.out.at0) 1 rfl; have hc598 : w594.cell? ⟨g575, 2, none⟩ = some (.int .i64 t572.2.2.1) := blk_cellv (HS.out.at0) 2 rfl; have hc599 : w594.cell? ⟨g575, 3, none⟩ = some (.int .i64 t572.2.2.2.1) := blk_cellv (HS.out.at0) 3 rfl; have hc600 : w594.cell? ⟨g575, 4, none⟩ = some (.int .i64 t572.2.2.2.2.1) := blk_cellv (HS.out.at0) 4 rfl; have hc601 : w594.cell? ⟨g575, 5, none⟩ = some (.int .i64 t572.2.2.2.2.2.1) := blk_cellv (HS.out.at0) 5 rfl; have hc602 : w594.cell? ⟨g575, 6, none⟩ = some (.int .i64 t572.2.2.2.2.2.2.1) := blk_cellv (HS.out.at0) 6 rfl; have hc603 : w594.cell? ⟨g575, 7, none⟩ = some (.int .i64 t572.2.2.2.2.2.2.2.1) := blk_cellv (HS.out.at0) 7 rfl))
        clear hc596 hc597 hc598 hc599 hc600 hc601 hc602 hc603
        go_ret
        rw [← some_eq H]
        exact ⟨(by first | rfl | (simp [IntKind.wrap_u32]; done)), (HS.out).keep (l := []) (rest := [blk g575 #[.int .i64 t572.1, .int .i64 t572.2.1, .int .i64 t572.2.2.1, .int .i64 t572.2.2.2.1, .int .i64 t572.2.2.2.2.1, .int .i64 t572.2.2.2.2.2.1, .int .i64 t572.2.2.2.2.2.2.1, .int .i64 t572.2.2.2.2.2.2.2.1] 38])⟩
    · have H := if_no c604 H
      have c604b0 : (t572.1 == 1628) = false := beq_eq_false_iff_ne.mpr c604
      have c604b1 : (t572.1 != 1628) = true := bne_iff_ne.mpr c604
      clear c604
      go_wp2_with (first | ((with_reducible refine gate_dst (N := 1) rfl ?_); refine box_on ?hg (N := 1) ?hd (cs := #[.int .i64 0, .int .i64 0, .int .i64 0, .int .i64 0, .int .i64 0, .int .i64 0, .int .i64 0, .int .i64 0]) (t := 38) ?hr ?_; (case hd => rfl); (case hg => rfl); (case hr => first | (go_simp; done) | (go_simp; rfl)); intro g575 hg w576 hbox hb; have HS_ : Aside0 (Sep (fps []) w [blk g575 #[.int .i64 0, .int .i64 0, .int .i64 0, .int .i64 0, .int .i64 0, .int .i64 0, .int .i64 0, .int .i64 0] 38] w576) := ⟨HS.out.box hg hbox hb⟩; clear HS hg hbox hb; have HS := HS_; clear HS_; have hc578 : w576.cell? ⟨g575, 0, none⟩ = some (.int .i64 0) := blk_cellv (HS.out.at0) 0 rfl; have hz579 : w576.frozen? ⟨g575, 0, none⟩ = false := blk_fz (HS.out.at0) 0; have hc580 : w576.cell? ⟨g575, 1, none⟩ = some (.int .i64 0) := blk_cellv (HS.out.at0) 1 rfl; have hz581 : w576.frozen? ⟨g575, 1, none⟩ = false := blk_fz (HS.out.at0) 1; have hc582 : w576.cell? ⟨g575, 2, none⟩ = some (.int .i64 0) := blk_cellv (HS.out.at0) 2 rfl; have hz583 : w576.frozen? ⟨g575, 2, none⟩ = false := blk_fz (HS.out.at0) 2; have hc584 : w576.cell? ⟨g575, 3, none⟩ = some (.int .i64 0) := blk_cellv (HS.out.at0) 3 rfl; have hz585 : w576.frozen? ⟨g575, 3, none⟩ = false := blk_fz (HS.out.at0) 3; have hc586 : w576.cell? ⟨g575, 4, none⟩ = some (.int .i64 0) := blk_cellv (HS.out.at0) 4 rfl; have hz587 : w576.frozen? ⟨g575, 4, none⟩ = false := blk_fz (HS.out.at0) 4; have hc588 : w576.cell? ⟨g575, 5, none⟩ = some (.int .i64 0) := blk_cellv (HS.out.at0) 5 rfl; have hz589 : w576.frozen? ⟨g575, 5, none⟩ = false := blk_fz (HS.out.at0) 5; have hc590 : w576.cell? ⟨g575, 6, none⟩ = some (.int .i64 0) := blk_cellv (HS.out.at0) 6 rfl; have hz591 : w576.frozen? ⟨g575, 6, none⟩ = false := blk_fz (HS.out.at0) 6; have hc592 : w576.cell? ⟨g575, 7, none⟩ = some (.int .i64 0) := blk_cellv (HS.out.at0) 7 rfl; have hz593 : w576.frozen? ⟨g575, 7, none⟩ = false := blk_fz (HS.out.at0) 7) | ((with_reducible refine gate_store (t := 38) (p := 1) rfl ?_); refine store_event (w1 := (World.setCell (World.setCell (World.setCell (World.setCell (World.setCell (World.setCell (World.setCell (World.setCell w576 ⟨g575, 0, none⟩ (.int .i64 t572.1)) ⟨g575, 1, none⟩ (.int .i64 t572.2.1)) ⟨g575, 2, none⟩ (.int .i64 t572.2.2.1)) ⟨g575, 3, none⟩ (.int .i64 t572.2.2.2.1)) ⟨g575, 4, none⟩ (.int .i64 t572.2.2.2.2.1)) ⟨g575, 5, none⟩ (.int .i64 t572.2.2.2.2.2.1)) ⟨g575, 6, none⟩ (.int .i64 t572.2.2.2.2.2.2.1)) ⟨g575, 7, none⟩ (.int .i64 t572.2.2.2.2.2.2.2.1))) rfl (t := 38) (p := 1) rfl rfl ?hr ?_; (case hr => first | (go_simp; done) | (go_simp; rfl)); intro w594 hst; clear hc578 hz579 hc580 hz581 hc582 hz583 hc584 hz585 hc586 hz587 hc588 hz589 hc590 hz591 hc592 hz593; have hq0 : Sep (fps []) w [blk g575 #[.int .i64 t572.1, .int .i64 0, .int .i64 0, .int .i64 0, .int .i64 0, .int .i64 0, .int .i64 0, .int .i64 0] 38] (World.setCell w576 ⟨g575, 0, none⟩ (.int .i64 t572.1)) := (HS.out).set1 (l1 := []) (l2 := []) 0 (.int .i64 t572.1); have hq1 : Sep (fps []) w [blk g575 #[.int .i64 t572.1, .int .i64 t572.2.1, .int .i64 0, .int .i64 0, .int .i64 0, .int .i64 0, .int .i64 0, .int .i64 0] 38] (World.setCell (World.setCell w576 ⟨g575, 0, none⟩ (.int .i64 t572.1)) ⟨g575, 1, none⟩ (.int .i64 t572.2.1)) := (hq0).set1 (l1 := []) (l2 := []) 1 (.int .i64 t572.2.1); have hq2 : Sep (fps []) w [blk g575 #[.int .i64 t572.1, .int .i64 t572.2.1, .int .i64 t572.2.2.1, .int .i64 0, .int .i64 0, .int .i64 0, .int .i64 0, .int .i64 0] 38] (World.setCell (World.setCell (World.setCell w576 ⟨g575, 0, none⟩ (.int .i64 t572.1)) ⟨g575, 1, none⟩ (.int .i64 t572.2.1)) ⟨g575, 2, none⟩ (.int .i64 t572.2.2.1)) := (hq1).set1 (l1 := []) (l2 := []) 2 (.int .i64 t572.2.2.1); have hq3 : Sep (fps []) w [blk g575 #[.int .i64 t572.1, .int .i64 t572.2.1, .int .i64 t572.2.2.1, .int .i64 t572.2.2.2.1, .int .i64 0, .int .i64 0, .int .i64 0, .int .i64 0] 38] (World.setCell (World.setCell (World.setCell (World.setCell w576 ⟨g575, 0, none⟩ (.int .i64 t572.1)) ⟨g575, 1, none⟩ (.int .i64 t572.2.1)) ⟨g575, 2, none⟩ (.int .i64 t572.2.2.1)) ⟨g575, 3, none⟩ (.int .i64 t572.2.2.2.1)) := (hq2).set1 (l1 := []) (l2 := []) 3 (.int .i64 t572.2.2.2.1); have hq4 : Sep (fps []) w [blk g575 #[.int .i64 t572.1, .int .i64 t572.2.1, .int .i64 t572.2.2.1, .int .i64 t572.2.2.2.1, .int .i64 t572.2.2.2.2.1, .int .i64 0, .int .i64 0, .int .i64 0] 38] (World.setCell (World.setCell (World.setCell (World.setCell (World.setCell w576 ⟨g575, 0, none⟩ (.int .i64 t572.1)) ⟨g575, 1, none⟩ (.int .i64 t572.2.1)) ⟨g575, 2, none⟩ (.int .i64 t572.2.2.1)) ⟨g575, 3, none⟩ (.int .i64 t572.2.2.2.1)) ⟨g575, 4, none⟩ (.int .i64 t572.2.2.2.2.1)) := (hq3).set1 (l1 := []) (l2 := []) 4 (.int .i64 t572.2.2.2.2.1); have hq5 : Sep (fps []) w [blk g575 #[.int .i64 t572.1, .int .i64 t572.2.1, .int .i64 t572.2.2.1, .int .i64 t572.2.2.2.1, .int .i64 t572.2.2.2.2.1, .int .i64 t572.2.2.2.2.2.1, .int .i64 0, .int .i64 0] 38] (World.setCell (World.setCell (World.setCell (World.setCell (World.setCell (World.setCell w576 ⟨g575, 0, none⟩ (.int .i64 t572.1)) ⟨g575, 1, none⟩ (.int .i64 t572.2.1)) ⟨g575, 2, none⟩ (.int .i64 t572.2.2.1)) ⟨g575, 3, none⟩ (.int .i64 t572.2.2.2.1)) ⟨g575, 4, none⟩ (.int .i64 t572.2.2.2.2.1)) ⟨g575, 5, none⟩ (.int .i64 t572.2.2.2.2.2.1)) := (hq4).set1 (l1 := []) (l2 := []) 5 (.int .i64 t572.2.2.2.2.2.1); have hq6 : Sep (fps []) w [blk g575 #[.int .i64 t572.1, .int .i64 t572.2.1, .int .i64 t572.2.2.1, .int .i64 t572.2.2.2.1, .int .i64 t572.2.2.2.2.1, .int .i64 t572.2.2.2.2.2.1, .int .i64 t572.2.2.2.2.2.2.1, .int .i64 0] 38] (World.setCell (World.setCell (World.setCell (World.setCell (World.setCell (World.setCell (World.setCell w576 ⟨g575, 0, none⟩ (.int .i64 t572.1)) ⟨g575, 1, none⟩ (.int .i64 t572.2.1)) ⟨g575, 2, none⟩ (.int .i64 t572.2.2.1)) ⟨g575, 3, none⟩ (.int .i64 t572.2.2.2.1)) ⟨g575, 4, none⟩ (.int .i64 t572.2.2.2.2.1)) ⟨g575, 5, none⟩ (.int .i64 t572.2.2.2.2.2.1)) ⟨g575, 6, none⟩ (.int .i64 t572.2.2.2.2.2.2.1)) := (hq5).set1 (l1 := []) (l2 := []) 6 (.int .i64 t572.2.2.2.2.2.2.1); have hq7 : Sep (fps []) w [blk g575 #[.int .i64 t572.1, .int .i64 t572.2.1, .int .i64 t572.2.2.1, .int .i64 t572.2.2.2.1, .int .i64 t572.2.2.2.2.1, .int .i64 t572.2.2.2.2.2.1, .int .i64 t572.2.2.2.2.2.2.1, .int .i64 t572.2.2.2.2.2.2.2.1] 38] (World.setCell (World.setCell (World.setCell (World.setCell (World.setCell (World.setCell (World.setCell (World.setCell w576 ⟨g575, 0, none⟩ (.int .i64 t572.1)) ⟨g575, 1, none⟩ (.int .i64 t572.2.1)) ⟨g575, 2, none⟩ (.int .i64 t572.2.2.1)) ⟨g575, 3, none⟩ (.int .i64 t572.2.2.2.1)) ⟨g575, 4, none⟩ (.int .i64 t572.2.2.2.2.1)) ⟨g575, 5, none⟩ (.int .i64 t572.2.2.2.2.2.1)) ⟨g575, 6, none⟩ (.int .i64 t572.2.2.2.2.2.2.1)) ⟨g575, 7, none⟩ (.int .i64 t572.2.2.2.2.2.2.2.1)) := (hq6).set1 (l1 := []) (l2 := []) 7 (.int .i64 t572.2.2.2.2.2.2.2.1); have HS_ : Aside0 (Sep (fps []) w [blk g575 #[.int .i64 t572.1, .int .i64 t572.2.1, .int .i64 t572.2.2.1, .int .i64 t572.2.2.2.1, .int .i64 t572.2.2.2.2.1, .int .i64 t572.2.2.2.2.2.1, .int .i64 t572.2.2.2.2.2.2.1, .int .i64 t572.2.2.2.2.2.2.2.1] 38] w594) := ⟨by rw [hst]; exact hq7⟩; clear hq0 hq1 hq2 hq3 hq4 hq5 hq6 hq7; clear HS hst; have HS := HS_; clear HS_; have hc596 : w594.cell? ⟨g575, 0, none⟩ = some (.int .i64 t572.1) := blk_cellv (HS.out.at0) 0 rfl; have hc597 : w594.cell? ⟨g575, 1, none⟩ = some (.int .i64 t572.2.1) := blk_cellv (HS.out.at0) 1 rfl; have hc598 : w594.cell? ⟨g575, 2, none⟩ = some (.int .i64 t572.2.2.1) := blk_cellv (HS.out.at0) 2 rfl; have hc599 : w594.cell? ⟨g575, 3, none⟩ = some (.int .i64 t572.2.2.2.1) := blk_cellv (HS.out.at0) 3 rfl; have hc600 : w594.cell? ⟨g575, 4, none⟩ = some (.int .i64 t572.2.2.2.2.1) := blk_cellv (HS.out.at0) 4 rfl; have hc601 : w594.cell? ⟨g575, 5, none⟩ = some (.int .i64 t572.2.2.2.2.2.1) := blk_cellv (HS.out.at0) 5 rfl; have hc602 : w594.cell? ⟨g575, 6, none⟩ = some (.int .i64 t572.2.2.2.2.2.2.1) := blk_cellv (HS.out.at0) 6 rfl; have hc603 : w594.cell? ⟨g575, 7, none⟩ = some (.int .i64 t572.2.2.2.2.2.2.2.1) := blk_cellv (HS.out.at0) 7 rfl))
      clear hc596 hc597 hc598 hc599 hc600 hc601 hc602 hc603
      go_ret
      rw [← some_eq H]
      exact ⟨(by first | rfl | (simp [IntKind.wrap_u32]; done)), (HS.out).keep (l := []) (rest := [blk g575 #[.int .i64 t572.1, .int .i64 t572.2.1, .int .i64 t572.2.2.1, .int .i64 t572.2.2.2.1, .int .i64 t572.2.2.2.2.1, .int .i64 t572.2.2.2.2.2.1, .int .i64 t572.2.2.2.2.2.2.1, .int .i64 t572.2.2.2.2.2.2.2.1] 38])⟩
  · have H := if_no c595 H
    have c595b0 : (t572.2.2.2.2.2.2.2.2 == 0) = false := beq_eq_false_iff_ne.mpr c595
    have c595b1 : (t572.2.2.2.2.2.2.2.2 != 0) = true := bne_iff_ne.mpr c595
    clear c595
    go_wp2_with (first | ((with_reducible refine gate_dst (N := 1) rfl ?_); refine box_on ?hg (N := 1) ?hd (cs := #[.int .i64 0, .int .i64 0, .int .i64 0, .int .i64 0, .int .i64 0, .int .i64 0, .int .i64 0, .int .i64 0]) (t := 38) ?hr ?_; (case hd => rfl); (case hg => rfl); (case hr => first | (go_simp; done) | (go_simp; rfl)); intro g575 hg w576 hbox hb; have HS_ : Aside0 (Sep (fps []) w [blk g575 #[.int .i64 0, .int .i64 0, .int .i64 0, .int .i64 0, .int .i64 0, .int .i64 0, .int .i64 0, .int .i64 0] 38] w576) := ⟨HS.out.box hg hbox hb⟩; clear HS hg hbox hb; have HS := HS_; clear HS_; have hc578 : w576.cell? ⟨g575, 0, none⟩ = some (.int .i64 0) := blk_cellv (HS.out.at0) 0 rfl; have hz579 : w576.frozen? ⟨g575, 0, none⟩ = false := blk_fz (HS.out.at0) 0; have hc580 : w576.cell? ⟨g575, 1, none⟩ = some (.int .i64 0) := blk_cellv (HS.out.at0) 1 rfl; have hz581 : w576.frozen? ⟨g575, 1, none⟩ = false := blk_fz (HS.out.at0) 1; have hc582 : w576.cell? ⟨g575, 2, none⟩ = some (.int .i64 0) := blk_cellv (HS.out.at0) 2 rfl; have hz583 : w576.frozen? ⟨g575, 2, none⟩ = false := blk_fz (HS.out.at0) 2; have hc584 : w576.cell? ⟨g575, 3, none⟩ = some (.int .i64 0) := blk_cellv (HS.out.at0) 3 rfl; have hz585 : w576.frozen? ⟨g575, 3, none⟩ = false := blk_fz (HS.out.at0) 3; have hc586 : w576.cell? ⟨g575, 4, none⟩ = some (.int .i64 0) := blk_cellv (HS.out.at0) 4 rfl; have hz587 : w576.frozen? ⟨g575, 4, none⟩ = false := blk_fz (HS.out.at0) 4; have hc588 : w576.cell? ⟨g575, 5, none⟩ = some (.int .i64 0) := blk_cellv (HS.out.at0) 5 rfl; have hz589 : w576.frozen? ⟨g575, 5, none⟩ = false := blk_fz (HS.out.at0) 5; have hc590 : w576.cell? ⟨g575, 6, none⟩ = some (.int .i64 0) := blk_cellv (HS.out.at0) 6 rfl; have hz591 : w576.frozen? ⟨g575, 6, none⟩ = false := blk_fz (HS.out.at0) 6; have hc592 : w576.cell? ⟨g575, 7, none⟩ = some (.int .i64 0) := blk_cellv (HS.out.at0) 7 rfl; have hz593 : w576.frozen? ⟨g575, 7, none⟩ = false := blk_fz (HS.out.at0) 7) | ((with_reducible refine gate_store (t := 38) (p := 1) rfl ?_); refine store_event (w1 := (World.setCell (World.setCell (World.setCell (World.setCell (World.setCell (World.setCell (World.setCell (World.setCell w576 ⟨g575, 0, none⟩ (.int .i64 t572.1)) ⟨g575, 1, none⟩ (.int .i64 t572.2.1)) ⟨g575, 2, none⟩ (.int .i64 t572.2.2.1)) ⟨g575, 3, none⟩ (.int .i64 t572.2.2.2.1)) ⟨g575, 4, none⟩ (.int .i64 t572.2.2.2.2.1)) ⟨g575, 5, none⟩ (.int .i64 t572.2.2.2.2.2.1)) ⟨g575, 6, none⟩ (.int .i64 t572.2.2.2.2.2.2.1)) ⟨g575, 7, none⟩ (.int .i64 t572.2.2.2.2.2.2.2.1))) rfl (t := 38) (p := 1) rfl rfl ?hr ?_; (case hr => first | (go_simp; done) | (go_simp; rfl)); intro w594 hst; clear hc578 hz579 hc580 hz581 hc582 hz583 hc584 hz585 hc586 hz587 hc588 hz589 hc590 hz591 hc592 hz593; have hq0 : Sep (fps []) w [blk g575 #[.int .i64 t572.1, .int .i64 0, .int .i64 0, .int .i64 0, .int .i64 0, .int .i64 0, .int .i64 0, .int .i64 0] 38] (World.setCell w576 ⟨g575, 0, none⟩ (.int .i64 t572.1)) := (HS.out).set1 (l1 := []) (l2 := []) 0 (.int .i64 t572.1); have hq1 : Sep (fps []) w [blk g575 #[.int .i64 t572.1, .int .i64 t572.2.1, .int .i64 0, .int .i64 0, .int .i64 0, .int .i64 0, .int .i64 0, .int .i64 0] 38] (World.setCell (World.setCell w576 ⟨g575, 0, none⟩ (.int .i64 t572.1)) ⟨g575, 1, none⟩ (.int .i64 t572.2.1)) := (hq0).set1 (l1 := []) (l2 := []) 1 (.int .i64 t572.2.1); have hq2 : Sep (fps []) w [blk g575 #[.int .i64 t572.1, .int .i64 t572.2.1, .int .i64 t572.2.2.1, .int .i64 0, .int .i64 0, .int .i64 0, .int .i64 0, .int .i64 0] 38] (World.setCell (World.setCell (World.setCell w576 ⟨g575, 0, none⟩ (.int .i64 t572.1)) ⟨g575, 1, none⟩ (.int .i64 t572.2.1)) ⟨g575, 2, none⟩ (.int .i64 t572.2.2.1)) := (hq1).set1 (l1 := []) (l2 := []) 2 (.int .i64 t572.2.2.1); have hq3 : Sep (fps []) w [blk g575 #[.int .i64 t572.1, .int .i64 t572.2.1, .int .i64 t572.2.2.1, .int .i64 t572.2.2.2.1, .int .i64 0, .int .i64 0, .int .i64 0, .int .i64 0] 38] (World.setCell (World.setCell (World.setCell (World.setCell w576 ⟨g575, 0, none⟩ (.int .i64 t572.1)) ⟨g575, 1, none⟩ (.int .i64 t572.2.1)) ⟨g575, 2, none⟩ (.int .i64 t572.2.2.1)) ⟨g575, 3, none⟩ (.int .i64 t572.2.2.2.1)) := (hq2).set1 (l1 := []) (l2 := []) 3 (.int .i64 t572.2.2.2.1); have hq4 : Sep (fps []) w [blk g575 #[.int .i64 t572.1, .int .i64 t572.2.1, .int .i64 t572.2.2.1, .int .i64 t572.2.2.2.1, .int .i64 t572.2.2.2.2.1, .int .i64 0, .int .i64 0, .int .i64 0] 38] (World.setCell (World.setCell (World.setCell (World.setCell (World.setCell w576 ⟨g575, 0, none⟩ (.int .i64 t572.1)) ⟨g575, 1, none⟩ (.int .i64 t572.2.1)) ⟨g575, 2, none⟩ (.int .i64 t572.2.2.1)) ⟨g575, 3, none⟩ (.int .i64 t572.2.2.2.1)) ⟨g575, 4, none⟩ (.int .i64 t572.2.2.2.2.1)) := (hq3).set1 (l1 := []) (l2 := []) 4 (.int .i64 t572.2.2.2.2.1); have hq5 : Sep (fps []) w [blk g575 #[.int .i64 t572.1, .int .i64 t572.2.1, .int .i64 t572.2.2.1, .int .i64 t572.2.2.2.1, .int .i64 t572.2.2.2.2.1, .int .i64 t572.2.2.2.2.2.1, .int .i64 0, .int .i64 0] 38] (World.setCell (World.setCell (World.setCell (World.setCell (World.setCell (World.setCell w576 ⟨g575, 0, none⟩ (.int .i64 t572.1)) ⟨g575, 1, none⟩ (.int .i64 t572.2.1)) ⟨g575, 2, none⟩ (.int .i64 t572.2.2.1)) ⟨g575, 3, none⟩ (.int .i64 t572.2.2.2.1)) ⟨g575, 4, none⟩ (.int .i64 t572.2.2.2.2.1)) ⟨g575, 5, none⟩ (.int .i64 t572.2.2.2.2.2.1)) := (hq4).set1 (l1 := []) (l2 := []) 5 (.int .i64 t572.2.2.2.2.2.1); have hq6 : Sep (fps []) w [blk g575 #[.int .i64 t572.1, .int .i64 t572.2.1, .int .i64 t572.2.2.1, .int .i64 t572.2.2.2.1, .int .i64 t572.2.2.2.2.1, .int .i64 t572.2.2.2.2.2.1, .int .i64 t572.2.2.2.2.2.2.1, .int .i64 0] 38] (World.setCell (World.setCell (World.setCell (World.setCell (World.setCell (World.setCell (World.setCell w576 ⟨g575, 0, none⟩ (.int .i64 t572.1)) ⟨g575, 1, none⟩ (.int .i64 t572.2.1)) ⟨g575, 2, none⟩ (.int .i64 t572.2.2.1)) ⟨g575, 3, none⟩ (.int .i64 t572.2.2.2.1)) ⟨g575, 4, none⟩ (.int .i64 t572.2.2.2.2.1)) ⟨g575, 5, none⟩ (.int .i64 t572.2.2.2.2.2.1)) ⟨g575, 6, none⟩ (.int .i64 t572.2.2.2.2.2.2.1)) := (hq5).set1 (l1 := []) (l2 := []) 6 (.int .i64 t572.2.2.2.2.2.2.1); have hq7 : Sep (fps []) w [blk g575 #[.int .i64 t572.1, .int .i64 t572.2.1, .int .i64 t572.2.2.1, .int .i64 t572.2.2.2.1, .int .i64 t572.2.2.2.2.1, .int .i64 t572.2.2.2.2.2.1, .int .i64 t572.2.2.2.2.2.2.1, .int .i64 t572.2.2.2.2.2.2.2.1] 38] (World.setCell (World.setCell (World.setCell (World.setCell (World.setCell (World.setCell (World.setCell (World.setCell w576 ⟨g575, 0, none⟩ (.int .i64 t572.1)) ⟨g575, 1, none⟩ (.int .i64 t572.2.1)) ⟨g575, 2, none⟩ (.int .i64 t572.2.2.1)) ⟨g575, 3, none⟩ (.int .i64 t572.2.2.2.1)) ⟨g575, 4, none⟩ (.int .i64 t572.2.2.2.2.1)) ⟨g575, 5, none⟩ (.int .i64 t572.2.2.2.2.2.1)) ⟨g575, 6, none⟩ (.int .i64 t572.2.2.2.2.2.2.1)) ⟨g575, 7, none⟩ (.int .i64 t572.2.2.2.2.2.2.2.1)) := (hq6).set1 (l1 := []) (l2 := []) 7 (.int .i64 t572.2.2.2.2.2.2.2.1); have HS_ : Aside0 (Sep (fps []) w [blk g575 #[.int .i64 t572.1, .int .i64 t572.2.1, .int .i64 t572.2.2.1, .int .i64 t572.2.2.2.1, .int .i64 t572.2.2.2.2.1, .int .i64 t572.2.2.2.2.2.1, .int .i64 t572.2.2.2.2.2.2.1, .int .i64 t572.2.2.2.2.2.2.2.1] 38] w594) := ⟨by rw [hst]; exact hq7⟩; clear hq0 hq1 hq2 hq3 hq4 hq5 hq6 hq7; clear HS hst; have HS := HS_; clear HS_))
    go_ret
    rw [← some_eq H]
    exact ⟨(by first | rfl | (simp [IntKind.wrap_u32]; done)), (HS.out).keep (l := []) (rest := [blk g575 #[.int .i64 t572.1, .int .i64 t572.2.1, .int .i64 t572.2.2.1, .int .i64 t572.2.2.2.1, .int .i64 t572.2.2.2.2.1, .int .i64 t572.2.2.2.2.2.1, .int .i64 t572.2.2.2.2.2.2.1, .int .i64 t572.2.2.2.2.2.2.2.1] 38])⟩

set_option maxHeartbeats 4000000 in
set_option maxRecDepth 100000 in
theorem plan_Pause.calls (k : Nat) (a619 : Int) (a620 : Int) (a621 : Int) (a622 : Int) (a623 : Int) (a624 : Int) (r : Int) (w : World)  (HS : Aside0 (Sep (fps []) w [] w)) (H : Aside0 (plan_Pause.f k a619 a620 a621 a622 a623 a624 = some r)) :
    Calls Try.prog 18 #[.agg #[.int .i64 a619, .int .i64 a620, .int .i64 a621, .int .i64 a622], .int .i64 a623, .int .i64 a624] w fun e w' => e = .returned (.int .i64 r) ∧ Sep (fps []) w [] w' := by
  unfold plan_Pause.f at H
  go_enter Try.func18, Try.ntmps18
  go_wp2_with (first | ((with_reducible refine gate_dst (N := 3) rfl ?_); refine box_on ?hg (N := 3) ?hd (cs := #[.int .i64 a619, .int .i64 a620, .int .i64 a621, .int .i64 a622]) (t := 32) ?hr ?_; (case hd => rfl); (case hg => rfl); (case hr => first | (go_simp; done) | (go_simp; rfl)); intro g625 hg w626 hbox hb; have HS_ : Aside0 (Sep (fps []) w [blk g625 #[.int .i64 a619, .int .i64 a620, .int .i64 a621, .int .i64 a622] 32] w626) := ⟨HS.out.box hg hbox hb⟩; clear HS hg hbox hb; have HS := HS_; clear HS_; have hc628 : w626.cell? ⟨g625, 0, none⟩ = some (.int .i64 a619) := blk_cellv (HS.out.at0) 0 rfl; have hc629 : w626.cell? ⟨g625, 1, none⟩ = some (.int .i64 a620) := blk_cellv (HS.out.at0) 1 rfl; have hc630 : w626.cell? ⟨g625, 2, none⟩ = some (.int .i64 a621) := blk_cellv (HS.out.at0) 2 rfl; have hc631 : w626.cell? ⟨g625, 3, none⟩ = some (.int .i64 a622) := blk_cellv (HS.out.at0) 3 rfl))
  clear hc628 hc629 hc630 hc631
  obtain ⟨t632, HA633, H⟩ := bind_some H
  refine (plan_Of.calls _ a619 a620 a621 a622 t632 _ ⟨HS.out.begin (l := []) (rest := [blk g625 #[.int .i64 a619, .int .i64 a620, .int .i64 a621, .int .i64 a622] 32])⟩ HA633).mono ?_
  rintro e_ w634 ⟨rfl, hS⟩
  have HS_ : Aside0 (Sep (fps []) w [blk g625 #[.int .i64 a619, .int .i64 a620, .int .i64 a621, .int .i64 a622] 32] w634) := ⟨HS.out.call (l := []) (rest := [blk g625 #[.int .i64 a619, .int .i64 a620, .int .i64 a621, .int .i64 a622] 32]) hS⟩
  clear HS hS
  have HS := HS_
  clear HS_
  by_cases c655 : t632.2.2.2.2.2.2.2.2 = 0
  · have H := if_yes c655 H
    have c655b0 : (t632.2.2.2.2.2.2.2.2 == 0) = true := beq_iff_eq.mpr c655
    have c655b1 : (t632.2.2.2.2.2.2.2.2 != 0) = false := bne_eq_false_iff_eq.mpr c655
    clear c655
    go_wp2_with (first | ((with_reducible refine gate_dst (N := 7) rfl ?_); refine box_on ?hg (N := 7) ?hd (cs := #[.int .i64 0, .int .i64 0, .int .i64 0, .int .i64 0, .int .i64 0, .int .i64 0, .int .i64 0, .int .i64 0]) (t := 38) ?hr ?_; (case hd => rfl); (case hg => rfl); (case hr => first | (go_simp; done) | (go_simp; rfl)); intro g635 hg w636 hbox hb; have HS_ : Aside0 (Sep (fps []) w [blk g625 #[.int .i64 a619, .int .i64 a620, .int .i64 a621, .int .i64 a622] 32, blk g635 #[.int .i64 0, .int .i64 0, .int .i64 0, .int .i64 0, .int .i64 0, .int .i64 0, .int .i64 0, .int .i64 0] 38] w636) := ⟨HS.out.box hg hbox hb⟩; clear HS hg hbox hb; have HS := HS_; clear HS_; have hc638 : w636.cell? ⟨g635, 0, none⟩ = some (.int .i64 0) := blk_cellv (HS.out.at1) 0 rfl; have hz639 : w636.frozen? ⟨g635, 0, none⟩ = false := blk_fz (HS.out.at1) 0; have hc640 : w636.cell? ⟨g635, 1, none⟩ = some (.int .i64 0) := blk_cellv (HS.out.at1) 1 rfl; have hz641 : w636.frozen? ⟨g635, 1, none⟩ = false := blk_fz (HS.out.at1) 1; have hc642 : w636.cell? ⟨g635, 2, none⟩ = some (.int .i64 0) := blk_cellv (HS.out.at1) 2 rfl; have hz643 : w636.frozen? ⟨g635, 2, none⟩ = false := blk_fz (HS.out.at1) 2; have hc644 : w636.cell? ⟨g635, 3, none⟩ = some (.int .i64 0) := blk_cellv (HS.out.at1) 3 rfl; have hz645 : w636.frozen? ⟨g635, 3, none⟩ = false := blk_fz (HS.out.at1) 3; have hc646 : w636.cell? ⟨g635, 4, none⟩ = some (.int .i64 0) := blk_cellv (HS.out.at1) 4 rfl; have hz647 : w636.frozen? ⟨g635, 4, none⟩ = false := blk_fz (HS.out.at1) 4; have hc648 : w636.cell? ⟨g635, 5, none⟩ = some (.int .i64 0) := blk_cellv (HS.out.at1) 5 rfl; have hz649 : w636.frozen? ⟨g635, 5, none⟩ = false := blk_fz (HS.out.at1) 5; have hc650 : w636.cell? ⟨g635, 6, none⟩ = some (.int .i64 0) := blk_cellv (HS.out.at1) 6 rfl; have hz651 : w636.frozen? ⟨g635, 6, none⟩ = false := blk_fz (HS.out.at1) 6; have hc652 : w636.cell? ⟨g635, 7, none⟩ = some (.int .i64 0) := blk_cellv (HS.out.at1) 7 rfl; have hz653 : w636.frozen? ⟨g635, 7, none⟩ = false := blk_fz (HS.out.at1) 7) | ((with_reducible refine gate_store (t := 38) (p := 7) rfl ?_); refine store_event (w1 := (World.setCell (World.setCell (World.setCell (World.setCell (World.setCell (World.setCell (World.setCell (World.setCell w636 ⟨g635, 0, none⟩ (.int .i64 t632.1)) ⟨g635, 1, none⟩ (.int .i64 t632.2.1)) ⟨g635, 2, none⟩ (.int .i64 t632.2.2.1)) ⟨g635, 3, none⟩ (.int .i64 t632.2.2.2.1)) ⟨g635, 4, none⟩ (.int .i64 t632.2.2.2.2.1)) ⟨g635, 5, none⟩ (.int .i64 t632.2.2.2.2.2.1)) ⟨g635, 6, none⟩ (.int .i64 t632.2.2.2.2.2.2.1)) ⟨g635, 7, none⟩ (.int .i64 t632.2.2.2.2.2.2.2.1))) rfl (t := 38) (p := 7) rfl rfl ?hr ?_; (case hr => first | (go_simp; done) | (go_simp; rfl)); intro w654 hst; clear hc638 hz639 hc640 hz641 hc642 hz643 hc644 hz645 hc646 hz647 hc648 hz649 hc650 hz651 hc652 hz653; have hq0 : Sep (fps []) w [blk g625 #[.int .i64 a619, .int .i64 a620, .int .i64 a621, .int .i64 a622] 32, blk g635 #[.int .i64 t632.1, .int .i64 0, .int .i64 0, .int .i64 0, .int .i64 0, .int .i64 0, .int .i64 0, .int .i64 0] 38] (World.setCell w636 ⟨g635, 0, none⟩ (.int .i64 t632.1)) := (HS.out).set1 (l1 := [blk g625 #[.int .i64 a619, .int .i64 a620, .int .i64 a621, .int .i64 a622] 32]) (l2 := []) 0 (.int .i64 t632.1); have hq1 : Sep (fps []) w [blk g625 #[.int .i64 a619, .int .i64 a620, .int .i64 a621, .int .i64 a622] 32, blk g635 #[.int .i64 t632.1, .int .i64 t632.2.1, .int .i64 0, .int .i64 0, .int .i64 0, .int .i64 0, .int .i64 0, .int .i64 0] 38] (World.setCell (World.setCell w636 ⟨g635, 0, none⟩ (.int .i64 t632.1)) ⟨g635, 1, none⟩ (.int .i64 t632.2.1)) := (hq0).set1 (l1 := [blk g625 #[.int .i64 a619, .int .i64 a620, .int .i64 a621, .int .i64 a622] 32]) (l2 := []) 1 (.int .i64 t632.2.1); have hq2 : Sep (fps []) w [blk g625 #[.int .i64 a619, .int .i64 a620, .int .i64 a621, .int .i64 a622] 32, blk g635 #[.int .i64 t632.1, .int .i64 t632.2.1, .int .i64 t632.2.2.1, .int .i64 0, .int .i64 0, .int .i64 0, .int .i64 0, .int .i64 0] 38] (World.setCell (World.setCell (World.setCell w636 ⟨g635, 0, none⟩ (.int .i64 t632.1)) ⟨g635, 1, none⟩ (.int .i64 t632.2.1)) ⟨g635, 2, none⟩ (.int .i64 t632.2.2.1)) := (hq1).set1 (l1 := [blk g625 #[.int .i64 a619, .int .i64 a620, .int .i64 a621, .int .i64 a622] 32]) (l2 := []) 2 (.int .i64 t632.2.2.1); have hq3 : Sep (fps []) w [blk g625 #[.int .i64 a619, .int .i64 a620, .int .i64 a621, .int .i64 a622] 32, blk g635 #[.int .i64 t632.1, .int .i64 t632.2.1, .int .i64 t632.2.2.1, .int .i64 t632.2.2.2.1, .int .i64 0, .int .i64 0, .int .i64 0, .int .i64 0] 38] (World.setCell (World.setCell (World.setCell (World.setCell w636 ⟨g635, 0, none⟩ (.int .i64 t632.1)) ⟨g635, 1, none⟩ (.int .i64 t632.2.1)) ⟨g635, 2, none⟩ (.int .i64 t632.2.2.1)) ⟨g635, 3, none⟩ (.int .i64 t632.2.2.2.1)) := (hq2).set1 (l1 := [blk g625 #[.int .i64 a619, .int .i64 a620, .int .i64 a621, .int .i64 a622] 32]) (l2 := []) 3 (.int .i64 t632.2.2.2.1); have hq4 : Sep (fps []) w [blk g625 #[.int .i64 a619, .int .i64 a620, .int .i64 a621, .int .i64 a622] 32, blk g635 #[.int .i64 t632.1, .int .i64 t632.2.1, .int .i64 t632.2.2.1, .int .i64 t632.2.2.2.1, .int .i64 t632.2.2.2.2.1, .int .i64 0, .int .i64 0, .int .i64 0] 38] (World.setCell (World.setCell (World.setCell (World.setCell (World.setCell w636 ⟨g635, 0, none⟩ (.int .i64 t632.1)) ⟨g635, 1, none⟩ (.int .i64 t632.2.1)) ⟨g635, 2, none⟩ (.int .i64 t632.2.2.1)) ⟨g635, 3, none⟩ (.int .i64 t632.2.2.2.1)) ⟨g635, 4, none⟩ (.int .i64 t632.2.2.2.2.1)) := (hq3).set1 (l1 := [blk g625 #[.int .i64 a619, .int .i64 a620, .int .i64 a621, .int .i64 a622] 32]) (l2 := []) 4 (.int .i64 t632.2.2.2.2.1); have hq5 : Sep (fps []) w [blk g625 #[.int .i64 a619, .int .i64 a620, .int .i64 a621, .int .i64 a622] 32, blk g635 #[.int .i64 t632.1, .int .i64 t632.2.1, .int .i64 t632.2.2.1, .int .i64 t632.2.2.2.1, .int .i64 t632.2.2.2.2.1, .int .i64 t632.2.2.2.2.2.1, .int .i64 0, .int .i64 0] 38] (World.setCell (World.setCell (World.setCell (World.setCell (World.setCell (World.setCell w636 ⟨g635, 0, none⟩ (.int .i64 t632.1)) ⟨g635, 1, none⟩ (.int .i64 t632.2.1)) ⟨g635, 2, none⟩ (.int .i64 t632.2.2.1)) ⟨g635, 3, none⟩ (.int .i64 t632.2.2.2.1)) ⟨g635, 4, none⟩ (.int .i64 t632.2.2.2.2.1)) ⟨g635, 5, none⟩ (.int .i64 t632.2.2.2.2.2.1)) := (hq4).set1 (l1 := [blk g625 #[.int .i64 a619, .int .i64 a620, .int .i64 a621, .int .i64 a622] 32]) (l2 := []) 5 (.int .i64 t632.2.2.2.2.2.1); have hq6 : Sep (fps []) w [blk g625 #[.int .i64 a619, .int .i64 a620, .int .i64 a621, .int .i64 a622] 32, blk g635 #[.int .i64 t632.1, .int .i64 t632.2.1, .int .i64 t632.2.2.1, .int .i64 t632.2.2.2.1, .int .i64 t632.2.2.2.2.1, .int .i64 t632.2.2.2.2.2.1, .int .i64 t632.2.2.2.2.2.2.1, .int .i64 0] 38] (World.setCell (World.setCell (World.setCell (World.setCell (World.setCell (World.setCell (World.setCell w636 ⟨g635, 0, none⟩ (.int .i64 t632.1)) ⟨g635, 1, none⟩ (.int .i64 t632.2.1)) ⟨g635, 2, none⟩ (.int .i64 t632.2.2.1)) ⟨g635, 3, none⟩ (.int .i64 t632.2.2.2.1)) ⟨g635, 4, none⟩ (.int .i64 t632.2.2.2.2.1)) ⟨g635, 5, none⟩ (.int .i64 t632.2.2.2.2.2.1)) ⟨g635, 6, none⟩ (.int .i64 t632.2.2.2.2.2.2.1)) := (hq5).set1 (l1 := [blk g625 #[.int .i64 a619, .int .i64 a620, .int .i64 a621, .int .i64 a622] 32]) (l2 := []) 6 (.int .i64 t632.2.2.2.2.2.2.1); have hq7 : Sep (fps []) w [blk g625 #[.int .i64 a619, .int .i64 a620, .int .i64 a621, .int .i64 a622] 32, blk g635 #[.int .i64 t632.1, .int .i64 t632.2.1, .int .i64 t632.2.2.1, .int .i64 t632.2.2.2.1, .int .i64 t632.2.2.2.2.1, .int .i64 t632.2.2.2.2.2.1, .int .i64 t632.2.2.2.2.2.2.1, .int .i64 t632.2.2.2.2.2.2.2.1] 38] (World.setCell (World.setCell (World.setCell (World.setCell (World.setCell (World.setCell (World.setCell (World.setCell w636 ⟨g635, 0, none⟩ (.int .i64 t632.1)) ⟨g635, 1, none⟩ (.int .i64 t632.2.1)) ⟨g635, 2, none⟩ (.int .i64 t632.2.2.1)) ⟨g635, 3, none⟩ (.int .i64 t632.2.2.2.1)) ⟨g635, 4, none⟩ (.int .i64 t632.2.2.2.2.1)) ⟨g635, 5, none⟩ (.int .i64 t632.2.2.2.2.2.1)) ⟨g635, 6, none⟩ (.int .i64 t632.2.2.2.2.2.2.1)) ⟨g635, 7, none⟩ (.int .i64 t632.2.2.2.2.2.2.2.1)) := (hq6).set1 (l1 := [blk g625 #[.int .i64 a619, .int .i64 a620, .int .i64 a621, .int .i64 a622] 32]) (l2 := []) 7 (.int .i64 t632.2.2.2.2.2.2.2.1); have HS_ : Aside0 (Sep (fps []) w [blk g625 #[.int .i64 a619, .int .i64 a620, .int .i64 a621, .int .i64 a622] 32, blk g635 #[.int .i64 t632.1, .int .i64 t632.2.1, .int .i64 t632.2.2.1, .int .i64 t632.2.2.2.1, .int .i64 t632.2.2.2.2.1, .int .i64 t632.2.2.2.2.2.1, .int .i64 t632.2.2.2.2.2.2.1, .int .i64 t632.2.2.2.2.2.2.2.1] 38] w654) := ⟨by rw [hst]; exact hq7⟩; clear hq0 hq1 hq2 hq3 hq4 hq5 hq6 hq7; clear HS hst; have HS := HS_; clear HS_))
    obtain ⟨t656, HA657, H⟩ := bind_some H
    refine (plan_within.calls a623 1 10 t656 _ ⟨HS.out.begin (l := []) (rest := [blk g625 #[.int .i64 a619, .int .i64 a620, .int .i64 a621, .int .i64 a622] 32, blk g635 #[.int .i64 t632.1, .int .i64 t632.2.1, .int .i64 t632.2.2.1, .int .i64 t632.2.2.2.1, .int .i64 t632.2.2.2.2.1, .int .i64 t632.2.2.2.2.2.1, .int .i64 t632.2.2.2.2.2.2.1, .int .i64 t632.2.2.2.2.2.2.2.1] 38])⟩ HA657).mono ?_
    rintro e_ w658 ⟨rfl, hS⟩
    have HS_ : Aside0 (Sep (fps []) w [blk g625 #[.int .i64 a619, .int .i64 a620, .int .i64 a621, .int .i64 a622] 32, blk g635 #[.int .i64 t632.1, .int .i64 t632.2.1, .int .i64 t632.2.2.1, .int .i64 t632.2.2.2.1, .int .i64 t632.2.2.2.2.1, .int .i64 t632.2.2.2.2.2.1, .int .i64 t632.2.2.2.2.2.2.1, .int .i64 t632.2.2.2.2.2.2.2.1] 38] w658) := ⟨HS.out.call (l := []) (rest := [blk g625 #[.int .i64 a619, .int .i64 a620, .int .i64 a621, .int .i64 a622] 32, blk g635 #[.int .i64 t632.1, .int .i64 t632.2.1, .int .i64 t632.2.2.1, .int .i64 t632.2.2.2.1, .int .i64 t632.2.2.2.2.1, .int .i64 t632.2.2.2.2.2.1, .int .i64 t632.2.2.2.2.2.2.1, .int .i64 t632.2.2.2.2.2.2.2.1] 38]) hS⟩
    clear HS hS
    have HS := HS_
    clear HS_
    by_cases c659 : t656 = true
    · have H := if_yes c659 H
      have c659b0 : t656 = true := c659
      clear c659
      by_cases c660 : a623 = 1
      · have H := if_yes c660 H
        have c660b0 : (a623 == 1) = true := beq_iff_eq.mpr c660
        have c660b1 : (a623 != 1) = false := bne_eq_false_iff_eq.mpr c660
        clear c660
        go_wp2_with fail
        refine start_ (n := 16) (S := (fun w' => w'.cell? ⟨g635, 2, none⟩ = some (.int .i64 t632.2.2.1) ∧ w'.cell? ⟨g625, 1, none⟩ = some (.int .i64 a620) ∧ w'.cell? ⟨g625, 3, none⟩ = some (.int .i64 a622))) (ds := []) #[false, false, false, false, false, false, false, false, false, false, false, false, false, false, false, false] (by kernel_rfl) rfl rfl (⟨blk_cellv ((HS.out.drew).at1) 2 rfl, blk_cellv ((HS.out.drew).at0) 1 rfl, blk_cellv ((HS.out.drew).at0) 3 rfl⟩) (fun hHeld => ?_)
        have HS_ := Aside0.mk HS.out.drew
        clear HS
        generalize World.drew _ = w662 at HS_ hHeld ⊢
        have HS := HS_
        clear HS_
        refine pure_ (i := 0) (N := some 24) (v := ?_) (a' := ?_) #[true, false, false, false, false, false, false, false, false, false, false, false, false, false, false, false] rfl rfl (by kernel_rfl) (fun _ _ _ h => h) (Or.inl ⟨by rfl, ?_⟩) ?_ ?_
        rotate_left
        · intro w'
          go_simp
          with_reducible rfl
        rotate_left
        · simp only [Act.put, List.setIfInBounds_toArray, List.set_cons_zero, List.set_cons_succ, i64_w, i32_w]
          rfl
        refine pure_ (i := 1) (N := some 25) (v := ?_) (a' := ?_) #[true, true, false, false, false, false, false, false, false, false, false, false, false, false, false, false] rfl rfl (by kernel_rfl) (fun _ _ _ h => h) (Or.inl ⟨by rfl, ?_⟩) ?_ ?_
        rotate_left
        · intro w'
          go_simp
          with_reducible rfl
        rotate_left
        · simp only [Act.put, List.setIfInBounds_toArray, List.set_cons_zero, List.set_cons_succ, i64_w, i32_w]
          rfl
        refine pure_ (i := 4) (N := some 28) (v := ?_) (a' := ?_) #[true, true, false, false, true, false, false, false, false, false, false, false, false, false, false, false] rfl rfl (by kernel_rfl) (fun _ _ _ h => h) (Or.inl ⟨by rfl, ?_⟩) ?_ ?_
        rotate_left
        · intro w'
          go_simp
          with_reducible rfl
        rotate_left
        · simp only [Act.put, List.setIfInBounds_toArray, List.set_cons_zero, List.set_cons_succ, i64_w, i32_w]
          rfl
        refine pure_ (i := 6) (N := some 30) (v := ?_) (a' := ?_) #[true, true, false, false, true, false, true, false, false, false, false, false, false, false, false, false] rfl rfl (by kernel_rfl) (fun _ _ _ h => h) (Or.inl ⟨by rfl, ?_⟩) ?_ ?_
        rotate_left
        · intro w'
          go_simp
          with_reducible rfl
        rotate_left
        · simp only [Act.put, List.setIfInBounds_toArray, List.set_cons_zero, List.set_cons_succ, i64_w, i32_w]
          rfl
        refine take_ (i := 2) (N := some 26) (v := ?_) (a' := ?_) #[true, true, true, false, true, false, true, false, false, false, false, false, false, false, false, false] rfl rfl (by kernel_rfl) (fun _ _ _ h => h) (Or.inl ⟨by rfl, ?_⟩) hHeld ?_ ?_
        rotate_left
        · rintro w' hS'
          obtain ⟨s0, s1, s2⟩ := hS'
          go_simp
          with_reducible rfl
        rotate_left
        · simp only [Act.put, List.setIfInBounds_toArray, List.set_cons_zero, List.set_cons_succ, i64_w, i32_w]
          rfl
        refine take_ (i := 5) (N := some 29) (v := ?_) (a' := ?_) #[true, true, true, false, true, true, true, false, false, false, false, false, false, false, false, false] rfl rfl (by kernel_rfl) (fun _ _ _ h => h) (Or.inl ⟨by rfl, ?_⟩) hHeld ?_ ?_
        rotate_left
        · rintro w' hS'
          obtain ⟨s0, s1, s2⟩ := hS'
          go_simp
          with_reducible rfl
        rotate_left
        · simp only [Act.put, List.setIfInBounds_toArray, List.set_cons_zero, List.set_cons_succ, i64_w, i32_w]
          rfl
        refine take_ (i := 7) (N := some 31) (v := ?_) (a' := ?_) #[true, true, true, false, true, true, true, true, false, false, false, false, false, false, false, false] rfl rfl (by kernel_rfl) (fun _ _ _ h => h) (Or.inl ⟨by rfl, ?_⟩) hHeld ?_ ?_
        rotate_left
        · rintro w' hS'
          obtain ⟨s0, s1, s2⟩ := hS'
          go_simp
          with_reducible rfl
        rotate_left
        · simp only [Act.put, List.setIfInBounds_toArray, List.set_cons_zero, List.set_cons_succ, i64_w, i32_w]
          rfl
        refine pure_ (i := 8) (N := some 32) (v := ?_) (a' := ?_) #[true, true, true, false, true, true, true, true, true, false, false, false, false, false, false, false] rfl rfl (by kernel_rfl) (fun _ _ _ h => h) (Or.inl ⟨by rfl, ?_⟩) ?_ ?_
        rotate_left
        · intro w'
          go_simp
          with_reducible rfl
        rotate_left
        · simp only [Act.put, List.setIfInBounds_toArray, List.set_cons_zero, List.set_cons_succ, i64_w, i32_w]
          rfl
        refine pure_ (i := 9) (N := some 33) (v := ?_) (a' := ?_) #[true, true, true, false, true, true, true, true, true, true, false, false, false, false, false, false] rfl rfl (by kernel_rfl) (fun _ _ _ h => h) (Or.inl ⟨by rfl, ?_⟩) ?_ ?_
        rotate_left
        · intro w'
          go_simp
          with_reducible rfl
        rotate_left
        · simp only [Act.put, List.setIfInBounds_toArray, List.set_cons_zero, List.set_cons_succ, i64_w, i32_w]
          rfl
        refine pure_ (i := 10) (N := some 34) (v := ?_) (a' := ?_) #[true, true, true, false, true, true, true, true, true, true, true, false, false, false, false, false] rfl rfl (by kernel_rfl) (fun _ _ _ h => h) (Or.inl ⟨by rfl, ?_⟩) ?_ ?_
        rotate_left
        · intro w'
          go_simp
          with_reducible rfl
        rotate_left
        · simp only [Act.put, List.setIfInBounds_toArray, List.set_cons_zero, List.set_cons_succ, i64_w, i32_w]
          rfl
        refine one_ (i := 3) (N := some 27) #[true, true, true, true, true, true, true, true, true, true, true, false, false, false, false, false] rfl rfl (by kernel_rfl) (by decide) (fun K hK => ?_)
        obtain ⟨t663, HA664, H⟩ := bind_some H
        refine goes_ Try.func43 (by kernel_rfl) rfl #[.int .i64 a624, .int .i64 0, .int .i64 t632.2.2.1] (by rfl) rfl rfl (by (try simp only [List.map_toArray, List.map_cons, List.map_nil]); first | done | rfl) ?_
        refine (ratio_Clamp.calls a624 0 t632.2.2.1 t663 _ ⟨HS.out.begin (l := []) (rest := [blk g625 #[.int .i64 a619, .int .i64 a620, .int .i64 a621, .int .i64 a622] 32, blk g635 #[.int .i64 t632.1, .int .i64 t632.2.1, .int .i64 t632.2.2.1, .int .i64 t632.2.2.2.1, .int .i64 t632.2.2.2.2.1, .int .i64 t632.2.2.2.2.2.1, .int .i64 t632.2.2.2.2.2.2.1, .int .i64 t632.2.2.2.2.2.2.2.1] 38])⟩ HA664).mono ?_
        rintro e_ w665 ⟨rfl, hS⟩
        have HS_ : Aside0 (Sep (fps []) w [blk g625 #[.int .i64 a619, .int .i64 a620, .int .i64 a621, .int .i64 a622] 32, blk g635 #[.int .i64 t632.1, .int .i64 t632.2.1, .int .i64 t632.2.2.1, .int .i64 t632.2.2.2.1, .int .i64 t632.2.2.2.2.1, .int .i64 t632.2.2.2.2.2.1, .int .i64 t632.2.2.2.2.2.2.1, .int .i64 t632.2.2.2.2.2.2.2.1] 38] w665) := ⟨HS.out.call (l := []) (rest := [blk g625 #[.int .i64 a619, .int .i64 a620, .int .i64 a621, .int .i64 a622] 32, blk g635 #[.int .i64 t632.1, .int .i64 t632.2.1, .int .i64 t632.2.2.1, .int .i64 t632.2.2.2.1, .int .i64 t632.2.2.2.2.1, .int .i64 t632.2.2.2.2.2.1, .int .i64 t632.2.2.2.2.2.2.1, .int .i64 t632.2.2.2.2.2.2.2.1] 38]) hS⟩
        clear HS hS
        have HS := HS_
        clear HS_
        refine ⟨_, rfl, ?_⟩
        refine hK.out _ _ (⟨blk_cellv (HS.out.at1) 2 rfl, blk_cellv (HS.out.at0) 1 rfl, blk_cellv (HS.out.at0) 3 rfl⟩) (fun hHeld => ?_)
        clear hK K
        refine norm_ (a' := ?_) ?_ ?_
        rotate_left
        · show Act.put _ (some 27) _ = _
          simp only [Act.put, List.setIfInBounds_toArray, List.set_cons_zero, List.set_cons_succ, i64_w, i32_w]
          rfl
        refine one_ (i := 11) (N := some 35) #[true, true, true, true, true, true, true, true, true, true, true, true, false, false, false, false] rfl rfl (by kernel_rfl) (by decide) (fun K hK => ?_)
        refine slice_step (n := 2) (by rfl) (N := 35) rfl (cs := #[.int .i64 t663, .int .i64 (wrap64 (256 + (wrap64 (100 * (wrap64 (a620 + a622))))))]) (t := 3) ?hr ?_
        case hr => first | (go_simp; done) | (go_simp; rfl)
        intro g666 hg w667 hbox hb
        have HS_ : Aside0 (Sep (fps []) w [blk g625 #[.int .i64 a619, .int .i64 a620, .int .i64 a621, .int .i64 a622] 32, blk g635 #[.int .i64 t632.1, .int .i64 t632.2.1, .int .i64 t632.2.2.1, .int .i64 t632.2.2.2.1, .int .i64 t632.2.2.2.2.1, .int .i64 t632.2.2.2.2.2.1, .int .i64 t632.2.2.2.2.2.2.1, .int .i64 t632.2.2.2.2.2.2.2.1] 38, blk g666 #[.int .i64 t663, .int .i64 (wrap64 (256 + (wrap64 (100 * (wrap64 (a620 + a622))))))] 3] w667) := ⟨HS.out.box hg hbox hb⟩
        clear HS hg hbox hb
        have HS := HS_
        clear HS_
        refine hK.out _ _ (⟨blk_cellv (HS.out.at1) 2 rfl, blk_cellv (HS.out.at0) 1 rfl, blk_cellv (HS.out.at0) 3 rfl⟩) (fun hHeld => ?_)
        clear hK K
        refine norm_ (a' := ?_) ?_ ?_
        rotate_left
        · show Act.put _ (some 35) _ = _
          simp only [Act.put, List.setIfInBounds_toArray, List.set_cons_zero, List.set_cons_succ, i64_w, i32_w]
          rfl
        refine one_ (i := 12) (N := some 36) #[true, true, true, true, true, true, true, true, true, true, true, true, true, false, false, false] rfl rfl (by kernel_rfl) (by decide) (fun K hK => ?_)
        obtain ⟨t669, HA670, H⟩ := bind_some H
        refine goes_ Try.func42 (by kernel_rfl) rfl #[.slice (some ⟨g666, 0, none⟩) 2 2] (by rfl) rfl rfl (by (try simp only [List.map_toArray, List.map_cons, List.map_nil]); first | done | rfl) ?_
        refine (ratio_Mul.calls _ [t663, wrap64 (256 + (wrap64 (100 * (wrap64 (a620 + a622)))))] (some ⟨g666, 0, none⟩) 2 t669 _ ⟨C_of_blk (xs := [t663, wrap64 (256 + (wrap64 (100 * (wrap64 (a620 + a622)))))]) (HS.out.at2) (by simp)⟩ ⟨HS.out.begin (l := []) (rest := [blk g625 #[.int .i64 a619, .int .i64 a620, .int .i64 a621, .int .i64 a622] 32, blk g635 #[.int .i64 t632.1, .int .i64 t632.2.1, .int .i64 t632.2.2.1, .int .i64 t632.2.2.2.1, .int .i64 t632.2.2.2.2.1, .int .i64 t632.2.2.2.2.2.1, .int .i64 t632.2.2.2.2.2.2.1, .int .i64 t632.2.2.2.2.2.2.2.1] 38, blk g666 #[.int .i64 t663, .int .i64 (wrap64 (256 + (wrap64 (100 * (wrap64 (a620 + a622))))))] 3])⟩ HA670).mono ?_
        rintro e_ w671 ⟨rfl, hS⟩
        have HS_ : Aside0 (Sep (fps []) w [blk g625 #[.int .i64 a619, .int .i64 a620, .int .i64 a621, .int .i64 a622] 32, blk g635 #[.int .i64 t632.1, .int .i64 t632.2.1, .int .i64 t632.2.2.1, .int .i64 t632.2.2.2.1, .int .i64 t632.2.2.2.2.1, .int .i64 t632.2.2.2.2.2.1, .int .i64 t632.2.2.2.2.2.2.1, .int .i64 t632.2.2.2.2.2.2.2.1] 38, blk g666 #[.int .i64 t663, .int .i64 (wrap64 (256 + (wrap64 (100 * (wrap64 (a620 + a622))))))] 3] w671) := ⟨HS.out.call (l := []) (rest := [blk g625 #[.int .i64 a619, .int .i64 a620, .int .i64 a621, .int .i64 a622] 32, blk g635 #[.int .i64 t632.1, .int .i64 t632.2.1, .int .i64 t632.2.2.1, .int .i64 t632.2.2.2.1, .int .i64 t632.2.2.2.2.1, .int .i64 t632.2.2.2.2.2.1, .int .i64 t632.2.2.2.2.2.2.1, .int .i64 t632.2.2.2.2.2.2.2.1] 38, blk g666 #[.int .i64 t663, .int .i64 (wrap64 (256 + (wrap64 (100 * (wrap64 (a620 + a622))))))] 3]) hS⟩
        clear HS hS
        have HS := HS_
        clear HS_
        refine ⟨_, rfl, ?_⟩
        refine hK.out _ _ (⟨blk_cellv (HS.out.at1) 2 rfl, blk_cellv (HS.out.at0) 1 rfl, blk_cellv (HS.out.at0) 3 rfl⟩) (fun hHeld => ?_)
        clear hK K
        refine norm_ (a' := ?_) ?_ ?_
        rotate_left
        · show Act.put _ (some 36) _ = _
          simp only [Act.put, List.setIfInBounds_toArray, List.set_cons_zero, List.set_cons_succ, i64_w, i32_w]
          rfl
        refine one_ (i := 13) (N := some 37) #[true, true, true, true, true, true, true, true, true, true, true, true, true, true, false, false] rfl rfl (by kernel_rfl) (by decide) (fun K hK => ?_)
        refine slice_step (n := 2) (by rfl) (N := 37) rfl (cs := #[.int .i64 512, .int .i64 t669]) (t := 3) ?hr ?_
        case hr => first | (go_simp; done) | (go_simp; rfl)
        intro g672 hg w673 hbox hb
        have HS_ : Aside0 (Sep (fps []) w [blk g625 #[.int .i64 a619, .int .i64 a620, .int .i64 a621, .int .i64 a622] 32, blk g635 #[.int .i64 t632.1, .int .i64 t632.2.1, .int .i64 t632.2.2.1, .int .i64 t632.2.2.2.1, .int .i64 t632.2.2.2.2.1, .int .i64 t632.2.2.2.2.2.1, .int .i64 t632.2.2.2.2.2.2.1, .int .i64 t632.2.2.2.2.2.2.2.1] 38, blk g666 #[.int .i64 t663, .int .i64 (wrap64 (256 + (wrap64 (100 * (wrap64 (a620 + a622))))))] 3, blk g672 #[.int .i64 512, .int .i64 t669] 3] w673) := ⟨HS.out.box hg hbox hb⟩
        clear HS hg hbox hb
        have HS := HS_
        clear HS_
        refine hK.out _ _ (⟨blk_cellv (HS.out.at1) 2 rfl, blk_cellv (HS.out.at0) 1 rfl, blk_cellv (HS.out.at0) 3 rfl⟩) (fun hHeld => ?_)
        clear hK K
        refine norm_ (a' := ?_) ?_ ?_
        rotate_left
        · show Act.put _ (some 37) _ = _
          simp only [Act.put, List.setIfInBounds_toArray, List.set_cons_zero, List.set_cons_succ, i64_w, i32_w]
          rfl
        refine one_ (i := 14) (N := some 38) #[true, true, true, true, true, true, true, true, true, true, true, true, true, true, true, false] rfl rfl (by kernel_rfl) (by decide) (fun K hK => ?_)
        obtain ⟨t675, HA676, H⟩ := bind_some H
        refine goes_ Try.func41 (by kernel_rfl) rfl #[.slice (some ⟨g672, 0, none⟩) 2 2] (by rfl) rfl rfl (by (try simp only [List.map_toArray, List.map_cons, List.map_nil]); first | done | rfl) ?_
        refine (ratio_Add.calls _ [512, t669] (some ⟨g672, 0, none⟩) 2 t675 _ ⟨C_of_blk (xs := [512, t669]) (HS.out.at3) (by simp)⟩ ⟨HS.out.begin (l := []) (rest := [blk g625 #[.int .i64 a619, .int .i64 a620, .int .i64 a621, .int .i64 a622] 32, blk g635 #[.int .i64 t632.1, .int .i64 t632.2.1, .int .i64 t632.2.2.1, .int .i64 t632.2.2.2.1, .int .i64 t632.2.2.2.2.1, .int .i64 t632.2.2.2.2.2.1, .int .i64 t632.2.2.2.2.2.2.1, .int .i64 t632.2.2.2.2.2.2.2.1] 38, blk g666 #[.int .i64 t663, .int .i64 (wrap64 (256 + (wrap64 (100 * (wrap64 (a620 + a622))))))] 3, blk g672 #[.int .i64 512, .int .i64 t669] 3])⟩ HA676).mono ?_
        rintro e_ w677 ⟨rfl, hS⟩
        have HS_ : Aside0 (Sep (fps []) w [blk g625 #[.int .i64 a619, .int .i64 a620, .int .i64 a621, .int .i64 a622] 32, blk g635 #[.int .i64 t632.1, .int .i64 t632.2.1, .int .i64 t632.2.2.1, .int .i64 t632.2.2.2.1, .int .i64 t632.2.2.2.2.1, .int .i64 t632.2.2.2.2.2.1, .int .i64 t632.2.2.2.2.2.2.1, .int .i64 t632.2.2.2.2.2.2.2.1] 38, blk g666 #[.int .i64 t663, .int .i64 (wrap64 (256 + (wrap64 (100 * (wrap64 (a620 + a622))))))] 3, blk g672 #[.int .i64 512, .int .i64 t669] 3] w677) := ⟨HS.out.call (l := []) (rest := [blk g625 #[.int .i64 a619, .int .i64 a620, .int .i64 a621, .int .i64 a622] 32, blk g635 #[.int .i64 t632.1, .int .i64 t632.2.1, .int .i64 t632.2.2.1, .int .i64 t632.2.2.2.1, .int .i64 t632.2.2.2.2.1, .int .i64 t632.2.2.2.2.2.1, .int .i64 t632.2.2.2.2.2.2.1, .int .i64 t632.2.2.2.2.2.2.2.1] 38, blk g666 #[.int .i64 t663, .int .i64 (wrap64 (256 + (wrap64 (100 * (wrap64 (a620 + a622))))))] 3, blk g672 #[.int .i64 512, .int .i64 t669] 3]) hS⟩
        clear HS hS
        have HS := HS_
        clear HS_
        refine ⟨_, rfl, ?_⟩
        refine hK.out _ _ (⟨blk_cellv (HS.out.at1) 2 rfl, blk_cellv (HS.out.at0) 1 rfl, blk_cellv (HS.out.at0) 3 rfl⟩) (fun hHeld => ?_)
        clear hK K
        refine norm_ (a' := ?_) ?_ ?_
        rotate_left
        · show Act.put _ (some 38) _ = _
          simp only [Act.put, List.setIfInBounds_toArray, List.set_cons_zero, List.set_cons_succ, i64_w, i32_w]
          rfl
        refine pure_ (i := 15) (N := some 6) (v := ?_) (a' := ?_) #[true, true, true, true, true, true, true, true, true, true, true, true, true, true, true, true] rfl rfl (by kernel_rfl) (fun _ _ _ h => h) (Or.inl ⟨by rfl, ?_⟩) ?_ ?_
        rotate_left
        · intro w'
          go_simp
          with_reducible rfl
        rotate_left
        · simp only [Act.put, List.setIfInBounds_toArray, List.set_cons_zero, List.set_cons_succ, i64_w, i32_w]
          rfl
        refine done_ (by kernel_rfl) ?_
        go_wp2_with fail
        go_ret
        rw [← some_eq H]
        exact ⟨(by first | rfl | (simp [IntKind.wrap_u32]; done)), (HS.out).keep (l := []) (rest := [blk g625 #[.int .i64 a619, .int .i64 a620, .int .i64 a621, .int .i64 a622] 32, blk g635 #[.int .i64 t632.1, .int .i64 t632.2.1, .int .i64 t632.2.2.1, .int .i64 t632.2.2.2.1, .int .i64 t632.2.2.2.2.1, .int .i64 t632.2.2.2.2.2.1, .int .i64 t632.2.2.2.2.2.2.1, .int .i64 t632.2.2.2.2.2.2.2.1] 38, blk g666 #[.int .i64 t663, .int .i64 (wrap64 (256 + (wrap64 (100 * (wrap64 (a620 + a622))))))] 3, blk g672 #[.int .i64 512, .int .i64 t669] 3])⟩
      · have H := if_no c660 H
        have c660b0 : (a623 == 1) = false := beq_eq_false_iff_ne.mpr c660
        have c660b1 : (a623 != 1) = true := bne_iff_ne.mpr c660
        clear c660
        by_cases c678 : a623 = 10
        · have H := if_yes c678 H
          have c678b0 : (a623 == 10) = true := beq_iff_eq.mpr c678
          have c678b1 : (a623 != 10) = false := bne_eq_false_iff_eq.mpr c678
          clear c678
          have hc679 : w658.cell? ⟨g625, 3, none⟩ = some (.int .i64 a622) := blk_cellv (HS.out.at0) 3 rfl
          go_wp2_with (first | ((with_reducible refine gate_dst (N := 43) rfl ?_); refine slice_on (n := 2) ?hg (N := 43) ?hd (cs := #[.int .i64 200, .int .i64 a622]) (t := 3) ?hr ?_; (case hd => rfl); (case hg => rfl); (case hr => first | (go_simp; done) | (go_simp; rfl)); intro g680 hg w681 hbox hb; clear hc679; have HS_ : Aside0 (Sep (fps []) w [blk g625 #[.int .i64 a619, .int .i64 a620, .int .i64 a621, .int .i64 a622] 32, blk g635 #[.int .i64 t632.1, .int .i64 t632.2.1, .int .i64 t632.2.2.1, .int .i64 t632.2.2.2.1, .int .i64 t632.2.2.2.2.1, .int .i64 t632.2.2.2.2.2.1, .int .i64 t632.2.2.2.2.2.2.1, .int .i64 t632.2.2.2.2.2.2.2.1] 38, blk g680 #[.int .i64 200, .int .i64 a622] 3] w681) := ⟨HS.out.box hg hbox hb⟩; clear HS hg hbox hb; have HS := HS_; clear HS_))
          obtain ⟨t683, HA684, H⟩ := bind_some H
          refine (ratio_Mul.calls _ [200, a622] (some ⟨g680, 0, none⟩) 2 t683 _ ⟨C_of_blk (xs := [200, a622]) (HS.out.at2) (by simp)⟩ ⟨HS.out.begin (l := []) (rest := [blk g625 #[.int .i64 a619, .int .i64 a620, .int .i64 a621, .int .i64 a622] 32, blk g635 #[.int .i64 t632.1, .int .i64 t632.2.1, .int .i64 t632.2.2.1, .int .i64 t632.2.2.2.1, .int .i64 t632.2.2.2.2.1, .int .i64 t632.2.2.2.2.2.1, .int .i64 t632.2.2.2.2.2.2.1, .int .i64 t632.2.2.2.2.2.2.2.1] 38, blk g680 #[.int .i64 200, .int .i64 a622] 3])⟩ HA684).mono ?_
          rintro e_ w685 ⟨rfl, hS⟩
          have HS_ : Aside0 (Sep (fps []) w [blk g625 #[.int .i64 a619, .int .i64 a620, .int .i64 a621, .int .i64 a622] 32, blk g635 #[.int .i64 t632.1, .int .i64 t632.2.1, .int .i64 t632.2.2.1, .int .i64 t632.2.2.2.1, .int .i64 t632.2.2.2.2.1, .int .i64 t632.2.2.2.2.2.1, .int .i64 t632.2.2.2.2.2.2.1, .int .i64 t632.2.2.2.2.2.2.2.1] 38, blk g680 #[.int .i64 200, .int .i64 a622] 3] w685) := ⟨HS.out.call (l := []) (rest := [blk g625 #[.int .i64 a619, .int .i64 a620, .int .i64 a621, .int .i64 a622] 32, blk g635 #[.int .i64 t632.1, .int .i64 t632.2.1, .int .i64 t632.2.2.1, .int .i64 t632.2.2.2.1, .int .i64 t632.2.2.2.2.1, .int .i64 t632.2.2.2.2.2.1, .int .i64 t632.2.2.2.2.2.2.1, .int .i64 t632.2.2.2.2.2.2.2.1] 38, blk g680 #[.int .i64 200, .int .i64 a622] 3]) hS⟩
          clear HS hS
          have HS := HS_
          clear HS_
          go_wp2_with (first | ((with_reducible refine gate_dst (N := 45) rfl ?_); refine slice_on (n := 2) ?hg (N := 45) ?hd (cs := #[.int .i64 256, .int .i64 t683]) (t := 3) ?hr ?_; (case hd => rfl); (case hg => rfl); (case hr => first | (go_simp; done) | (go_simp; rfl)); intro g686 hg w687 hbox hb; have HS_ : Aside0 (Sep (fps []) w [blk g625 #[.int .i64 a619, .int .i64 a620, .int .i64 a621, .int .i64 a622] 32, blk g635 #[.int .i64 t632.1, .int .i64 t632.2.1, .int .i64 t632.2.2.1, .int .i64 t632.2.2.2.1, .int .i64 t632.2.2.2.2.1, .int .i64 t632.2.2.2.2.2.1, .int .i64 t632.2.2.2.2.2.2.1, .int .i64 t632.2.2.2.2.2.2.2.1] 38, blk g680 #[.int .i64 200, .int .i64 a622] 3, blk g686 #[.int .i64 256, .int .i64 t683] 3] w687) := ⟨HS.out.box hg hbox hb⟩; clear HS hg hbox hb; have HS := HS_; clear HS_))
          obtain ⟨t689, HA690, H⟩ := bind_some H
          refine (ratio_Add.calls _ [256, t683] (some ⟨g686, 0, none⟩) 2 t689 _ ⟨C_of_blk (xs := [256, t683]) (HS.out.at3) (by simp)⟩ ⟨HS.out.begin (l := []) (rest := [blk g625 #[.int .i64 a619, .int .i64 a620, .int .i64 a621, .int .i64 a622] 32, blk g635 #[.int .i64 t632.1, .int .i64 t632.2.1, .int .i64 t632.2.2.1, .int .i64 t632.2.2.2.1, .int .i64 t632.2.2.2.2.1, .int .i64 t632.2.2.2.2.2.1, .int .i64 t632.2.2.2.2.2.2.1, .int .i64 t632.2.2.2.2.2.2.2.1] 38, blk g680 #[.int .i64 200, .int .i64 a622] 3, blk g686 #[.int .i64 256, .int .i64 t683] 3])⟩ HA690).mono ?_
          rintro e_ w691 ⟨rfl, hS⟩
          have HS_ : Aside0 (Sep (fps []) w [blk g625 #[.int .i64 a619, .int .i64 a620, .int .i64 a621, .int .i64 a622] 32, blk g635 #[.int .i64 t632.1, .int .i64 t632.2.1, .int .i64 t632.2.2.1, .int .i64 t632.2.2.2.1, .int .i64 t632.2.2.2.2.1, .int .i64 t632.2.2.2.2.2.1, .int .i64 t632.2.2.2.2.2.2.1, .int .i64 t632.2.2.2.2.2.2.2.1] 38, blk g680 #[.int .i64 200, .int .i64 a622] 3, blk g686 #[.int .i64 256, .int .i64 t683] 3] w691) := ⟨HS.out.call (l := []) (rest := [blk g625 #[.int .i64 a619, .int .i64 a620, .int .i64 a621, .int .i64 a622] 32, blk g635 #[.int .i64 t632.1, .int .i64 t632.2.1, .int .i64 t632.2.2.1, .int .i64 t632.2.2.2.1, .int .i64 t632.2.2.2.2.1, .int .i64 t632.2.2.2.2.2.1, .int .i64 t632.2.2.2.2.2.2.1, .int .i64 t632.2.2.2.2.2.2.2.1] 38, blk g680 #[.int .i64 200, .int .i64 a622] 3, blk g686 #[.int .i64 256, .int .i64 t683] 3]) hS⟩
          clear HS hS
          have HS := HS_
          clear HS_
          go_wp2_with fail
          go_ret
          rw [← some_eq H]
          exact ⟨(by first | rfl | (simp [IntKind.wrap_u32]; done)), (HS.out).keep (l := []) (rest := [blk g625 #[.int .i64 a619, .int .i64 a620, .int .i64 a621, .int .i64 a622] 32, blk g635 #[.int .i64 t632.1, .int .i64 t632.2.1, .int .i64 t632.2.2.1, .int .i64 t632.2.2.2.1, .int .i64 t632.2.2.2.2.1, .int .i64 t632.2.2.2.2.2.1, .int .i64 t632.2.2.2.2.2.2.1, .int .i64 t632.2.2.2.2.2.2.2.1] 38, blk g680 #[.int .i64 200, .int .i64 a622] 3, blk g686 #[.int .i64 256, .int .i64 t683] 3])⟩
        · have H := if_no c678 H
          have c678b0 : (a623 == 10) = false := beq_eq_false_iff_ne.mpr c678
          have c678b1 : (a623 != 10) = true := bne_iff_ne.mpr c678
          clear c678
          go_wp2_with fail
          go_ret
          rw [← some_eq H]
          exact ⟨(by first | rfl | (simp [IntKind.wrap_u32]; done)), (HS.out).keep (l := []) (rest := [blk g625 #[.int .i64 a619, .int .i64 a620, .int .i64 a621, .int .i64 a622] 32, blk g635 #[.int .i64 t632.1, .int .i64 t632.2.1, .int .i64 t632.2.2.1, .int .i64 t632.2.2.2.1, .int .i64 t632.2.2.2.2.1, .int .i64 t632.2.2.2.2.2.1, .int .i64 t632.2.2.2.2.2.2.1, .int .i64 t632.2.2.2.2.2.2.2.1] 38])⟩
    · have H := if_no c659 H
      have c659b0 : t656 = false := by simpa using c659
      clear c659
      go_wp2_with fail
      go_ret
      rw [← some_eq H]
      exact ⟨(by first | rfl | (simp [IntKind.wrap_u32]; done)), (HS.out).keep (l := []) (rest := [blk g625 #[.int .i64 a619, .int .i64 a620, .int .i64 a621, .int .i64 a622] 32, blk g635 #[.int .i64 t632.1, .int .i64 t632.2.1, .int .i64 t632.2.2.1, .int .i64 t632.2.2.2.1, .int .i64 t632.2.2.2.2.1, .int .i64 t632.2.2.2.2.2.1, .int .i64 t632.2.2.2.2.2.2.1, .int .i64 t632.2.2.2.2.2.2.2.1] 38])⟩
  · have H := if_no c655 H
    have c655b0 : (t632.2.2.2.2.2.2.2.2 == 0) = false := beq_eq_false_iff_ne.mpr c655
    have c655b1 : (t632.2.2.2.2.2.2.2.2 != 0) = true := bne_iff_ne.mpr c655
    clear c655
    go_wp2_with (first | ((with_reducible refine gate_dst (N := 7) rfl ?_); refine box_on ?hg (N := 7) ?hd (cs := #[.int .i64 0, .int .i64 0, .int .i64 0, .int .i64 0, .int .i64 0, .int .i64 0, .int .i64 0, .int .i64 0]) (t := 38) ?hr ?_; (case hd => rfl); (case hg => rfl); (case hr => first | (go_simp; done) | (go_simp; rfl)); intro g635 hg w636 hbox hb; have HS_ : Aside0 (Sep (fps []) w [blk g625 #[.int .i64 a619, .int .i64 a620, .int .i64 a621, .int .i64 a622] 32, blk g635 #[.int .i64 0, .int .i64 0, .int .i64 0, .int .i64 0, .int .i64 0, .int .i64 0, .int .i64 0, .int .i64 0] 38] w636) := ⟨HS.out.box hg hbox hb⟩; clear HS hg hbox hb; have HS := HS_; clear HS_; have hc638 : w636.cell? ⟨g635, 0, none⟩ = some (.int .i64 0) := blk_cellv (HS.out.at1) 0 rfl; have hz639 : w636.frozen? ⟨g635, 0, none⟩ = false := blk_fz (HS.out.at1) 0; have hc640 : w636.cell? ⟨g635, 1, none⟩ = some (.int .i64 0) := blk_cellv (HS.out.at1) 1 rfl; have hz641 : w636.frozen? ⟨g635, 1, none⟩ = false := blk_fz (HS.out.at1) 1; have hc642 : w636.cell? ⟨g635, 2, none⟩ = some (.int .i64 0) := blk_cellv (HS.out.at1) 2 rfl; have hz643 : w636.frozen? ⟨g635, 2, none⟩ = false := blk_fz (HS.out.at1) 2; have hc644 : w636.cell? ⟨g635, 3, none⟩ = some (.int .i64 0) := blk_cellv (HS.out.at1) 3 rfl; have hz645 : w636.frozen? ⟨g635, 3, none⟩ = false := blk_fz (HS.out.at1) 3; have hc646 : w636.cell? ⟨g635, 4, none⟩ = some (.int .i64 0) := blk_cellv (HS.out.at1) 4 rfl; have hz647 : w636.frozen? ⟨g635, 4, none⟩ = false := blk_fz (HS.out.at1) 4; have hc648 : w636.cell? ⟨g635, 5, none⟩ = some (.int .i64 0) := blk_cellv (HS.out.at1) 5 rfl; have hz649 : w636.frozen? ⟨g635, 5, none⟩ = false := blk_fz (HS.out.at1) 5; have hc650 : w636.cell? ⟨g635, 6, none⟩ = some (.int .i64 0) := blk_cellv (HS.out.at1) 6 rfl; have hz651 : w636.frozen? ⟨g635, 6, none⟩ = false := blk_fz (HS.out.at1) 6; have hc652 : w636.cell? ⟨g635, 7, none⟩ = some (.int .i64 0) := blk_cellv (HS.out.at1) 7 rfl; have hz653 : w636.frozen? ⟨g635, 7, none⟩ = false := blk_fz (HS.out.at1) 7) | ((with_reducible refine gate_store (t := 38) (p := 7) rfl ?_); refine store_event (w1 := (World.setCell (World.setCell (World.setCell (World.setCell (World.setCell (World.setCell (World.setCell (World.setCell w636 ⟨g635, 0, none⟩ (.int .i64 t632.1)) ⟨g635, 1, none⟩ (.int .i64 t632.2.1)) ⟨g635, 2, none⟩ (.int .i64 t632.2.2.1)) ⟨g635, 3, none⟩ (.int .i64 t632.2.2.2.1)) ⟨g635, 4, none⟩ (.int .i64 t632.2.2.2.2.1)) ⟨g635, 5, none⟩ (.int .i64 t632.2.2.2.2.2.1)) ⟨g635, 6, none⟩ (.int .i64 t632.2.2.2.2.2.2.1)) ⟨g635, 7, none⟩ (.int .i64 t632.2.2.2.2.2.2.2.1))) rfl (t := 38) (p := 7) rfl rfl ?hr ?_; (case hr => first | (go_simp; done) | (go_simp; rfl)); intro w654 hst; clear hc638 hz639 hc640 hz641 hc642 hz643 hc644 hz645 hc646 hz647 hc648 hz649 hc650 hz651 hc652 hz653; have hq0 : Sep (fps []) w [blk g625 #[.int .i64 a619, .int .i64 a620, .int .i64 a621, .int .i64 a622] 32, blk g635 #[.int .i64 t632.1, .int .i64 0, .int .i64 0, .int .i64 0, .int .i64 0, .int .i64 0, .int .i64 0, .int .i64 0] 38] (World.setCell w636 ⟨g635, 0, none⟩ (.int .i64 t632.1)) := (HS.out).set1 (l1 := [blk g625 #[.int .i64 a619, .int .i64 a620, .int .i64 a621, .int .i64 a622] 32]) (l2 := []) 0 (.int .i64 t632.1); have hq1 : Sep (fps []) w [blk g625 #[.int .i64 a619, .int .i64 a620, .int .i64 a621, .int .i64 a622] 32, blk g635 #[.int .i64 t632.1, .int .i64 t632.2.1, .int .i64 0, .int .i64 0, .int .i64 0, .int .i64 0, .int .i64 0, .int .i64 0] 38] (World.setCell (World.setCell w636 ⟨g635, 0, none⟩ (.int .i64 t632.1)) ⟨g635, 1, none⟩ (.int .i64 t632.2.1)) := (hq0).set1 (l1 := [blk g625 #[.int .i64 a619, .int .i64 a620, .int .i64 a621, .int .i64 a622] 32]) (l2 := []) 1 (.int .i64 t632.2.1); have hq2 : Sep (fps []) w [blk g625 #[.int .i64 a619, .int .i64 a620, .int .i64 a621, .int .i64 a622] 32, blk g635 #[.int .i64 t632.1, .int .i64 t632.2.1, .int .i64 t632.2.2.1, .int .i64 0, .int .i64 0, .int .i64 0, .int .i64 0, .int .i64 0] 38] (World.setCell (World.setCell (World.setCell w636 ⟨g635, 0, none⟩ (.int .i64 t632.1)) ⟨g635, 1, none⟩ (.int .i64 t632.2.1)) ⟨g635, 2, none⟩ (.int .i64 t632.2.2.1)) := (hq1).set1 (l1 := [blk g625 #[.int .i64 a619, .int .i64 a620, .int .i64 a621, .int .i64 a622] 32]) (l2 := []) 2 (.int .i64 t632.2.2.1); have hq3 : Sep (fps []) w [blk g625 #[.int .i64 a619, .int .i64 a620, .int .i64 a621, .int .i64 a622] 32, blk g635 #[.int .i64 t632.1, .int .i64 t632.2.1, .int .i64 t632.2.2.1, .int .i64 t632.2.2.2.1, .int .i64 0, .int .i64 0, .int .i64 0, .int .i64 0] 38] (World.setCell (World.setCell (World.setCell (World.setCell w636 ⟨g635, 0, none⟩ (.int .i64 t632.1)) ⟨g635, 1, none⟩ (.int .i64 t632.2.1)) ⟨g635, 2, none⟩ (.int .i64 t632.2.2.1)) ⟨g635, 3, none⟩ (.int .i64 t632.2.2.2.1)) := (hq2).set1 (l1 := [blk g625 #[.int .i64 a619, .int .i64 a620, .int .i64 a621, .int .i64 a622] 32]) (l2 := []) 3 (.int .i64 t632.2.2.2.1); have hq4 : Sep (fps []) w [blk g625 #[.int .i64 a619, .int .i64 a620, .int .i64 a621, .int .i64 a622] 32, blk g635 #[.int .i64 t632.1, .int .i64 t632.2.1, .int .i64 t632.2.2.1, .int .i64 t632.2.2.2.1, .int .i64 t632.2.2.2.2.1, .int .i64 0, .int .i64 0, .int .i64 0] 38] (World.setCell (World.setCell (World.setCell (World.setCell (World.setCell w636 ⟨g635, 0, none⟩ (.int .i64 t632.1)) ⟨g635, 1, none⟩ (.int .i64 t632.2.1)) ⟨g635, 2, none⟩ (.int .i64 t632.2.2.1)) ⟨g635, 3, none⟩ (.int .i64 t632.2.2.2.1)) ⟨g635, 4, none⟩ (.int .i64 t632.2.2.2.2.1)) := (hq3).set1 (l1 := [blk g625 #[.int .i64 a619, .int .i64 a620, .int .i64 a621, .int .i64 a622] 32]) (l2 := []) 4 (.int .i64 t632.2.2.2.2.1); have hq5 : Sep (fps []) w [blk g625 #[.int .i64 a619, .int .i64 a620, .int .i64 a621, .int .i64 a622] 32, blk g635 #[.int .i64 t632.1, .int .i64 t632.2.1, .int .i64 t632.2.2.1, .int .i64 t632.2.2.2.1, .int .i64 t632.2.2.2.2.1, .int .i64 t632.2.2.2.2.2.1, .int .i64 0, .int .i64 0] 38] (World.setCell (World.setCell (World.setCell (World.setCell (World.setCell (World.setCell w636 ⟨g635, 0, none⟩ (.int .i64 t632.1)) ⟨g635, 1, none⟩ (.int .i64 t632.2.1)) ⟨g635, 2, none⟩ (.int .i64 t632.2.2.1)) ⟨g635, 3, none⟩ (.int .i64 t632.2.2.2.1)) ⟨g635, 4, none⟩ (.int .i64 t632.2.2.2.2.1)) ⟨g635, 5, none⟩ (.int .i64 t632.2.2.2.2.2.1)) := (hq4).set1 (l1 := [blk g625 #[.int .i64 a619, .int .i64 a620, .int .i64 a621, .int .i64 a622] 32]) (l2 := []) 5 (.int .i64 t632.2.2.2.2.2.1); have hq6 : Sep (fps []) w [blk g625 #[.int .i64 a619, .int .i64 a620, .int .i64 a621, .int .i64 a622] 32, blk g635 #[.int .i64 t632.1, .int .i64 t632.2.1, .int .i64 t632.2.2.1, .int .i64 t632.2.2.2.1, .int .i64 t632.2.2.2.2.1, .int .i64 t632.2.2.2.2.2.1, .int .i64 t632.2.2.2.2.2.2.1, .int .i64 0] 38] (World.setCell (World.setCell (World.setCell (World.setCell (World.setCell (World.setCell (World.setCell w636 ⟨g635, 0, none⟩ (.int .i64 t632.1)) ⟨g635, 1, none⟩ (.int .i64 t632.2.1)) ⟨g635, 2, none⟩ (.int .i64 t632.2.2.1)) ⟨g635, 3, none⟩ (.int .i64 t632.2.2.2.1)) ⟨g635, 4, none⟩ (.int .i64 t632.2.2.2.2.1)) ⟨g635, 5, none⟩ (.int .i64 t632.2.2.2.2.2.1)) ⟨g635, 6, none⟩ (.int .i64 t632.2.2.2.2.2.2.1)) := (hq5).set1 (l1 := [blk g625 #[.int .i64 a619, .int .i64 a620, .int .i64 a621, .int .i64 a622] 32]) (l2 := []) 6 (.int .i64 t632.2.2.2.2.2.2.1); have hq7 : Sep (fps []) w [blk g625 #[.int .i64 a619, .int .i64 a620, .int .i64 a621, .int .i64 a622] 32, blk g635 #[.int .i64 t632.1, .int .i64 t632.2.1, .int .i64 t632.2.2.1, .int .i64 t632.2.2.2.1, .int .i64 t632.2.2.2.2.1, .int .i64 t632.2.2.2.2.2.1, .int .i64 t632.2.2.2.2.2.2.1, .int .i64 t632.2.2.2.2.2.2.2.1] 38] (World.setCell (World.setCell (World.setCell (World.setCell (World.setCell (World.setCell (World.setCell (World.setCell w636 ⟨g635, 0, none⟩ (.int .i64 t632.1)) ⟨g635, 1, none⟩ (.int .i64 t632.2.1)) ⟨g635, 2, none⟩ (.int .i64 t632.2.2.1)) ⟨g635, 3, none⟩ (.int .i64 t632.2.2.2.1)) ⟨g635, 4, none⟩ (.int .i64 t632.2.2.2.2.1)) ⟨g635, 5, none⟩ (.int .i64 t632.2.2.2.2.2.1)) ⟨g635, 6, none⟩ (.int .i64 t632.2.2.2.2.2.2.1)) ⟨g635, 7, none⟩ (.int .i64 t632.2.2.2.2.2.2.2.1)) := (hq6).set1 (l1 := [blk g625 #[.int .i64 a619, .int .i64 a620, .int .i64 a621, .int .i64 a622] 32]) (l2 := []) 7 (.int .i64 t632.2.2.2.2.2.2.2.1); have HS_ : Aside0 (Sep (fps []) w [blk g625 #[.int .i64 a619, .int .i64 a620, .int .i64 a621, .int .i64 a622] 32, blk g635 #[.int .i64 t632.1, .int .i64 t632.2.1, .int .i64 t632.2.2.1, .int .i64 t632.2.2.2.1, .int .i64 t632.2.2.2.2.1, .int .i64 t632.2.2.2.2.2.1, .int .i64 t632.2.2.2.2.2.2.1, .int .i64 t632.2.2.2.2.2.2.2.1] 38] w654) := ⟨by rw [hst]; exact hq7⟩; clear hq0 hq1 hq2 hq3 hq4 hq5 hq6 hq7; clear HS hst; have HS := HS_; clear HS_))
    go_ret
    rw [← some_eq H]
    exact ⟨(by first | rfl | (simp [IntKind.wrap_u32]; done)), (HS.out).keep (l := []) (rest := [blk g625 #[.int .i64 a619, .int .i64 a620, .int .i64 a621, .int .i64 a622] 32, blk g635 #[.int .i64 t632.1, .int .i64 t632.2.1, .int .i64 t632.2.2.1, .int .i64 t632.2.2.2.1, .int .i64 t632.2.2.2.2.1, .int .i64 t632.2.2.2.2.2.1, .int .i64 t632.2.2.2.2.2.2.1, .int .i64 t632.2.2.2.2.2.2.2.1] 38])⟩

set_option maxHeartbeats 4000000 in
set_option maxRecDepth 100000 in
theorem quitrentref03_May.calls (a708 : Int) (a709 : Int) (a710 : Int) (a711 : Int) (r : Bool) (w : World)  (HS : Aside0 (Sep (fps []) w [] w)) (H : Aside0 (quitrentref03_May.f a708 a709 a710 a711 = some r)) :
    Calls Try.prog 44 #[.agg #[.int .i64 a708, .int .i64 a709, .int .i64 a710, .int .i64 a711]] w fun e w' => e = .returned (.bool r) ∧ Sep (fps []) w [] w' := by
  unfold quitrentref03_May.f at H
  go_enter Try.func44, Try.ntmps44
  by_cases c716 : a708 < 1
  · have H := if_yes c716 H
    have c716b0 : decide (a708 < 1) = true := decide_eq_true c716
    clear c716
    go_wp2_with (first | ((with_reducible refine gate_dst (N := 1) rfl ?_); refine box_on ?hg (N := 1) ?hd (cs := #[.int .i64 a708, .int .i64 a709, .int .i64 a710, .int .i64 a711]) (t := 32) ?hr ?_; (case hd => rfl); (case hg => rfl); (case hr => first | (go_simp; done) | (go_simp; rfl)); intro g712 hg w713 hbox hb; have HS_ : Aside0 (Sep (fps []) w [blk g712 #[.int .i64 a708, .int .i64 a709, .int .i64 a710, .int .i64 a711] 32] w713) := ⟨HS.out.box hg hbox hb⟩; clear HS hg hbox hb; have HS := HS_; clear HS_; have hc715 : w713.cell? ⟨g712, 0, none⟩ = some (.int .i64 a708) := blk_cellv (HS.out.at0) 0 rfl))
    clear hc715
    go_ret
    rw [← some_eq H]
    exact ⟨(by first | rfl | (simp [IntKind.wrap_u32]; done)), (HS.out).keep (l := []) (rest := [blk g712 #[.int .i64 a708, .int .i64 a709, .int .i64 a710, .int .i64 a711] 32])⟩
  · have H := if_no c716 H
    have c716b0 : decide (a708 < 1) = false := decide_eq_false c716
    clear c716
    by_cases c717 : a708 > 1048576
    · have H := if_yes c717 H
      have c717b0 : decide (1048576 < a708) = true := decide_eq_true c717
      clear c717
      go_wp2_with (first | ((with_reducible refine gate_dst (N := 1) rfl ?_); refine box_on ?hg (N := 1) ?hd (cs := #[.int .i64 a708, .int .i64 a709, .int .i64 a710, .int .i64 a711]) (t := 32) ?hr ?_; (case hd => rfl); (case hg => rfl); (case hr => first | (go_simp; done) | (go_simp; rfl)); intro g712 hg w713 hbox hb; have HS_ : Aside0 (Sep (fps []) w [blk g712 #[.int .i64 a708, .int .i64 a709, .int .i64 a710, .int .i64 a711] 32] w713) := ⟨HS.out.box hg hbox hb⟩; clear HS hg hbox hb; have HS := HS_; clear HS_; have hc715 : w713.cell? ⟨g712, 0, none⟩ = some (.int .i64 a708) := blk_cellv (HS.out.at0) 0 rfl))
      clear hc715
      go_ret
      rw [← some_eq H]
      exact ⟨(by first | rfl | (simp [IntKind.wrap_u32]; done)), (HS.out).keep (l := []) (rest := [blk g712 #[.int .i64 a708, .int .i64 a709, .int .i64 a710, .int .i64 a711] 32])⟩
    · have H := if_no c717 H
      have c717b0 : decide (1048576 < a708) = false := decide_eq_false c717
      clear c717
      by_cases c719 : a709 < 16
      · have H := if_yes c719 H
        have c719b0 : decide (a709 < 16) = true := decide_eq_true c719
        clear c719
        go_wp2_with (first | ((with_reducible refine gate_dst (N := 1) rfl ?_); refine box_on ?hg (N := 1) ?hd (cs := #[.int .i64 a708, .int .i64 a709, .int .i64 a710, .int .i64 a711]) (t := 32) ?hr ?_; (case hd => rfl); (case hg => rfl); (case hr => first | (go_simp; done) | (go_simp; rfl)); intro g712 hg w713 hbox hb; have HS_ : Aside0 (Sep (fps []) w [blk g712 #[.int .i64 a708, .int .i64 a709, .int .i64 a710, .int .i64 a711] 32] w713) := ⟨HS.out.box hg hbox hb⟩; clear HS hg hbox hb; have HS := HS_; clear HS_; have hc715 : w713.cell? ⟨g712, 0, none⟩ = some (.int .i64 a708) := blk_cellv (HS.out.at0) 0 rfl; have hc718 : w713.cell? ⟨g712, 1, none⟩ = some (.int .i64 a709) := blk_cellv (HS.out.at0) 1 rfl))
        clear hc715 hc718
        go_ret
        rw [← some_eq H]
        exact ⟨(by first | rfl | (simp [IntKind.wrap_u32]; done)), (HS.out).keep (l := []) (rest := [blk g712 #[.int .i64 a708, .int .i64 a709, .int .i64 a710, .int .i64 a711] 32])⟩
      · have H := if_no c719 H
        have c719b0 : decide (a709 < 16) = false := decide_eq_false c719
        clear c719
        by_cases c720 : a709 > 256
        · have H := if_yes c720 H
          have c720b0 : decide (256 < a709) = true := decide_eq_true c720
          clear c720
          go_wp2_with (first | ((with_reducible refine gate_dst (N := 1) rfl ?_); refine box_on ?hg (N := 1) ?hd (cs := #[.int .i64 a708, .int .i64 a709, .int .i64 a710, .int .i64 a711]) (t := 32) ?hr ?_; (case hd => rfl); (case hg => rfl); (case hr => first | (go_simp; done) | (go_simp; rfl)); intro g712 hg w713 hbox hb; have HS_ : Aside0 (Sep (fps []) w [blk g712 #[.int .i64 a708, .int .i64 a709, .int .i64 a710, .int .i64 a711] 32] w713) := ⟨HS.out.box hg hbox hb⟩; clear HS hg hbox hb; have HS := HS_; clear HS_; have hc715 : w713.cell? ⟨g712, 0, none⟩ = some (.int .i64 a708) := blk_cellv (HS.out.at0) 0 rfl; have hc718 : w713.cell? ⟨g712, 1, none⟩ = some (.int .i64 a709) := blk_cellv (HS.out.at0) 1 rfl))
          clear hc715 hc718
          go_ret
          rw [← some_eq H]
          exact ⟨(by first | rfl | (simp [IntKind.wrap_u32]; done)), (HS.out).keep (l := []) (rest := [blk g712 #[.int .i64 a708, .int .i64 a709, .int .i64 a710, .int .i64 a711] 32])⟩
        · have H := if_no c720 H
          have c720b0 : decide (256 < a709) = false := decide_eq_false c720
          clear c720
          by_cases c722 : a710 < 1
          · have H := if_yes c722 H
            have c722b0 : decide (a710 < 1) = true := decide_eq_true c722
            clear c722
            go_wp2_with (first | ((with_reducible refine gate_dst (N := 1) rfl ?_); refine box_on ?hg (N := 1) ?hd (cs := #[.int .i64 a708, .int .i64 a709, .int .i64 a710, .int .i64 a711]) (t := 32) ?hr ?_; (case hd => rfl); (case hg => rfl); (case hr => first | (go_simp; done) | (go_simp; rfl)); intro g712 hg w713 hbox hb; have HS_ : Aside0 (Sep (fps []) w [blk g712 #[.int .i64 a708, .int .i64 a709, .int .i64 a710, .int .i64 a711] 32] w713) := ⟨HS.out.box hg hbox hb⟩; clear HS hg hbox hb; have HS := HS_; clear HS_; have hc715 : w713.cell? ⟨g712, 0, none⟩ = some (.int .i64 a708) := blk_cellv (HS.out.at0) 0 rfl; have hc718 : w713.cell? ⟨g712, 1, none⟩ = some (.int .i64 a709) := blk_cellv (HS.out.at0) 1 rfl; have hc721 : w713.cell? ⟨g712, 2, none⟩ = some (.int .i64 a710) := blk_cellv (HS.out.at0) 2 rfl))
            clear hc715 hc718 hc721
            go_ret
            rw [← some_eq H]
            exact ⟨(by first | rfl | (simp [IntKind.wrap_u32]; done)), (HS.out).keep (l := []) (rest := [blk g712 #[.int .i64 a708, .int .i64 a709, .int .i64 a710, .int .i64 a711] 32])⟩
          · have H := if_no c722 H
            have c722b0 : decide (a710 < 1) = false := decide_eq_false c722
            clear c722
            by_cases c723 : a710 > 4096
            · have H := if_yes c723 H
              have c723b0 : decide (4096 < a710) = true := decide_eq_true c723
              clear c723
              go_wp2_with (first | ((with_reducible refine gate_dst (N := 1) rfl ?_); refine box_on ?hg (N := 1) ?hd (cs := #[.int .i64 a708, .int .i64 a709, .int .i64 a710, .int .i64 a711]) (t := 32) ?hr ?_; (case hd => rfl); (case hg => rfl); (case hr => first | (go_simp; done) | (go_simp; rfl)); intro g712 hg w713 hbox hb; have HS_ : Aside0 (Sep (fps []) w [blk g712 #[.int .i64 a708, .int .i64 a709, .int .i64 a710, .int .i64 a711] 32] w713) := ⟨HS.out.box hg hbox hb⟩; clear HS hg hbox hb; have HS := HS_; clear HS_; have hc715 : w713.cell? ⟨g712, 0, none⟩ = some (.int .i64 a708) := blk_cellv (HS.out.at0) 0 rfl; have hc718 : w713.cell? ⟨g712, 1, none⟩ = some (.int .i64 a709) := blk_cellv (HS.out.at0) 1 rfl; have hc721 : w713.cell? ⟨g712, 2, none⟩ = some (.int .i64 a710) := blk_cellv (HS.out.at0) 2 rfl))
              clear hc715 hc718 hc721
              go_ret
              rw [← some_eq H]
              exact ⟨(by first | rfl | (simp [IntKind.wrap_u32]; done)), (HS.out).keep (l := []) (rest := [blk g712 #[.int .i64 a708, .int .i64 a709, .int .i64 a710, .int .i64 a711] 32])⟩
            · have H := if_no c723 H
              have c723b0 : decide (4096 < a710) = false := decide_eq_false c723
              clear c723
              by_cases c725 : a711 < 1
              · have H := if_yes c725 H
                have c725b0 : decide (a711 < 1) = true := decide_eq_true c725
                clear c725
                go_wp2_with (first | ((with_reducible refine gate_dst (N := 1) rfl ?_); refine box_on ?hg (N := 1) ?hd (cs := #[.int .i64 a708, .int .i64 a709, .int .i64 a710, .int .i64 a711]) (t := 32) ?hr ?_; (case hd => rfl); (case hg => rfl); (case hr => first | (go_simp; done) | (go_simp; rfl)); intro g712 hg w713 hbox hb; have HS_ : Aside0 (Sep (fps []) w [blk g712 #[.int .i64 a708, .int .i64 a709, .int .i64 a710, .int .i64 a711] 32] w713) := ⟨HS.out.box hg hbox hb⟩; clear HS hg hbox hb; have HS := HS_; clear HS_; have hc715 : w713.cell? ⟨g712, 0, none⟩ = some (.int .i64 a708) := blk_cellv (HS.out.at0) 0 rfl; have hc718 : w713.cell? ⟨g712, 1, none⟩ = some (.int .i64 a709) := blk_cellv (HS.out.at0) 1 rfl; have hc721 : w713.cell? ⟨g712, 2, none⟩ = some (.int .i64 a710) := blk_cellv (HS.out.at0) 2 rfl; have hc724 : w713.cell? ⟨g712, 3, none⟩ = some (.int .i64 a711) := blk_cellv (HS.out.at0) 3 rfl))
                clear hc715 hc718 hc721 hc724
                go_ret
                rw [← some_eq H]
                exact ⟨(by first | rfl | (simp [IntKind.wrap_u32]; done)), (HS.out).keep (l := []) (rest := [blk g712 #[.int .i64 a708, .int .i64 a709, .int .i64 a710, .int .i64 a711] 32])⟩
              · have H := if_no c725 H
                have c725b0 : decide (a711 < 1) = false := decide_eq_false c725
                clear c725
                by_cases c726 : a711 > 65536
                · have H := if_yes c726 H
                  have c726b0 : decide (65536 < a711) = true := decide_eq_true c726
                  clear c726
                  go_wp2_with (first | ((with_reducible refine gate_dst (N := 1) rfl ?_); refine box_on ?hg (N := 1) ?hd (cs := #[.int .i64 a708, .int .i64 a709, .int .i64 a710, .int .i64 a711]) (t := 32) ?hr ?_; (case hd => rfl); (case hg => rfl); (case hr => first | (go_simp; done) | (go_simp; rfl)); intro g712 hg w713 hbox hb; have HS_ : Aside0 (Sep (fps []) w [blk g712 #[.int .i64 a708, .int .i64 a709, .int .i64 a710, .int .i64 a711] 32] w713) := ⟨HS.out.box hg hbox hb⟩; clear HS hg hbox hb; have HS := HS_; clear HS_; have hc715 : w713.cell? ⟨g712, 0, none⟩ = some (.int .i64 a708) := blk_cellv (HS.out.at0) 0 rfl; have hc718 : w713.cell? ⟨g712, 1, none⟩ = some (.int .i64 a709) := blk_cellv (HS.out.at0) 1 rfl; have hc721 : w713.cell? ⟨g712, 2, none⟩ = some (.int .i64 a710) := blk_cellv (HS.out.at0) 2 rfl; have hc724 : w713.cell? ⟨g712, 3, none⟩ = some (.int .i64 a711) := blk_cellv (HS.out.at0) 3 rfl))
                  clear hc715 hc718 hc721 hc724
                  go_ret
                  rw [← some_eq H]
                  exact ⟨(by first | rfl | (simp [IntKind.wrap_u32]; done)), (HS.out).keep (l := []) (rest := [blk g712 #[.int .i64 a708, .int .i64 a709, .int .i64 a710, .int .i64 a711] 32])⟩
                · have H := if_no c726 H
                  have c726b0 : decide (65536 < a711) = false := decide_eq_false c726
                  clear c726
                  go_wp2_with (first | ((with_reducible refine gate_dst (N := 1) rfl ?_); refine box_on ?hg (N := 1) ?hd (cs := #[.int .i64 a708, .int .i64 a709, .int .i64 a710, .int .i64 a711]) (t := 32) ?hr ?_; (case hd => rfl); (case hg => rfl); (case hr => first | (go_simp; done) | (go_simp; rfl)); intro g712 hg w713 hbox hb; have HS_ : Aside0 (Sep (fps []) w [blk g712 #[.int .i64 a708, .int .i64 a709, .int .i64 a710, .int .i64 a711] 32] w713) := ⟨HS.out.box hg hbox hb⟩; clear HS hg hbox hb; have HS := HS_; clear HS_; have hc715 : w713.cell? ⟨g712, 0, none⟩ = some (.int .i64 a708) := blk_cellv (HS.out.at0) 0 rfl; have hc718 : w713.cell? ⟨g712, 1, none⟩ = some (.int .i64 a709) := blk_cellv (HS.out.at0) 1 rfl; have hc721 : w713.cell? ⟨g712, 2, none⟩ = some (.int .i64 a710) := blk_cellv (HS.out.at0) 2 rfl; have hc724 : w713.cell? ⟨g712, 3, none⟩ = some (.int .i64 a711) := blk_cellv (HS.out.at0) 3 rfl))
                  clear hc715 hc718 hc721 hc724
                  go_ret
                  rw [← some_eq H]
                  exact ⟨(by first | rfl | (simp [IntKind.wrap_u32]; done)), (HS.out).keep (l := []) (rest := [blk g712 #[.int .i64 a708, .int .i64 a709, .int .i64 a710, .int .i64 a711] 32])⟩

set_option maxHeartbeats 4000000 in
set_option maxRecDepth 100000 in
theorem quitrentref03_Pause.calls (a695 : Int) (a696 : Int) (a697 : Int) (a698 : Int) (a699 : Int) (a700 : Int) (r : Int) (w : World)  (HS : Aside0 (Sep (fps []) w [] w)) (H : Aside0 (quitrentref03_Pause.f a695 a696 a697 a698 a699 a700 = some r)) :
    Calls Try.prog 19 #[.agg #[.int .i64 a695, .int .i64 a696, .int .i64 a697, .int .i64 a698], .int .i64 a699, .int .i64 a700] w fun e w' => e = .returned (.int .i64 r) ∧ Sep (fps []) w [] w' := by
  unfold quitrentref03_Pause.f at H
  go_enter Try.func19, Try.ntmps19
  go_wp2_with (first | ((with_reducible refine gate_dst (N := 3) rfl ?_); refine box_on ?hg (N := 3) ?hd (cs := #[.int .i64 a695, .int .i64 a696, .int .i64 a697, .int .i64 a698]) (t := 32) ?hr ?_; (case hd => rfl); (case hg => rfl); (case hr => first | (go_simp; done) | (go_simp; rfl)); intro g701 hg w702 hbox hb; have HS_ : Aside0 (Sep (fps []) w [blk g701 #[.int .i64 a695, .int .i64 a696, .int .i64 a697, .int .i64 a698] 32] w702) := ⟨HS.out.box hg hbox hb⟩; clear HS hg hbox hb; have HS := HS_; clear HS_; have hc704 : w702.cell? ⟨g701, 0, none⟩ = some (.int .i64 a695) := blk_cellv (HS.out.at0) 0 rfl; have hc705 : w702.cell? ⟨g701, 1, none⟩ = some (.int .i64 a696) := blk_cellv (HS.out.at0) 1 rfl; have hc706 : w702.cell? ⟨g701, 2, none⟩ = some (.int .i64 a697) := blk_cellv (HS.out.at0) 2 rfl; have hc707 : w702.cell? ⟨g701, 3, none⟩ = some (.int .i64 a698) := blk_cellv (HS.out.at0) 3 rfl))
  clear hc704 hc705 hc706 hc707
  obtain ⟨t727, HA728, H⟩ := bind_some H
  refine (quitrentref03_May.calls a695 a696 a697 a698 t727 _ ⟨HS.out.begin (l := []) (rest := [blk g701 #[.int .i64 a695, .int .i64 a696, .int .i64 a697, .int .i64 a698] 32])⟩ HA728).mono ?_
  rintro e_ w729 ⟨rfl, hS⟩
  have HS_ : Aside0 (Sep (fps []) w [blk g701 #[.int .i64 a695, .int .i64 a696, .int .i64 a697, .int .i64 a698] 32] w729) := ⟨HS.out.call (l := []) (rest := [blk g701 #[.int .i64 a695, .int .i64 a696, .int .i64 a697, .int .i64 a698] 32]) hS⟩
  clear HS hS
  have HS := HS_
  clear HS_
  by_cases c730 : t727 = true
  · have H := if_yes c730 H
    have c730b0 : t727 = true := c730
    clear c730
    by_cases c731 : a699 < 1
    · have H := if_yes c731 H
      have c731b0 : decide (a699 < 1) = true := decide_eq_true c731
      clear c731
      go_wp2_with fail
      go_ret
      rw [← some_eq H]
      exact ⟨(by first | rfl | (simp [IntKind.wrap_u32]; done)), (HS.out).keep (l := []) (rest := [blk g701 #[.int .i64 a695, .int .i64 a696, .int .i64 a697, .int .i64 a698] 32])⟩
    · have H := if_no c731 H
      have c731b0 : decide (a699 < 1) = false := decide_eq_false c731
      clear c731
      by_cases c732 : a699 > 10
      · have H := if_yes c732 H
        have c732b0 : decide (10 < a699) = true := decide_eq_true c732
        clear c732
        go_wp2_with fail
        go_ret
        rw [← some_eq H]
        exact ⟨(by first | rfl | (simp [IntKind.wrap_u32]; done)), (HS.out).keep (l := []) (rest := [blk g701 #[.int .i64 a695, .int .i64 a696, .int .i64 a697, .int .i64 a698] 32])⟩
      · have H := if_no c732 H
        have c732b0 : decide (10 < a699) = false := decide_eq_false c732
        clear c732
        by_cases c733 : a699 = 10
        · have H := if_yes c733 H
          have c733b0 : (a699 == 10) = true := beq_iff_eq.mpr c733
          have c733b1 : (a699 != 10) = false := bne_eq_false_iff_eq.mpr c733
          clear c733
          have hc734 : w729.cell? ⟨g701, 3, none⟩ = some (.int .i64 a698) := blk_cellv (HS.out.at0) 3 rfl
          go_wp2_with fail
          clear hc734
          go_ret
          rw [← some_eq H]
          exact ⟨(by first | rfl | (simp [IntKind.wrap_u32]; done)), (HS.out).keep (l := []) (rest := [blk g701 #[.int .i64 a695, .int .i64 a696, .int .i64 a697, .int .i64 a698] 32])⟩
        · have H := if_no c733 H
          have c733b0 : (a699 == 10) = false := beq_eq_false_iff_ne.mpr c733
          have c733b1 : (a699 != 10) = true := bne_iff_ne.mpr c733
          clear c733
          by_cases c735 : a699 > 1
          · have H := if_yes c735 H
            have c735b0 : decide (1 < a699) = true := decide_eq_true c735
            clear c735
            go_wp2_with fail
            go_ret
            rw [← some_eq H]
            exact ⟨(by first | rfl | (simp [IntKind.wrap_u32]; done)), (HS.out).keep (l := []) (rest := [blk g701 #[.int .i64 a695, .int .i64 a696, .int .i64 a697, .int .i64 a698] 32])⟩
          · have H := if_no c735 H
            have c735b0 : decide (1 < a699) = false := decide_eq_false c735
            clear c735
            by_cases c736 : a700 < 0
            · have H := if_yes c736 H
              have c736b0 : decide (a700 < 0) = true := decide_eq_true c736
              clear c736
              by_cases c738 : 0 > (wrap64 (a696 - 7))
              · have H := if_yes c738 H
                have c738b0 : decide ((wrap64 (a696 - 7)) < 0) = true := decide_eq_true c738
                clear c738
                have hc737 : w729.cell? ⟨g701, 1, none⟩ = some (.int .i64 a696) := blk_cellv (HS.out.at0) 1 rfl
                have hc739 : w729.cell? ⟨g701, 3, none⟩ = some (.int .i64 a698) := blk_cellv (HS.out.at0) 3 rfl
                go_wp2_with fail
                clear hc737 hc739
                go_ret
                rw [← some_eq H]
                exact ⟨(by first | rfl | (simp [IntKind.wrap_u32]; done)), (HS.out).keep (l := []) (rest := [blk g701 #[.int .i64 a695, .int .i64 a696, .int .i64 a697, .int .i64 a698] 32])⟩
              · have H := if_no c738 H
                have c738b0 : decide ((wrap64 (a696 - 7)) < 0) = false := decide_eq_false c738
                clear c738
                have hc737 : w729.cell? ⟨g701, 1, none⟩ = some (.int .i64 a696) := blk_cellv (HS.out.at0) 1 rfl
                have hc740 : w729.cell? ⟨g701, 3, none⟩ = some (.int .i64 a698) := blk_cellv (HS.out.at0) 3 rfl
                go_wp2_with fail
                clear hc737 hc740
                go_ret
                rw [← some_eq H]
                exact ⟨(by first | rfl | (simp [IntKind.wrap_u32]; done)), (HS.out).keep (l := []) (rest := [blk g701 #[.int .i64 a695, .int .i64 a696, .int .i64 a697, .int .i64 a698] 32])⟩
            · have H := if_no c736 H
              have c736b0 : decide (a700 < 0) = false := decide_eq_false c736
              clear c736
              by_cases c742 : a700 > (wrap64 (a696 - 7))
              · have H := if_yes c742 H
                have c742b0 : decide ((wrap64 (a696 - 7)) < a700) = true := decide_eq_true c742
                clear c742
                have hc741 : w729.cell? ⟨g701, 1, none⟩ = some (.int .i64 a696) := blk_cellv (HS.out.at0) 1 rfl
                have hc743 : w729.cell? ⟨g701, 3, none⟩ = some (.int .i64 a698) := blk_cellv (HS.out.at0) 3 rfl
                go_wp2_with fail
                clear hc741 hc743
                go_ret
                rw [← some_eq H]
                exact ⟨(by first | rfl | (simp [IntKind.wrap_u32]; done)), (HS.out).keep (l := []) (rest := [blk g701 #[.int .i64 a695, .int .i64 a696, .int .i64 a697, .int .i64 a698] 32])⟩
              · have H := if_no c742 H
                have c742b0 : decide ((wrap64 (a696 - 7)) < a700) = false := decide_eq_false c742
                clear c742
                have hc741 : w729.cell? ⟨g701, 1, none⟩ = some (.int .i64 a696) := blk_cellv (HS.out.at0) 1 rfl
                have hc744 : w729.cell? ⟨g701, 3, none⟩ = some (.int .i64 a698) := blk_cellv (HS.out.at0) 3 rfl
                go_wp2_with fail
                clear hc741 hc744
                go_ret
                rw [← some_eq H]
                exact ⟨(by first | rfl | (simp [IntKind.wrap_u32]; done)), (HS.out).keep (l := []) (rest := [blk g701 #[.int .i64 a695, .int .i64 a696, .int .i64 a697, .int .i64 a698] 32])⟩
  · have H := if_no c730 H
    have c730b0 : t727 = false := by simpa using c730
    clear c730
    go_wp2_with fail
    go_ret
    rw [← some_eq H]
    exact ⟨(by first | rfl | (simp [IntKind.wrap_u32]; done)), (HS.out).keep (l := []) (rest := [blk g701 #[.int .i64 a695, .int .i64 a696, .int .i64 a697, .int .i64 a698] 32])⟩

set_option maxHeartbeats 4000000 in
set_option maxRecDepth 100000 in
theorem quitrentlaw03_PlanPause.calls (k : Nat) (a1 : Int) (a2 : Int) (a3 : Int) (a4 : Int) (a5 : Int) (a6 : Int) (r : Bool) (w : World)  (HS : Aside0 (Sep (fps []) w [] w)) (H : Aside0 (quitrentlaw03_PlanPause.f k a1 a2 a3 a4 a5 a6 = some r)) :
    Calls Try.prog 5 #[.agg #[.int .i64 a1, .int .i64 a2, .int .i64 a3, .int .i64 a4], .int .i64 a5, .int .i64 a6] w fun e w' => e = .returned (.bool r) ∧ Sep (fps []) w [] w' := by
  unfold quitrentlaw03_PlanPause.f at H
  go_enter Try.func5, Try.ntmps5
  go_wp2_with (first | ((with_reducible refine gate_dst (N := 3) rfl ?_); refine box_on ?hg (N := 3) ?hd (cs := #[.int .i64 a1, .int .i64 a2, .int .i64 a3, .int .i64 a4]) (t := 32) ?hr ?_; (case hd => rfl); (case hg => rfl); (case hr => first | (go_simp; done) | (go_simp; rfl)); intro g7 hg w8 hbox hb; have HS_ : Aside0 (Sep (fps []) w [blk g7 #[.int .i64 a1, .int .i64 a2, .int .i64 a3, .int .i64 a4] 32] w8) := ⟨HS.out.box hg hbox hb⟩; clear HS hg hbox hb; have HS := HS_; clear HS_))
  refine start_ (n := 13) (S := (fun w' => w'.cell? ⟨g7, 0, none⟩ = some (.int .i64 a1) ∧ w'.cell? ⟨g7, 1, none⟩ = some (.int .i64 a2) ∧ w'.cell? ⟨g7, 2, none⟩ = some (.int .i64 a3) ∧ w'.cell? ⟨g7, 3, none⟩ = some (.int .i64 a4))) (ds := []) #[false, false, false, false, false, false, false, false, false, false, false, false, false] (by kernel_rfl) rfl rfl (⟨blk_cellv ((HS.out.drew).at0) 0 rfl, blk_cellv ((HS.out.drew).at0) 1 rfl, blk_cellv ((HS.out.drew).at0) 2 rfl, blk_cellv ((HS.out.drew).at0) 3 rfl⟩) (fun hHeld => ?_)
  have HS_ := Aside0.mk HS.out.drew
  clear HS
  generalize World.drew _ = w11 at HS_ hHeld ⊢
  have HS := HS_
  clear HS_
  refine one_ (i := 0) (N := some 7) #[true, false, false, false, false, false, false, false, false, false, false, false, false] rfl rfl (by kernel_rfl) (by decide) (fun K hK => ?_)
  obtain ⟨t615, HA616, H⟩ := bind_some H
  refine goes_ Try.func17 (by kernel_rfl) rfl #[] (by rfl) rfl rfl (by (try simp only [List.map_toArray, List.map_cons, List.map_nil]); first | done | rfl) ?_
  refine (quitrentlaw03_begun.calls _ t615 _ ⟨HS.out.begin (l := []) (rest := [blk g7 #[.int .i64 a1, .int .i64 a2, .int .i64 a3, .int .i64 a4] 32])⟩ HA616).mono ?_
  rintro e_ w617 ⟨rfl, hS⟩
  have HS_ : Aside0 (Sep (fps []) w [blk g7 #[.int .i64 a1, .int .i64 a2, .int .i64 a3, .int .i64 a4] 32] w617) := ⟨HS.out.call (l := []) (rest := [blk g7 #[.int .i64 a1, .int .i64 a2, .int .i64 a3, .int .i64 a4] 32]) hS⟩
  clear HS hS
  have HS := HS_
  clear HS_
  refine ⟨_, rfl, ?_⟩
  refine hK.out _ _ (⟨blk_cellv (HS.out.at0) 0 rfl, blk_cellv (HS.out.at0) 1 rfl, blk_cellv (HS.out.at0) 2 rfl, blk_cellv (HS.out.at0) 3 rfl⟩) (fun hHeld => ?_)
  clear hK K
  refine norm_ (a' := ?_) ?_ ?_
  rotate_left
  · show Act.put _ (some 7) _ = _
    simp only [Act.put, List.setIfInBounds_toArray, List.set_cons_zero, List.set_cons_succ, i64_w, i32_w]
    rfl
  refine pure_ (i := 1) (N := some 8) (v := ?_) (a' := ?_) #[true, true, false, false, false, false, false, false, false, false, false, false, false] rfl rfl (by kernel_rfl) (fun _ _ _ h => h) (Or.inl ⟨by rfl, ?_⟩) ?_ ?_
  rotate_left
  · intro w'
    go_simp
    with_reducible rfl
  rotate_left
  · simp only [Act.put, List.setIfInBounds_toArray, List.set_cons_zero, List.set_cons_succ, i64_w, i32_w]
    rfl
  by_cases c618 : t615 = true
  · have H := if_yes c618 H
    have c618b0 : t615 = true := c618
    clear c618
    try simp only [c618b0, Bool.not_true, Bool.not_false]
    refine pure_ (i := 3) (N := some 10) (v := ?_) (a' := ?_) #[true, true, false, true, false, false, false, false, false, false, false, false, false] rfl rfl (by kernel_rfl) (fun _ _ _ h => h) (Or.inl ⟨by rfl, ?_⟩) ?_ ?_
    rotate_left
    · intro w'
      go_simp
      with_reducible rfl
    rotate_left
    · simp only [Act.put, List.setIfInBounds_toArray, List.set_cons_zero, List.set_cons_succ, i64_w, i32_w]
      rfl
    try simp only [c618b0, Bool.not_true, Bool.not_false]
    refine pure_ (i := 4) (N := some 11) (v := ?_) (a' := ?_) #[true, true, false, true, true, false, false, false, false, false, false, false, false] rfl rfl (by kernel_rfl) (fun _ _ _ h => h) (Or.inl ⟨by rfl, ?_⟩) ?_ ?_
    rotate_left
    · intro w'
      go_simp
      with_reducible rfl
    rotate_left
    · simp only [Act.put, List.setIfInBounds_toArray, List.set_cons_zero, List.set_cons_succ, i64_w, i32_w]
      rfl
    try simp only [c618b0, Bool.not_true, Bool.not_false]
    refine pure_ (i := 7) (N := some 14) (v := ?_) (a' := ?_) #[true, true, false, true, true, false, false, true, false, false, false, false, false] rfl rfl (by kernel_rfl) (fun _ _ _ h => h) (Or.inl ⟨by rfl, ?_⟩) ?_ ?_
    rotate_left
    · intro w'
      go_simp
      with_reducible rfl
    rotate_left
    · simp only [Act.put, List.setIfInBounds_toArray, List.set_cons_zero, List.set_cons_succ, i64_w, i32_w]
      rfl
    try simp only [c618b0, Bool.not_true, Bool.not_false]
    refine pure_ (i := 8) (N := some 15) (v := ?_) (a' := ?_) #[true, true, false, true, true, false, false, true, true, false, false, false, false] rfl rfl (by kernel_rfl) (fun _ _ _ h => h) (Or.inl ⟨by rfl, ?_⟩) ?_ ?_
    rotate_left
    · intro w'
      go_simp
      with_reducible rfl
    rotate_left
    · simp only [Act.put, List.setIfInBounds_toArray, List.set_cons_zero, List.set_cons_succ, i64_w, i32_w]
      rfl
    try simp only [c618b0, Bool.not_true, Bool.not_false]
    refine take_ (i := 2) (N := some 9) (v := ?_) (a' := ?_) #[true, true, true, true, true, false, false, true, true, false, false, false, false] rfl rfl (by kernel_rfl) (fun _ _ _ h => h) (Or.inl ⟨by rfl, ?_⟩) hHeld ?_ ?_
    rotate_left
    · rintro w' hS'
      obtain ⟨s0, s1, s2, s3⟩ := hS'
      go_simp
      with_reducible rfl
    rotate_left
    · simp only [Act.put, List.setIfInBounds_toArray, List.set_cons_zero, List.set_cons_succ, i64_w, i32_w]
      rfl
    try simp only [c618b0, Bool.not_true, Bool.not_false]
    refine take_ (i := 6) (N := some 13) (v := ?_) (a' := ?_) #[true, true, true, true, true, false, true, true, true, false, false, false, false] rfl rfl (by kernel_rfl) (fun _ _ _ h => h) (Or.inl ⟨by rfl, ?_⟩) hHeld ?_ ?_
    rotate_left
    · rintro w' hS'
      obtain ⟨s0, s1, s2, s3⟩ := hS'
      go_simp
      with_reducible rfl
    rotate_left
    · simp only [Act.put, List.setIfInBounds_toArray, List.set_cons_zero, List.set_cons_succ, i64_w, i32_w]
      rfl
    try simp only [c618b0, Bool.not_true, Bool.not_false]
    refine one_ (i := 5) (N := some 12) #[true, true, true, true, true, true, true, true, true, false, false, false, false] rfl rfl (by kernel_rfl) (by decide) (fun K hK => ?_)
    obtain ⟨t692, HA693, H⟩ := bind_some H
    refine goes_ Try.func18 (by kernel_rfl) rfl #[.agg #[.int .i64 a1, .int .i64 a2, .int .i64 a3, .int .i64 a4], .int .i64 a5, .int .i64 a6] (by rfl) rfl rfl (by (try simp only [List.map_toArray, List.map_cons, List.map_nil]); first | done | rfl) ?_
    refine (plan_Pause.calls _ a1 a2 a3 a4 a5 a6 t692 _ ⟨HS.out.begin (l := []) (rest := [blk g7 #[.int .i64 a1, .int .i64 a2, .int .i64 a3, .int .i64 a4] 32])⟩ HA693).mono ?_
    rintro e_ w694 ⟨rfl, hS⟩
    have HS_ : Aside0 (Sep (fps []) w [blk g7 #[.int .i64 a1, .int .i64 a2, .int .i64 a3, .int .i64 a4] 32] w694) := ⟨HS.out.call (l := []) (rest := [blk g7 #[.int .i64 a1, .int .i64 a2, .int .i64 a3, .int .i64 a4] 32]) hS⟩
    clear HS hS
    have HS := HS_
    clear HS_
    refine ⟨_, rfl, ?_⟩
    refine hK.out _ _ (⟨blk_cellv (HS.out.at0) 0 rfl, blk_cellv (HS.out.at0) 1 rfl, blk_cellv (HS.out.at0) 2 rfl, blk_cellv (HS.out.at0) 3 rfl⟩) (fun hHeld => ?_)
    clear hK K
    refine norm_ (a' := ?_) ?_ ?_
    rotate_left
    · show Act.put _ (some 12) _ = _
      simp only [Act.put, List.setIfInBounds_toArray, List.set_cons_zero, List.set_cons_succ, i64_w, i32_w]
      rfl
    try simp only [c618b0, Bool.not_true, Bool.not_false]
    refine one_ (i := 9) (N := some 16) #[true, true, true, true, true, true, true, true, true, true, false, false, false] rfl rfl (by kernel_rfl) (by decide) (fun K hK => ?_)
    obtain ⟨t745, HA746, H⟩ := bind_some H
    refine goes_ Try.func19 (by kernel_rfl) rfl #[.agg #[.int .i64 a1, .int .i64 a2, .int .i64 a3, .int .i64 a4], .int .i64 a5, .int .i64 a6] (by rfl) rfl rfl (by (try simp only [List.map_toArray, List.map_cons, List.map_nil]); first | done | rfl) ?_
    refine (quitrentref03_Pause.calls a1 a2 a3 a4 a5 a6 t745 _ ⟨HS.out.begin (l := []) (rest := [blk g7 #[.int .i64 a1, .int .i64 a2, .int .i64 a3, .int .i64 a4] 32])⟩ HA746).mono ?_
    rintro e_ w747 ⟨rfl, hS⟩
    have HS_ : Aside0 (Sep (fps []) w [blk g7 #[.int .i64 a1, .int .i64 a2, .int .i64 a3, .int .i64 a4] 32] w747) := ⟨HS.out.call (l := []) (rest := [blk g7 #[.int .i64 a1, .int .i64 a2, .int .i64 a3, .int .i64 a4] 32]) hS⟩
    clear HS hS
    have HS := HS_
    clear HS_
    refine ⟨_, rfl, ?_⟩
    refine hK.out _ _ (⟨blk_cellv (HS.out.at0) 0 rfl, blk_cellv (HS.out.at0) 1 rfl, blk_cellv (HS.out.at0) 2 rfl, blk_cellv (HS.out.at0) 3 rfl⟩) (fun hHeld => ?_)
    clear hK K
    refine norm_ (a' := ?_) ?_ ?_
    rotate_left
    · show Act.put _ (some 16) _ = _
      simp only [Act.put, List.setIfInBounds_toArray, List.set_cons_zero, List.set_cons_succ, i64_w, i32_w]
      rfl
    try simp only [c618b0, Bool.not_true, Bool.not_false]
    refine pure_ (i := 10) (N := some 17) (v := ?_) (a' := ?_) #[true, true, true, true, true, true, true, true, true, true, true, false, false] rfl rfl (by kernel_rfl) (fun _ _ _ h => h) (Or.inl ⟨by rfl, ?_⟩) ?_ ?_
    rotate_left
    · intro w'
      go_simp
      with_reducible rfl
    rotate_left
    · simp only [Act.put, List.setIfInBounds_toArray, List.set_cons_zero, List.set_cons_succ, i64_w, i32_w]
      rfl
    refine pure_ (i := 11) (N := some 18) (v := ?_) (a' := ?_) #[true, true, true, true, true, true, true, true, true, true, true, true, false] rfl rfl (by kernel_rfl) (fun _ _ _ h => h) (Or.inl ⟨by rfl, ?_⟩) ?_ ?_
    rotate_left
    · intro w'
      go_simp
      with_reducible rfl
    rotate_left
    · simp only [Act.put, List.setIfInBounds_toArray, List.set_cons_zero, List.set_cons_succ, i64_w, i32_w]
      rfl
    refine pure_ (i := 12) (N := some 6) (v := ?_) (a' := ?_) #[true, true, true, true, true, true, true, true, true, true, true, true, true] rfl rfl (by kernel_rfl) (fun _ _ _ h => h) (Or.inl ⟨by rfl, ?_⟩) ?_ ?_
    rotate_left
    · intro w'
      go_simp
      with_reducible rfl
    rotate_left
    · simp only [Act.put, List.setIfInBounds_toArray, List.set_cons_zero, List.set_cons_succ, i64_w, i32_w]
      rfl
    refine done_ (by kernel_rfl) ?_
    go_wp2_with fail
    go_ret
    rw [← some_eq H]
    exact ⟨(by first | rfl | (simp [IntKind.wrap_u32]; done)), (HS.out).keep (l := []) (rest := [blk g7 #[.int .i64 a1, .int .i64 a2, .int .i64 a3, .int .i64 a4] 32])⟩
  · have H := if_no c618 H
    have c618b0 : t615 = false := by simpa using c618
    clear c618
    try simp only [c618b0, Bool.not_true, Bool.not_false]
    refine pure_ (i := 2) (N := some 9) (v := undef) (a' := ?_) #[true, true, true, false, false, false, false, false, false, false, false, false, false] rfl rfl (by kernel_rfl) (fun _ _ _ h => h) (Or.inr ⟨by rfl, rfl⟩) ?_ ?_
    rotate_left
    · simp only [Act.put, List.setIfInBounds_toArray, List.set_cons_zero, List.set_cons_succ, i64_w, i32_w]
      rfl
    try simp only [c618b0, Bool.not_true, Bool.not_false]
    refine pure_ (i := 3) (N := some 10) (v := undef) (a' := ?_) #[true, true, true, true, false, false, false, false, false, false, false, false, false] rfl rfl (by kernel_rfl) (fun _ _ _ h => h) (Or.inr ⟨by rfl, rfl⟩) ?_ ?_
    rotate_left
    · simp only [Act.put, List.setIfInBounds_toArray, List.set_cons_zero, List.set_cons_succ, i64_w, i32_w]
      rfl
    try simp only [c618b0, Bool.not_true, Bool.not_false]
    refine pure_ (i := 4) (N := some 11) (v := undef) (a' := ?_) #[true, true, true, true, true, false, false, false, false, false, false, false, false] rfl rfl (by kernel_rfl) (fun _ _ _ h => h) (Or.inr ⟨by rfl, rfl⟩) ?_ ?_
    rotate_left
    · simp only [Act.put, List.setIfInBounds_toArray, List.set_cons_zero, List.set_cons_succ, i64_w, i32_w]
      rfl
    try simp only [c618b0, Bool.not_true, Bool.not_false]
    refine pure_ (i := 5) (N := some 12) (v := undef) (a' := ?_) #[true, true, true, true, true, true, false, false, false, false, false, false, false] rfl rfl (by kernel_rfl) (fun _ _ _ h => h) (Or.inr ⟨by rfl, rfl⟩) ?_ ?_
    rotate_left
    · simp only [Act.put, List.setIfInBounds_toArray, List.set_cons_zero, List.set_cons_succ, i64_w, i32_w]
      rfl
    try simp only [c618b0, Bool.not_true, Bool.not_false]
    refine pure_ (i := 6) (N := some 13) (v := undef) (a' := ?_) #[true, true, true, true, true, true, true, false, false, false, false, false, false] rfl rfl (by kernel_rfl) (fun _ _ _ h => h) (Or.inr ⟨by rfl, rfl⟩) ?_ ?_
    rotate_left
    · simp only [Act.put, List.setIfInBounds_toArray, List.set_cons_zero, List.set_cons_succ, i64_w, i32_w]
      rfl
    try simp only [c618b0, Bool.not_true, Bool.not_false]
    refine pure_ (i := 7) (N := some 14) (v := undef) (a' := ?_) #[true, true, true, true, true, true, true, true, false, false, false, false, false] rfl rfl (by kernel_rfl) (fun _ _ _ h => h) (Or.inr ⟨by rfl, rfl⟩) ?_ ?_
    rotate_left
    · simp only [Act.put, List.setIfInBounds_toArray, List.set_cons_zero, List.set_cons_succ, i64_w, i32_w]
      rfl
    try simp only [c618b0, Bool.not_true, Bool.not_false]
    refine pure_ (i := 8) (N := some 15) (v := undef) (a' := ?_) #[true, true, true, true, true, true, true, true, true, false, false, false, false] rfl rfl (by kernel_rfl) (fun _ _ _ h => h) (Or.inr ⟨by rfl, rfl⟩) ?_ ?_
    rotate_left
    · simp only [Act.put, List.setIfInBounds_toArray, List.set_cons_zero, List.set_cons_succ, i64_w, i32_w]
      rfl
    try simp only [c618b0, Bool.not_true, Bool.not_false]
    refine pure_ (i := 9) (N := some 16) (v := undef) (a' := ?_) #[true, true, true, true, true, true, true, true, true, true, false, false, false] rfl rfl (by kernel_rfl) (fun _ _ _ h => h) (Or.inr ⟨by rfl, rfl⟩) ?_ ?_
    rotate_left
    · simp only [Act.put, List.setIfInBounds_toArray, List.set_cons_zero, List.set_cons_succ, i64_w, i32_w]
      rfl
    try simp only [c618b0, Bool.not_true, Bool.not_false]
    refine pure_ (i := 10) (N := some 17) (v := undef) (a' := ?_) #[true, true, true, true, true, true, true, true, true, true, true, false, false] rfl rfl (by kernel_rfl) (fun _ _ _ h => h) (Or.inr ⟨by rfl, rfl⟩) ?_ ?_
    rotate_left
    · simp only [Act.put, List.setIfInBounds_toArray, List.set_cons_zero, List.set_cons_succ, i64_w, i32_w]
      rfl
    refine pure_ (i := 11) (N := some 18) (v := ?_) (a' := ?_) #[true, true, true, true, true, true, true, true, true, true, true, true, false] rfl rfl (by kernel_rfl) (fun _ _ _ h => h) (Or.inl ⟨by rfl, ?_⟩) ?_ ?_
    rotate_left
    · intro w'
      go_simp
      with_reducible rfl
    rotate_left
    · simp only [Act.put, List.setIfInBounds_toArray, List.set_cons_zero, List.set_cons_succ, i64_w, i32_w]
      rfl
    refine pure_ (i := 12) (N := some 6) (v := ?_) (a' := ?_) #[true, true, true, true, true, true, true, true, true, true, true, true, true] rfl rfl (by kernel_rfl) (fun _ _ _ h => h) (Or.inl ⟨by rfl, ?_⟩) ?_ ?_
    rotate_left
    · intro w'
      go_simp
      with_reducible rfl
    rotate_left
    · simp only [Act.put, List.setIfInBounds_toArray, List.set_cons_zero, List.set_cons_succ, i64_w, i32_w]
      rfl
    refine done_ (by kernel_rfl) ?_
    go_wp2_with fail
    go_ret
    rw [← some_eq H]
    exact ⟨(by first | rfl | (simp [IntKind.wrap_u32]; done)), (HS.out).keep (l := []) (rest := [blk g7 #[.int .i64 a1, .int .i64 a2, .int .i64 a3, .int .i64 a4] 32])⟩
end Go.Proofs.Ytgkpcboaiaiahab.C

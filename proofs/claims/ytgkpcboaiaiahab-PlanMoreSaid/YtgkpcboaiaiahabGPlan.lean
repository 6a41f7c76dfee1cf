/- Each function of the group Plan does what its plain function says, and changes nothing that was there; proved by walking its code. No condition. -/
import Derived.Test.YtgkpcboaiaiahabQw
import Derived.Test.YtgkpcboaiaiahabMPlan
import Derived.Test.YtgkpcboaiaiahabGPlan0
import Derived.Test.YtgkpcboaiaiahabGPlan1
import Derived.Test.YtgkpcboaiaiahabGPlan2
namespace Go.Proofs.Ytgkpcboaiaiahab.C
open Go.RowKit Go.Proofs.YtgkpcboaiaiahabW.PrintWords Go.Proofs.YtgkpcboaiaiahabW.PrintLast Go.Proofs.YtgkpcboaiaiahabW.PrintMore Go.Proofs.Ytgkpcboaiaiahab.Q Go.Proofs.Ytgkpcboaiaiahab.M
set_option linter.unusedVariables false
set_option linter.unusedSimpArgs false
set_option maxHeartbeats 4000000 in
set_option maxRecDepth 100000 in
theorem quitrentlaw03_PlanMore.calls (k : Nat) (a748 : Int) (a749 : Int) (a750 : Int) (a751 : Int) (a752 : Int) (a753 : Int) (a754 : Int) (r : Bool) (w : World)  (HS : Aside0 (Sep (fps []) w [] w)) (H : Aside0 (quitrentlaw03_PlanMore.f k a748 a749 a750 a751 a752 a753 a754 = some r)) :
    Calls Try.prog 6 #[.agg #[.int .i64 a748, .int .i64 a749, .int .i64 a750, .int .i64 a751], .int .u16 a752, .int .i64 a753, .int .i64 a754] w fun e w' => e = .returned (.bool r) ∧ Sep (fps []) w [] w' := by
  unfold quitrentlaw03_PlanMore.f at H
  go_enter Try.func6, Try.ntmps6
  go_wp2_with (first | ((with_reducible refine gate_dst (N := 4) rfl ?_); refine box_on ?hg (N := 4) ?hd (cs := #[.int .i64 a748, .int .i64 a749, .int .i64 a750, .int .i64 a751]) (t := 32) ?hr ?_; (case hd => rfl); (case hg => rfl); (case hr => first | (go_simp; done) | (go_simp; rfl)); intro g755 hg w756 hbox hb; have HS_ : Aside0 (Sep (fps []) w [blk g755 #[.int .i64 a748, .int .i64 a749, .int .i64 a750, .int .i64 a751] 32] w756) := ⟨HS.out.box hg hbox hb⟩; clear HS hg hbox hb; have HS := HS_; clear HS_))
  obtain ⟨t758, HA759, H⟩ := bind_some H
  refine (quitrentlaw03_begun.calls _ t758 _ ⟨HS.out.begin (l := []) (rest := [blk g755 #[.int .i64 a748, .int .i64 a749, .int .i64 a750, .int .i64 a751] 32])⟩ HA759).mono ?_
  rintro e_ w760 ⟨rfl, hS⟩
  have HS_ : Aside0 (Sep (fps []) w [blk g755 #[.int .i64 a748, .int .i64 a749, .int .i64 a750, .int .i64 a751] 32] w760) := ⟨HS.out.call (l := []) (rest := [blk g755 #[.int .i64 a748, .int .i64 a749, .int .i64 a750, .int .i64 a751] 32]) hS⟩
  clear HS hS
  have HS := HS_
  clear HS_
  by_cases c761 : t758 = true
  · have H := if_yes c761 H
    have c761b0 : t758 = true := c761
    clear c761
    have hc762 : w760.cell? ⟨g755, 0, none⟩ = some (.int .i64 a748) := blk_cellv (HS.out.at0) 0 rfl
    have hc763 : w760.cell? ⟨g755, 1, none⟩ = some (.int .i64 a749) := blk_cellv (HS.out.at0) 1 rfl
    have hc764 : w760.cell? ⟨g755, 2, none⟩ = some (.int .i64 a750) := blk_cellv (HS.out.at0) 2 rfl
    have hc765 : w760.cell? ⟨g755, 3, none⟩ = some (.int .i64 a751) := blk_cellv (HS.out.at0) 3 rfl
    go_wp2_with fail
    clear hc762 hc763 hc764 hc765
    obtain ⟨t766, HA767, H⟩ := bind_some H
    refine (plan_Check.calls a748 a749 a750 a751 t766 _ ⟨HS.out.begin (l := []) (rest := [blk g755 #[.int .i64 a748, .int .i64 a749, .int .i64 a750, .int .i64 a751] 32])⟩ HA767).mono ?_
    rintro e_ w768 ⟨rfl, hS⟩
    have HS_ : Aside0 (Sep (fps []) w [blk g755 #[.int .i64 a748, .int .i64 a749, .int .i64 a750, .int .i64 a751] 32] w768) := ⟨HS.out.call (l := []) (rest := [blk g755 #[.int .i64 a748, .int .i64 a749, .int .i64 a750, .int .i64 a751] 32]) hS⟩
    clear HS hS
    have HS := HS_
    clear HS_
    by_cases c769 : t766 = 0
    · have H := if_yes c769 H
      have c769b0 : (t766 == 0) = true := beq_iff_eq.mpr c769
      have c769b1 : (t766 != 0) = false := bne_eq_false_iff_eq.mpr c769
      clear c769
      have hc770 : w768.cell? ⟨g755, 0, none⟩ = some (.int .i64 a748) := blk_cellv (HS.out.at0) 0 rfl
      have hc771 : w768.cell? ⟨g755, 1, none⟩ = some (.int .i64 a749) := blk_cellv (HS.out.at0) 1 rfl
      have hc772 : w768.cell? ⟨g755, 2, none⟩ = some (.int .i64 a750) := blk_cellv (HS.out.at0) 2 rfl
      have hc773 : w768.cell? ⟨g755, 3, none⟩ = some (.int .i64 a751) := blk_cellv (HS.out.at0) 3 rfl
      go_wp2_with (first | ((with_reducible refine gate_dst (N := 9) rfl ?_); refine box_on ?hg (N := 9) ?hd (cs := #[.int .i64 0, .int .i64 0, .int .i64 0, .int .i64 0]) (t := 32) ?hr ?_; (case hd => rfl); (case hg => rfl); (case hr => first | (go_simp; done) | (go_simp; rfl)); intro g774 hg w775 hbox hb; clear hc770 hc771 hc772 hc773; have HS_ : Aside0 (Sep (fps []) w [blk g755 #[.int .i64 a748, .int .i64 a749, .int .i64 a750, .int .i64 a751] 32, blk g774 #[.int .i64 0, .int .i64 0, .int .i64 0, .int .i64 0] 32] w775) := ⟨HS.out.box hg hbox hb⟩; clear HS hg hbox hb; have HS := HS_; clear HS_; have hc777 : w775.cell? ⟨g774, 0, none⟩ = some (.int .i64 0) := blk_cellv (HS.out.at1) 0 rfl; have hz778 : w775.frozen? ⟨g774, 0, none⟩ = false := blk_fz (HS.out.at1) 0; have hc779 : w775.cell? ⟨g774, 1, none⟩ = some (.int .i64 0) := blk_cellv (HS.out.at1) 1 rfl; have hz780 : w775.frozen? ⟨g774, 1, none⟩ = false := blk_fz (HS.out.at1) 1; have hc781 : w775.cell? ⟨g774, 2, none⟩ = some (.int .i64 0) := blk_cellv (HS.out.at1) 2 rfl; have hz782 : w775.frozen? ⟨g774, 2, none⟩ = false := blk_fz (HS.out.at1) 2; have hc783 : w775.cell? ⟨g774, 3, none⟩ = some (.int .i64 0) := blk_cellv (HS.out.at1) 3 rfl; have hz784 : w775.frozen? ⟨g774, 3, none⟩ = false := blk_fz (HS.out.at1) 3) | ((with_reducible refine gate_store (t := 32) (p := 9) rfl ?_); refine store_event (w1 := (World.setCell (World.setCell (World.setCell (World.setCell w775 ⟨g774, 0, none⟩ (.int .i64 a748)) ⟨g774, 1, none⟩ (.int .i64 a749)) ⟨g774, 2, none⟩ (.int .i64 a750)) ⟨g774, 3, none⟩ (.int .i64 a751))) rfl (t := 32) (p := 9) rfl rfl ?hr ?_; (case hr => first | (go_simp; done) | (go_simp; rfl)); intro w785 hst; clear hc777 hz778 hc779 hz780 hc781 hz782 hc783 hz784; have hq0 : Sep (fps []) w [blk g755 #[.int .i64 a748, .int .i64 a749, .int .i64 a750, .int .i64 a751] 32, blk g774 #[.int .i64 a748, .int .i64 0, .int .i64 0, .int .i64 0] 32] (World.setCell w775 ⟨g774, 0, none⟩ (.int .i64 a748)) := (HS.out).set1 (l1 := [blk g755 #[.int .i64 a748, .int .i64 a749, .int .i64 a750, .int .i64 a751] 32]) (l2 := []) 0 (.int .i64 a748); have hq1 : Sep (fps []) w [blk g755 #[.int .i64 a748, .int .i64 a749, .int .i64 a750, .int .i64 a751] 32, blk g774 #[.int .i64 a748, .int .i64 a749, .int .i64 0, .int .i64 0] 32] (World.setCell (World.setCell w775 ⟨g774, 0, none⟩ (.int .i64 a748)) ⟨g774, 1, none⟩ (.int .i64 a749)) := (hq0).set1 (l1 := [blk g755 #[.int .i64 a748, .int .i64 a749, .int .i64 a750, .int .i64 a751] 32]) (l2 := []) 1 (.int .i64 a749); have hq2 : Sep (fps []) w [blk g755 #[.int .i64 a748, .int .i64 a749, .int .i64 a750, .int .i64 a751] 32, blk g774 #[.int .i64 a748, .int .i64 a749, .int .i64 a750, .int .i64 0] 32] (World.setCell (World.setCell (World.setCell w775 ⟨g774, 0, none⟩ (.int .i64 a748)) ⟨g774, 1, none⟩ (.int .i64 a749)) ⟨g774, 2, none⟩ (.int .i64 a750)) := (hq1).set1 (l1 := [blk g755 #[.int .i64 a748, .int .i64 a749, .int .i64 a750, .int .i64 a751] 32]) (l2 := []) 2 (.int .i64 a750); have hq3 : Sep (fps []) w [blk g755 #[.int .i64 a748, .int .i64 a749, .int .i64 a750, .int .i64 a751] 32, blk g774 #[.int .i64 a748, .int .i64 a749, .int .i64 a750, .int .i64 a751] 32] (World.setCell (World.setCell (World.setCell (World.setCell w775 ⟨g774, 0, none⟩ (.int .i64 a748)) ⟨g774, 1, none⟩ (.int .i64 a749)) ⟨g774, 2, none⟩ (.int .i64 a750)) ⟨g774, 3, none⟩ (.int .i64 a751)) := (hq2).set1 (l1 := [blk g755 #[.int .i64 a748, .int .i64 a749, .int .i64 a750, .int .i64 a751] 32]) (l2 := []) 3 (.int .i64 a751); have HS_ : Aside0 (Sep (fps []) w [blk g755 #[.int .i64 a748, .int .i64 a749, .int .i64 a750, .int .i64 a751] 32, blk g774 #[.int .i64 a748, .int .i64 a749, .int .i64 a750, .int .i64 a751] 32] w785) := ⟨by rw [hst]; exact hq3⟩; clear hq0 hq1 hq2 hq3; clear HS hst; have HS := HS_; clear HS_; have hc786 : w785.cell? ⟨g755, 3, none⟩ = some (.int .i64 a751) := blk_cellv (HS.out.at0) 3 rfl; have hc787 : w785.cell? ⟨g774, 3, none⟩ = some (.int .i64 a751) := blk_cellv (HS.out.at1) 3 rfl; have hz788 : w785.frozen? ⟨g774, 3, none⟩ = false := blk_fz (HS.out.at1) 3) | ((with_reducible refine gate_store (t := 3) (p := 28) rfl ?_); refine store_event (w1 := (World.setCell w785 ⟨g774, 3, none⟩ (.int .i64 (wrap64 (a751 + (wrap64 (a752))))))) rfl (t := 3) (p := 28) rfl rfl ?hr ?_; (case hr => first | (go_simp; done) | (go_simp; rfl)); intro w789 hst; clear hc786 hc787 hz788; have hq0 : Sep (fps []) w [blk g755 #[.int .i64 a748, .int .i64 a749, .int .i64 a750, .int .i64 a751] 32, blk g774 #[.int .i64 a748, .int .i64 a749, .int .i64 a750, .int .i64 (wrap64 (a751 + (wrap64 (a752))))] 32] (World.setCell w785 ⟨g774, 3, none⟩ (.int .i64 (wrap64 (a751 + (wrap64 (a752)))))) := (HS.out).set1 (l1 := [blk g755 #[.int .i64 a748, .int .i64 a749, .int .i64 a750, .int .i64 a751] 32]) (l2 := []) 3 (.int .i64 (wrap64 (a751 + (wrap64 (a752))))); have HS_ : Aside0 (Sep (fps []) w [blk g755 #[.int .i64 a748, .int .i64 a749, .int .i64 a750, .int .i64 a751] 32, blk g774 #[.int .i64 a748, .int .i64 a749, .int .i64 a750, .int .i64 (wrap64 (a751 + (wrap64 (a752))))] 32] w789) := ⟨by rw [hst]; exact hq0⟩; clear hq0; clear HS hst; have HS := HS_; clear HS_; have hc790 : w789.cell? ⟨g774, 0, none⟩ = some (.int .i64 a748) := blk_cellv (HS.out.at1) 0 rfl; have hc791 : w789.cell? ⟨g774, 1, none⟩ = some (.int .i64 a749) := blk_cellv (HS.out.at1) 1 rfl; have hc792 : w789.cell? ⟨g774, 2, none⟩ = some (.int .i64 a750) := blk_cellv (HS.out.at1) 2 rfl; have hc793 : w789.cell? ⟨g774, 3, none⟩ = some (.int .i64 (wrap64 (a751 + (wrap64 (a752))))) := blk_cellv (HS.out.at1) 3 rfl))
      clear hc790 hc791 hc792 hc793
      obtain ⟨t794, HA795, H⟩ := bind_some H
      refine (plan_Check.calls a748 a749 a750 (wrap64 (a751 + (wrap64 (a752)))) t794 _ ⟨HS.out.begin (l := []) (rest := [blk g755 #[.int .i64 a748, .int .i64 a749, .int .i64 a750, .int .i64 a751] 32, blk g774 #[.int .i64 a748, .int .i64 a749, .int .i64 a750, .int .i64 (wrap64 (a751 + (wrap64 (a752))))] 32])⟩ HA795).mono ?_
      rintro e_ w796 ⟨rfl, hS⟩
      have HS_ : Aside0 (Sep (fps []) w [blk g755 #[.int .i64 a748, .int .i64 a749, .int .i64 a750, .int .i64 a751] 32, blk g774 #[.int .i64 a748, .int .i64 a749, .int .i64 a750, .int .i64 (wrap64 (a751 + (wrap64 (a752))))] 32] w796) := ⟨HS.out.call (l := []) (rest := [blk g755 #[.int .i64 a748, .int .i64 a749, .int .i64 a750, .int .i64 a751] 32, blk g774 #[.int .i64 a748, .int .i64 a749, .int .i64 a750, .int .i64 (wrap64 (a751 + (wrap64 (a752))))] 32]) hS⟩
      clear HS hS
      have HS := HS_
      clear HS_
      by_cases c797 : t794 = 0
      · have H := if_yes c797 H
        have c797b0 : (t794 == 0) = true := beq_iff_eq.mpr c797
        have c797b1 : (t794 != 0) = false := bne_eq_false_iff_eq.mpr c797
        clear c797
        have hc798 : w796.cell? ⟨g755, 0, none⟩ = some (.int .i64 a748) := blk_cellv (HS.out.at0) 0 rfl
        have hc799 : w796.cell? ⟨g755, 1, none⟩ = some (.int .i64 a749) := blk_cellv (HS.out.at0) 1 rfl
        have hc800 : w796.cell? ⟨g755, 2, none⟩ = some (.int .i64 a750) := blk_cellv (HS.out.at0) 2 rfl
        have hc801 : w796.cell? ⟨g755, 3, none⟩ = some (.int .i64 a751) := blk_cellv (HS.out.at0) 3 rfl
        go_wp2_with fail
        clear hc798 hc799 hc800 hc801
        obtain ⟨t802, HA803, H⟩ := bind_some H
        refine (plan_Of.calls _ a748 a749 a750 a751 t802 _ ⟨HS.out.begin (l := []) (rest := [blk g755 #[.int .i64 a748, .int .i64 a749, .int .i64 a750, .int .i64 a751] 32, blk g774 #[.int .i64 a748, .int .i64 a749, .int .i64 a750, .int .i64 (wrap64 (a751 + (wrap64 (a752))))] 32])⟩ HA803).mono ?_
        rintro e_ w804 ⟨rfl, hS⟩
        have HS_ : Aside0 (Sep (fps []) w [blk g755 #[.int .i64 a748, .int .i64 a749, .int .i64 a750, .int .i64 a751] 32, blk g774 #[.int .i64 a748, .int .i64 a749, .int .i64 a750, .int .i64 (wrap64 (a751 + (wrap64 (a752))))] 32] w804) := ⟨HS.out.call (l := []) (rest := [blk g755 #[.int .i64 a748, .int .i64 a749, .int .i64 a750, .int .i64 a751] 32, blk g774 #[.int .i64 a748, .int .i64 a749, .int .i64 a750, .int .i64 (wrap64 (a751 + (wrap64 (a752))))] 32]) hS⟩
        clear HS hS
        have HS := HS_
        clear HS_
        go_wp2_with (first | ((with_reducible refine gate_dst (N := 10) rfl ?_); refine box_on ?hg (N := 10) ?hd (cs := #[.int .i64 0, .int .i64 0, .int .i64 0, .int .i64 0, .int .i64 0, .int .i64 0, .int .i64 0, .int .i64 0]) (t := 38) ?hr ?_; (case hd => rfl); (case hg => rfl); (case hr => first | (go_simp; done) | (go_simp; rfl)); intro g805 hg w806 hbox hb; have HS_ : Aside0 (Sep (fps []) w [blk g755 #[.int .i64 a748, .int .i64 a749, .int .i64 a750, .int .i64 a751] 32, blk g774 #[.int .i64 a748, .int .i64 a749, .int .i64 a750, .int .i64 (wrap64 (a751 + (wrap64 (a752))))] 32, blk g805 #[.int .i64 0, .int .i64 0, .int .i64 0, .int .i64 0, .int .i64 0, .int .i64 0, .int .i64 0, .int .i64 0] 38] w806) := ⟨HS.out.box hg hbox hb⟩; clear HS hg hbox hb; have HS := HS_; clear HS_; have hc808 : w806.cell? ⟨g805, 0, none⟩ = some (.int .i64 0) := blk_cellv (HS.out.at2) 0 rfl; have hz809 : w806.frozen? ⟨g805, 0, none⟩ = false := blk_fz (HS.out.at2) 0; have hc810 : w806.cell? ⟨g805, 1, none⟩ = some (.int .i64 0) := blk_cellv (HS.out.at2) 1 rfl; have hz811 : w806.frozen? ⟨g805, 1, none⟩ = false := blk_fz (HS.out.at2) 1; have hc812 : w806.cell? ⟨g805, 2, none⟩ = some (.int .i64 0) := blk_cellv (HS.out.at2) 2 rfl; have hz813 : w806.frozen? ⟨g805, 2, none⟩ = false := blk_fz (HS.out.at2) 2; have hc814 : w806.cell? ⟨g805, 3, none⟩ = some (.int .i64 0) := blk_cellv (HS.out.at2) 3 rfl; have hz815 : w806.frozen? ⟨g805, 3, none⟩ = false := blk_fz (HS.out.at2) 3; have hc816 : w806.cell? ⟨g805, 4, none⟩ = some (.int .i64 0) := blk_cellv (HS.out.at2) 4 rfl; have hz817 : w806.frozen? ⟨g805, 4, none⟩ = false := blk_fz (HS.out.at2) 4; have hc818 : w806.cell? ⟨g805, 5, none⟩ = some (.int .i64 0) := blk_cellv (HS.out.at2) 5 rfl; have hz819 : w806.frozen? ⟨g805, 5, none⟩ = false := blk_fz (HS.out.at2) 5; have hc820 : w806.cell? ⟨g805, 6, none⟩ = some (.int .i64 0) := blk_cellv (HS.out.at2) 6 rfl; have hz821 : w806.frozen? ⟨g805, 6, none⟩ = false := blk_fz (HS.out.at2) 6; have hc822 : w806.cell? ⟨g805, 7, none⟩ = some (.int .i64 0) := blk_cellv (HS.out.at2) 7 rfl; have hz823 : w806.frozen? ⟨g805, 7, none⟩ = false := blk_fz (HS.out.at2) 7) | ((with_reducible refine gate_store (t := 38) (p := 10) rfl ?_); refine store_event (w1 := (World.setCell (World.setCell (World.setCell (World.setCell (World.setCell (World.setCell (World.setCell (World.setCell w806 ⟨g805, 0, none⟩ (.int .i64 t802.1)) ⟨g805, 1, none⟩ (.int .i64 t802.2.1)) ⟨g805, 2, none⟩ (.int .i64 t802.2.2.1)) ⟨g805, 3, none⟩ (.int .i64 t802.2.2.2.1)) ⟨g805, 4, none⟩ (.int .i64 t802.2.2.2.2.1)) ⟨g805, 5, none⟩ (.int .i64 t802.2.2.2.2.2.1)) ⟨g805, 6, none⟩ (.int .i64 t802.2.2.2.2.2.2.1)) ⟨g805, 7, none⟩ (.int .i64 t802.2.2.2.2.2.2.2.1))) rfl (t := 38) (p := 10) rfl rfl ?hr ?_; (case hr => first | (go_simp; done) | (go_simp; rfl)); intro w824 hst; clear hc808 hz809 hc810 hz811 hc812 hz813 hc814 hz815 hc816 hz817 hc818 hz819 hc820 hz821 hc822 hz823; have hq0 : Sep (fps []) w [blk g755 #[.int .i64 a748, .int .i64 a749, .int .i64 a750, .int .i64 a751] 32, blk g774 #[.int .i64 a748, .int .i64 a749, .int .i64 a750, .int .i64 (wrap64 (a751 + (wrap64 (a752))))] 32, blk g805 #[.int .i64 t802.1, .int .i64 0, .int .i64 0, .int .i64 0, .int .i64 0, .int .i64 0, .int .i64 0, .int .i64 0] 38] (World.setCell w806 ⟨g805, 0, none⟩ (.int .i64 t802.1)) := (HS.out).set1 (l1 := [blk g755 #[.int .i64 a748, .int .i64 a749, .int .i64 a750, .int .i64 a751] 32, blk g774 #[.int .i64 a748, .int .i64 a749, .int .i64 a750, .int .i64 (wrap64 (a751 + (wrap64 (a752))))] 32]) (l2 := []) 0 (.int .i64 t802.1); have hq1 : Sep (fps []) w [blk g755 #[.int .i64 a748, .int .i64 a749, .int .i64 a750, .int .i64 a751] 32, blk g774 #[.int .i64 a748, .int .i64 a749, .int .i64 a750, .int .i64 (wrap64 (a751 + (wrap64 (a752))))] 32, blk g805 #[.int .i64 t802.1, .int .i64 t802.2.1, .int .i64 0, .int .i64 0, .int .i64 0, .int .i64 0, .int .i64 0, .int .i64 0] 38] (World.setCell (World.setCell w806 ⟨g805, 0, none⟩ (.int .i64 t802.1)) ⟨g805, 1, none⟩ (.int .i64 t802.2.1)) := (hq0).set1 (l1 := [blk g755 #[.int .i64 a748, .int .i64 a749, .int .i64 a750, .int .i64 a751] 32, blk g774 #[.int .i64 a748, .int .i64 a749, .int .i64 a750, .int .i64 (wrap64 (a751 + (wrap64 (a752))))] 32]) (l2 := []) 1 (.int .i64 t802.2.1); have hq2 : Sep (fps []) w [blk g755 #[.int .i64 a748, .int .i64 a749, .int .i64 a750, .int .i64 a751] 32, blk g774 #[.int .i64 a748, .int .i64 a749, .int .i64 a750, .int .i64 (wrap64 (a751 + (wrap64 (a752))))] 32, blk g805 #[.int .i64 t802.1, .int .i64 t802.2.1, .int .i64 t802.2.2.1, .int .i64 0, .int .i64 0, .int .i64 0, .int .i64 0, .int .i64 0] 38] (World.setCell (World.setCell (World.setCell w806 ⟨g805, 0, none⟩ (.int .i64 t802.1)) ⟨g805, 1, none⟩ (.int .i64 t802.2.1)) ⟨g805, 2, none⟩ (.int .i64 t802.2.2.1)) := (hq1).set1 (l1 := [blk g755 #[.int .i64 a748, .int .i64 a749, .int .i64 a750, .int .i64 a751] 32, blk g774 #[.int .i64 a748, .int .i64 a749, .int .i64 a750, .int .i64 (wrap64 (a751 + (wrap64 (a752))))] 32]) (l2 := []) 2 (.int .i64 t802.2.2.1); have hq3 : Sep (fps []) w [blk g755 #[.int .i64 a748, .int .i64 a749, .int .i64 a750, .int .i64 a751] 32, blk g774 #[.int .i64 a748, .int .i64 a749, .int .i64 a750, .int .i64 (wrap64 (a751 + (wrap64 (a752))))] 32, blk g805 #[.int .i64 t802.1, .int .i64 t802.2.1, .int .i64 t802.2.2.1, .int .i64 t802.2.2.2.1, .int .i64 0, .int .i64 0, .int .i64 0, .int .i64 0] 38] (World.setCell (World.setCell (World.setCell (World.setCell w806 ⟨g805, 0, none⟩ (.int .i64 t802.1)) ⟨g805, 1, none⟩ (.int .i64 t802.2.1)) ⟨g805, 2, none⟩ (.int .i64 t802.2.2.1)) ⟨g805, 3, none⟩ (.int .i64 t802.2.2.2.1)) := (hq2).set1 (l1 := [blk g755 #[.int .i64 a748, .int .i64 a749, .int .i64 a750, .int .i64 a751] 32, blk g774 #[.int .i64 a748, .int .i64 a749, .int .i64 a750, .int .i64 (wrap64 (a751 + (wrap64 (a752))))] 32]) (l2 := []) 3 (.int .i64 t802.2.2.2.1); have hq4 : Sep (fps []) w [blk g755 #[.int .i64 a748, .int .i64 a749, .int .i64 a750, .int .i64 a751] 32, blk g774 #[.int .i64 a748, .int .i64 a749, .int .i64 a750, .int .i64 (wrap64 (a751 + (wrap64 (a752))))] 32, blk g805 #[.int .i64 t802.1, .int .i64 t802.2.1, .int .i64 t802.2.2.1, .int .i64 t802.2.2.2.1, .int .i64 t802.2.2.2.2.1, .int .i64 0, .int .i64 0, .int .i64 0] 38] (World.setCell (World.setCell (World.setCell (World.setCell (World.setCell w806 ⟨g805, 0, none⟩ (.int .i64 t802.1)) ⟨g805, 1, none⟩ (.int .i64 t802.2.1)) ⟨g805, 2, none⟩ (.int .i64 t802.2.2.1)) ⟨g805, 3, none⟩ (.int .i64 t802.2.2.2.1)) ⟨g805, 4, none⟩ (.int .i64 t802.2.2.2.2.1)) := (hq3).set1 (l1 := [blk g755 #[.int .i64 a748, .int .i64 a749, .int .i64 a750, .int .i64 a751] 32, blk g774 #[.int .i64 a748, .int .i64 a749, .int .i64 a750, .int .i64 (wrap64 (a751 + (wrap64 (a752))))] 32]) (l2 := []) 4 (.int .i64 t802.2.2.2.2.1); have hq5 : Sep (fps []) w [blk g755 #[.int .i64 a748, .int .i64 a749, .int .i64 a750, .int .i64 a751] 32, blk g774 #[.int .i64 a748, .int .i64 a749, .int .i64 a750, .int .i64 (wrap64 (a751 + (wrap64 (a752))))] 32, blk g805 #[.int .i64 t802.1, .int .i64 t802.2.1, .int .i64 t802.2.2.1, .int .i64 t802.2.2.2.1, .int .i64 t802.2.2.2.2.1, .int .i64 t802.2.2.2.2.2.1, .int .i64 0, .int .i64 0] 38] (World.setCell (World.setCell (World.setCell (World.setCell (World.setCell (World.setCell w806 ⟨g805, 0, none⟩ (.int .i64 t802.1)) ⟨g805, 1, none⟩ (.int .i64 t802.2.1)) ⟨g805, 2, none⟩ (.int .i64 t802.2.2.1)) ⟨g805, 3, none⟩ (.int .i64 t802.2.2.2.1)) ⟨g805, 4, none⟩ (.int .i64 t802.2.2.2.2.1)) ⟨g805, 5, none⟩ (.int .i64 t802.2.2.2.2.2.1)) := (hq4).set1 (l1 := [blk g755 #[.int .i64 a748, .int .i64 a749, .int .i64 a750, .int .i64 a751] 32, blk g774 #[.int .i64 a748, .int .i64 a749, .int .i64 a750, .int .i64 (wrap64 (a751 + (wrap64 (a752))))] 32]) (l2 := []) 5 (.int .i64 t802.2.2.2.2.2.1); have hq6 : Sep (fps []) w [blk g755 #[.int .i64 a748, .int .i64 a749, .int .i64 a750, .int .i64 a751] 32, blk g774 #[.int .i64 a748, .int .i64 a749, .int .i64 a750, .int .i64 (wrap64 (a751 + (wrap64 (a752))))] 32, blk g805 #[.int .i64 t802.1, .int .i64 t802.2.1, .int .i64 t802.2.2.1, .int .i64 t802.2.2.2.1, .int .i64 t802.2.2.2.2.1, .int .i64 t802.2.2.2.2.2.1, .int .i64 t802.2.2.2.2.2.2.1, .int .i64 0] 38] (World.setCell (World.setCell (World.setCell (World.setCell (World.setCell (World.setCell (World.setCell w806 ⟨g805, 0, none⟩ (.int .i64 t802.1)) ⟨g805, 1, none⟩ (.int .i64 t802.2.1)) ⟨g805, 2, none⟩ (.int .i64 t802.2.2.1)) ⟨g805, 3, none⟩ (.int .i64 t802.2.2.2.1)) ⟨g805, 4, none⟩ (.int .i64 t802.2.2.2.2.1)) ⟨g805, 5, none⟩ (.int .i64 t802.2.2.2.2.2.1)) ⟨g805, 6, none⟩ (.int .i64 t802.2.2.2.2.2.2.1)) := (hq5).set1 (l1 := [blk g755 #[.int .i64 a748, .int .i64 a749, .int .i64 a750, .int .i64 a751] 32, blk g774 #[.int .i64 a748, .int .i64 a749, .int .i64 a750, .int .i64 (wrap64 (a751 + (wrap64 (a752))))] 32]) (l2 := []) 6 (.int .i64 t802.2.2.2.2.2.2.1); have hq7 : Sep (fps []) w [blk g755 #[.int .i64 a748, .int .i64 a749, .int .i64 a750, .int .i64 a751] 32, blk g774 #[.int .i64 a748, .int .i64 a749, .int .i64 a750, .int .i64 (wrap64 (a751 + (wrap64 (a752))))] 32, blk g805 #[.int .i64 t802.1, .int .i64 t802.2.1, .int .i64 t802.2.2.1, .int .i64 t802.2.2.2.1, .int .i64 t802.2.2.2.2.1, .int .i64 t802.2.2.2.2.2.1, .int .i64 t802.2.2.2.2.2.2.1, .int .i64 t802.2.2.2.2.2.2.2.1] 38] (World.setCell (World.setCell (World.setCell (World.setCell (World.setCell (World.setCell (World.setCell (World.setCell w806 ⟨g805, 0, none⟩ (.int .i64 t802.1)) ⟨g805, 1, none⟩ (.int .i64 t802.2.1)) ⟨g805, 2, none⟩ (.int .i64 t802.2.2.1)) ⟨g805, 3, none⟩ (.int .i64 t802.2.2.2.1)) ⟨g805, 4, none⟩ (.int .i64 t802.2.2.2.2.1)) ⟨g805, 5, none⟩ (.int .i64 t802.2.2.2.2.2.1)) ⟨g805, 6, none⟩ (.int .i64 t802.2.2.2.2.2.2.1)) ⟨g805, 7, none⟩ (.int .i64 t802.2.2.2.2.2.2.2.1)) := (hq6).set1 (l1 := [blk g755 #[.int .i64 a748, .int .i64 a749, .int .i64 a750, .int .i64 a751] 32, blk g774 #[.int .i64 a748, .int .i64 a749, .int .i64 a750, .int .i64 (wrap64 (a751 + (wrap64 (a752))))] 32]) (l2 := []) 7 (.int .i64 t802.2.2.2.2.2.2.2.1); have HS_ : Aside0 (Sep (fps []) w [blk g755 #[.int .i64 a748, .int .i64 a749, .int .i64 a750, .int .i64 a751] 32, blk g774 #[.int .i64 a748, .int .i64 a749, .int .i64 a750, .int .i64 (wrap64 (a751 + (wrap64 (a752))))] 32, blk g805 #[.int .i64 t802.1, .int .i64 t802.2.1, .int .i64 t802.2.2.1, .int .i64 t802.2.2.2.1, .int .i64 t802.2.2.2.2.1, .int .i64 t802.2.2.2.2.2.1, .int .i64 t802.2.2.2.2.2.2.1, .int .i64 t802.2.2.2.2.2.2.2.1] 38] w824) := ⟨by rw [hst]; exact hq7⟩; clear hq0 hq1 hq2 hq3 hq4 hq5 hq6 hq7; clear HS hst; have HS := HS_; clear HS_; have hc825 : w824.cell? ⟨g774, 0, none⟩ = some (.int .i64 a748) := blk_cellv (HS.out.at1) 0 rfl; have hc826 : w824.cell? ⟨g774, 1, none⟩ = some (.int .i64 a749) := blk_cellv (HS.out.at1) 1 rfl; have hc827 : w824.cell? ⟨g774, 2, none⟩ = some (.int .i64 a750) := blk_cellv (HS.out.at1) 2 rfl; have hc828 : w824.cell? ⟨g774, 3, none⟩ = some (.int .i64 (wrap64 (a751 + (wrap64 (a752))))) := blk_cellv (HS.out.at1) 3 rfl))
        clear hc825 hc826 hc827 hc828
        obtain ⟨t829, HA830, H⟩ := bind_some H
        refine (plan_Of.calls _ a748 a749 a750 (wrap64 (a751 + (wrap64 (a752)))) t829 _ ⟨HS.out.begin (l := []) (rest := [blk g755 #[.int .i64 a748, .int .i64 a749, .int .i64 a750, .int .i64 a751] 32, blk g774 #[.int .i64 a748, .int .i64 a749, .int .i64 a750, .int .i64 (wrap64 (a751 + (wrap64 (a752))))] 32, blk g805 #[.int .i64 t802.1, .int .i64 t802.2.1, .int .i64 t802.2.2.1, .int .i64 t802.2.2.2.1, .int .i64 t802.2.2.2.2.1, .int .i64 t802.2.2.2.2.2.1, .int .i64 t802.2.2.2.2.2.2.1, .int .i64 t802.2.2.2.2.2.2.2.1] 38])⟩ HA830).mono ?_
        rintro e_ w831 ⟨rfl, hS⟩
        have HS_ : Aside0 (Sep (fps []) w [blk g755 #[.int .i64 a748, .int .i64 a749, .int .i64 a750, .int .i64 a751] 32, blk g774 #[.int .i64 a748, .int .i64 a749, .int .i64 a750, .int .i64 (wrap64 (a751 + (wrap64 (a752))))] 32, blk g805 #[.int .i64 t802.1, .int .i64 t802.2.1, .int .i64 t802.2.2.1, .int .i64 t802.2.2.2.1, .int .i64 t802.2.2.2.2.1, .int .i64 t802.2.2.2.2.2.1, .int .i64 t802.2.2.2.2.2.2.1, .int .i64 t802.2.2.2.2.2.2.2.1] 38] w831) := ⟨HS.out.call (l := []) (rest := [blk g755 #[.int .i64 a748, .int .i64 a749, .int .i64 a750, .int .i64 a751] 32, blk g774 #[.int .i64 a748, .int .i64 a749, .int .i64 a750, .int .i64 (wrap64 (a751 + (wrap64 (a752))))] 32, blk g805 #[.int .i64 t802.1, .int .i64 t802.2.1, .int .i64 t802.2.2.1, .int .i64 t802.2.2.2.1, .int .i64 t802.2.2.2.2.1, .int .i64 t802.2.2.2.2.2.1, .int .i64 t802.2.2.2.2.2.2.1, .int .i64 t802.2.2.2.2.2.2.2.1] 38]) hS⟩
        clear HS hS
        have HS := HS_
        clear HS_
        go_wp2_with (first | ((with_reducible refine gate_dst (N := 12) rfl ?_); refine box_on ?hg (N := 12) ?hd (cs := #[.int .i64 0, .int .i64 0, .int .i64 0, .int .i64 0, .int .i64 0, .int .i64 0, .int .i64 0, .int .i64 0]) (t := 38) ?hr ?_; (case hd => rfl); (case hg => rfl); (case hr => first | (go_simp; done) | (go_simp; rfl)); intro g832 hg w833 hbox hb; have HS_ : Aside0 (Sep (fps []) w [blk g755 #[.int .i64 a748, .int .i64 a749, .int .i64 a750, .int .i64 a751] 32, blk g774 #[.int .i64 a748, .int .i64 a749, .int .i64 a750, .int .i64 (wrap64 (a751 + (wrap64 (a752))))] 32, blk g805 #[.int .i64 t802.1, .int .i64 t802.2.1, .int .i64 t802.2.2.1, .int .i64 t802.2.2.2.1, .int .i64 t802.2.2.2.2.1, .int .i64 t802.2.2.2.2.2.1, .int .i64 t802.2.2.2.2.2.2.1, .int .i64 t802.2.2.2.2.2.2.2.1] 38, blk g832 #[.int .i64 0, .int .i64 0, .int .i64 0, .int .i64 0, .int .i64 0, .int .i64 0, .int .i64 0, .int .i64 0] 38] w833) := ⟨HS.out.box hg hbox hb⟩; clear HS hg hbox hb; have HS := HS_; clear HS_; have hc835 : w833.cell? ⟨g832, 0, none⟩ = some (.int .i64 0) := blk_cellv (HS.out.at3) 0 rfl; have hz836 : w833.frozen? ⟨g832, 0, none⟩ = false := blk_fz (HS.out.at3) 0; have hc837 : w833.cell? ⟨g832, 1, none⟩ = some (.int .i64 0) := blk_cellv (HS.out.at3) 1 rfl; have hz838 : w833.frozen? ⟨g832, 1, none⟩ = false := blk_fz (HS.out.at3) 1; have hc839 : w833.cell? ⟨g832, 2, none⟩ = some (.int .i64 0) := blk_cellv (HS.out.at3) 2 rfl; have hz840 : w833.frozen? ⟨g832, 2, none⟩ = false := blk_fz (HS.out.at3) 2; have hc841 : w833.cell? ⟨g832, 3, none⟩ = some (.int .i64 0) := blk_cellv (HS.out.at3) 3 rfl; have hz842 : w833.frozen? ⟨g832, 3, none⟩ = false := blk_fz (HS.out.at3) 3; have hc843 : w833.cell? ⟨g832, 4, none⟩ = some (.int .i64 0) := blk_cellv (HS.out.at3) 4 rfl; have hz844 : w833.frozen? ⟨g832, 4, none⟩ = false := blk_fz (HS.out.at3) 4; have hc845 : w833.cell? ⟨g832, 5, none⟩ = some (.int .i64 0) := blk_cellv (HS.out.at3) 5 rfl; have hz846 : w833.frozen? ⟨g832, 5, none⟩ = false := blk_fz (HS.out.at3) 5; have hc847 : w833.cell? ⟨g832, 6, none⟩ = some (.int .i64 0) := blk_cellv (HS.out.at3) 6 rfl; have hz848 : w833.frozen? ⟨g832, 6, none⟩ = false := blk_fz (HS.out.at3) 6; have hc849 : w833.cell? ⟨g832, 7, none⟩ = some (.int .i64 0) := blk_cellv (HS.out.at3) 7 rfl; have hz850 : w833.frozen? ⟨g832, 7, none⟩ = false := blk_fz (HS.out.at3) 7) | ((with_reducible refine gate_store (t := 38) (p := 12) rfl ?_); refine store_event (w1 := (World.setCell (World.setCell (World.setCell (World.setCell (World.setCell (World.setCell (World.setCell (World.setCell w833 ⟨g832, 0, none⟩ (.int .i64 t829.1)) ⟨g832, 1, none⟩ (.int .i64 t829.2.1)) ⟨g832, 2, none⟩ (.int .i64 t829.2.2.1)) ⟨g832, 3, none⟩ (.int .i64 t829.2.2.2.1)) ⟨g832, 4, none⟩ (.int .i64 t829.2.2.2.2.1)) ⟨g832, 5, none⟩ (.int .i64 t829.2.2.2.2.2.1)) ⟨g832, 6, none⟩ (.int .i64 t829.2.2.2.2.2.2.1)) ⟨g832, 7, none⟩ (.int .i64 t829.2.2.2.2.2.2.2.1))) rfl (t := 38) (p := 12) rfl rfl ?hr ?_; (case hr => first | (go_simp; done) | (go_simp; rfl)); intro w851 hst; clear hc835 hz836 hc837 hz838 hc839 hz840 hc841 hz842 hc843 hz844 hc845 hz846 hc847 hz848 hc849 hz850; have hq0 : Sep (fps []) w [blk g755 #[.int .i64 a748, .int .i64 a749, .int .i64 a750, .int .i64 a751] 32, blk g774 #[.int .i64 a748, .int .i64 a749, .int .i64 a750, .int .i64 (wrap64 (a751 + (wrap64 (a752))))] 32, blk g805 #[.int .i64 t802.1, .int .i64 t802.2.1, .int .i64 t802.2.2.1, .int .i64 t802.2.2.2.1, .int .i64 t802.2.2.2.2.1, .int .i64 t802.2.2.2.2.2.1, .int .i64 t802.2.2.2.2.2.2.1, .int .i64 t802.2.2.2.2.2.2.2.1] 38, blk g832 #[.int .i64 t829.1, .int .i64 0, .int .i64 0, .int .i64 0, .int .i64 0, .int .i64 0, .int .i64 0, .int .i64 0] 38] (World.setCell w833 ⟨g832, 0, none⟩ (.int .i64 t829.1)) := (HS.out).set1 (l1 := [blk g755 #[.int .i64 a748, .int .i64 a749, .int .i64 a750, .int .i64 a751] 32, blk g774 #[.int .i64 a748, .int .i64 a749, .int .i64 a750, .int .i64 (wrap64 (a751 + (wrap64 (a752))))] 32, blk g805 #[.int .i64 t802.1, .int .i64 t802.2.1, .int .i64 t802.2.2.1, .int .i64 t802.2.2.2.1, .int .i64 t802.2.2.2.2.1, .int .i64 t802.2.2.2.2.2.1, .int .i64 t802.2.2.2.2.2.2.1, .int .i64 t802.2.2.2.2.2.2.2.1] 38]) (l2 := []) 0 (.int .i64 t829.1); have hq1 : Sep (fps []) w [blk g755 #[.int .i64 a748, .int .i64 a749, .int .i64 a750, .int .i64 a751] 32, blk g774 #[.int .i64 a748, .int .i64 a749, .int .i64 a750, .int .i64 (wrap64 (a751 + (wrap64 (a752))))] 32, blk g805 #[.int .i64 t802.1, .int .i64 t802.2.1, .int .i64 t802.2.2.1, .int .i64 t802.2.2.2.1, .int .i64 t802.2.2.2.2.1, .int .i64 t802.2.2.2.2.2.1, .int .i64 t802.2.2.2.2.2.2.1, .int .i64 t802.2.2.2.2.2.2.2.1] 38, blk g832 #[.int .i64 t829.1, .int .i64 t829.2.1, .int .i64 0, .int .i64 0, .int .i64 0, .int .i64 0, .int .i64 0, .int .i64 0] 38] (World.setCell (World.setCell w833 ⟨g832, 0, none⟩ (.int .i64 t829.1)) ⟨g832, 1, none⟩ (.int .i64 t829.2.1)) := (hq0).set1 (l1 := [blk g755 #[.int .i64 a748, .int .i64 a749, .int .i64 a750, .int .i64 a751] 32, blk g774 #[.int .i64 a748, .int .i64 a749, .int .i64 a750, .int .i64 (wrap64 (a751 + (wrap64 (a752))))] 32, blk g805 #[.int .i64 t802.1, .int .i64 t802.2.1, .int .i64 t802.2.2.1, .int .i64 t802.2.2.2.1, .int .i64 t802.2.2.2.2.1, .int .i64 t802.2.2.2.2.2.1, .int .i64 t802.2.2.2.2.2.2.1, .int .i64 t802.2.2.2.2.2.2.2.1] 38]) (l2 := []) 1 (.int .i64 t829.2.1); have hq2 : Sep (fps []) w [blk g755 #[.int .i64 a748, .int .i64 a749, .int .i64 a750, .int .i64 a751] 32, blk g774 #[.int .i64 a748, .int .i64 a749, .int .i64 a750, .int .i64 (wrap64 (a751 + (wrap64 (a752))))] 32, blk g805 #[.int .i64 t802.1, .int .i64 t802.2.1, .int .i64 t802.2.2.1, .int .i64 t802.2.2.2.1, .int .i64 t802.2.2.2.2.1, .int .i64 t802.2.2.2.2.2.1, .int .i64 t802.2.2.2.2.2.2.1, .int .i64 t802.2.2.2.2.2.2.2.1] 38, blk g832 #[.int .i64 t829.1, .int .i64 t829.2.1, .int .i64 t829.2.2.1, .int .i64 0, .int .i64 0, .int .i64 0, .int .i64 0, .int .i64 0] 38] (World.setCell (World.setCell (World.setCell w833 ⟨g832, 0, none⟩ (.int .i64 t829.1)) ⟨g832, 1, none⟩ (.int .i64 t829.2.1)) ⟨g832, 2, none⟩ (.int .i64 t829.2.2.1)) := (hq1).set1 (l1 := [blk g755 #[.int .i64 a748, .int .i64 a749, .int .i64 a750, .int .i64 a751] 32, blk g774 #[.int .i64 a748, .int .i64 a749, .int .i64 a750, .int .i64 (wrap64 (a751 + (wrap64 (a752))))] 32, blk g805 #[.int .i64 t802.1, .int .i64 t802.2.1, .int .i64 t802.2.2.1, .int .i64 t802.2.2.2.1, .int .i64 t802.2.2.2.2.1, .int .i64 t802.2.2.2.2.2.1, .int .i64 t802.2.2.2.2.2.2.1, .int .i64 t802.2.2.2.2.2.2.2.1] 38]) (l2 := []) 2 (.int .i64 t829.2.2.1); have hq3 : Sep (fps []) w [blk g755 #[.int .i64 a748, .int .i64 a749, .int .i64 a750, .int .i64 a751] 32, blk g774 #[.int .i64 a748, .int .i64 a749, .int .i64 a750, .int .i64 (wrap64 (a751 + (wrap64 (a752))))] 32, blk g805 #[.int .i64 t802.1, .int .i64 t802.2.1, .int .i64 t802.2.2.1, .int .i64 t802.2.2.2.1, .int .i64 t802.2.2.2.2.1, .int .i64 t802.2.2.2.2.2.1, .int .i64 t802.2.2.2.2.2.2.1, .int .i64 t802.2.2.2.2.2.2.2.1] 38, blk g832 #[.int .i64 t829.1, .int .i64 t829.2.1, .int .i64 t829.2.2.1, .int .i64 t829.2.2.2.1, .int .i64 0, .int .i64 0, .int .i64 0, .int .i64 0] 38] (World.setCell (World.setCell (World.setCell (World.setCell w833 ⟨g832, 0, none⟩ (.int .i64 t829.1)) ⟨g832, 1, none⟩ (.int .i64 t829.2.1)) ⟨g832, 2, none⟩ (.int .i64 t829.2.2.1)) ⟨g832, 3, none⟩ (.int .i64 t829.2.2.2.1)) := (hq2).set1 (l1 := [blk g755 #[.int .i64 a748, .int .i64 a749, .int .i64 a750, .int .i64 a751] 32, blk g774 #[.int .i64 a748, .int .i64 a749, .int .i64 a750, .int .i64 (wrap64 (a751 + (wrap64 (a752))))] 32, blk g805 #[.int .i64 t802.1, .int .i64 t802.2.1, .int .i64 t802.2.2.1, .int .i64 t802.2.2.2.1, .int .i64 t802.2.2.2.2.1, .int .i64 t802.2.2.2.2.2.1, .int .i64 t802.2.2.2.2.2.2.1, .int .i64 t802.2.2.2.2.2.2.2.1] 38]) (l2 := []) 3 (.int .i64 t829.2.2.2.1); have hq4 : Sep (fps []) w [blk g755 #[.int .i64 a748, .int .i64 a749, .int .i64 a750, .int .i64 a751] 32, blk g774 #[.int .i64 a748, .int .i64 a749, .int .i64 a750, .int .i64 (wrap64 (a751 + (wrap64 (a752))))] 32, blk g805 #[.int .i64 t802.1, .int .i64 t802.2.1, .int .i64 t802.2.2.1, .int .i64 t802.2.2.2.1, .int .i64 t802.2.2.2.2.1, .int .i64 t802.2.2.2.2.2.1, .int .i64 t802.2.2.2.2.2.2.1, .int .i64 t802.2.2.2.2.2.2.2.1] 38, blk g832 #[.int .i64 t829.1, .int .i64 t829.2.1, .int .i64 t829.2.2.1, .int .i64 t829.2.2.2.1, .int .i64 t829.2.2.2.2.1, .int .i64 0, .int .i64 0, .int .i64 0] 38] (World.setCell (World.setCell (World.setCell (World.setCell (World.setCell w833 ⟨g832, 0, none⟩ (.int .i64 t829.1)) ⟨g832, 1, none⟩ (.int .i64 t829.2.1)) ⟨g832, 2, none⟩ (.int .i64 t829.2.2.1)) ⟨g832, 3, none⟩ (.int .i64 t829.2.2.2.1)) ⟨g832, 4, none⟩ (.int .i64 t829.2.2.2.2.1)) := (hq3).set1 (l1 := [blk g755 #[.int .i64 a748, .int .i64 a749, .int .i64 a750, .int .i64 a751] 32, blk g774 #[.int .i64 a748, .int .i64 a749, .int .i64 a750, .int .i64 (wrap64 (a751 + (wrap64 (a752))))] 32, blk g805 #[.int .i64 t802.1, .int .i64 t802.2.1, .int .i64 t802.2.2.1, .int .i64 t802.2.2.2.1, .int .i64 t802.2.2.2.2.1, .int .i64 t802.2.2.2.2.2.1, .int .i64 t802.2.2.2.2.2.2.1, .int .i64 t802.2.2.2.2.2.2.2.1] 38]) (l2 := []) 4 (.int .i64 t829.2.2.2.2.1); have hq5 : Sep (fps []) w [blk g755 #[.int .i64 a748, .int .i64 a749, .int .i64 a750, .int .i64 a751] 32, blk g774 #[.int .i64 a748, .int .i64 a749, .int .i64 a750, .int .i64 (wrap64 (a751 + (wrap64 (a752))))] 32, blk g805 #[.int .i64 t802.1, .int .i64 t802.2.1, .int .i64 t802.2.2.1, .int .i64 t802.2.2.2.1, .int .i64 t802.2.2.2.2.1, .int .i64 t802.2.2.2.2.2.1, .int .i64 t802.2.2.2.2.2.2.1, .int .i64 t802.2.2.2.2.2.2.2.1] 38, blk g832 #[.int .i64 t829.1, .int .i64 t829.2.1, .int .i64 t829.2.2.1, .int .i64 t829.2.2.2.1, .int .i64 t829.2.2.2.2.1, .int .i64 t829.2.2.2.2.2.1, .int .i64 0, .int .i64 0] 38] (World.setCell (World.setCell (World.setCell (World.setCell (World.setCell (World.setCell w833 ⟨g832, 0, none⟩ (.int .i64 t829.1)) ⟨g832, 1, none⟩ (.int .i64 t829.2.1)) ⟨g832, 2, none⟩ (.int .i64 t829.2.2.1)) ⟨g832, 3, none⟩ (.int .i64 t829.2.2.2.1)) ⟨g832, 4, none⟩ (.int .i64 t829.2.2.2.2.1)) ⟨g832, 5, none⟩ (.int .i64 t829.2.2.2.2.2.1)) := (hq4).set1 (l1 := [blk g755 #[.int .i64 a748, .int .i64 a749, .int .i64 a750, .int .i64 a751] 32, blk g774 #[.int .i64 a748, .int .i64 a749, .int .i64 a750, .int .i64 (wrap64 (a751 + (wrap64 (a752))))] 32, blk g805 #[.int .i64 t802.1, .int .i64 t802.2.1, .int .i64 t802.2.2.1, .int .i64 t802.2.2.2.1, .int .i64 t802.2.2.2.2.1, .int .i64 t802.2.2.2.2.2.1, .int .i64 t802.2.2.2.2.2.2.1, .int .i64 t802.2.2.2.2.2.2.2.1] 38]) (l2 := []) 5 (.int .i64 t829.2.2.2.2.2.1); have hq6 : Sep (fps []) w [blk g755 #[.int .i64 a748, .int .i64 a749, .int .i64 a750, .int .i64 a751] 32, blk g774 #[.int .i64 a748, .int .i64 a749, .int .i64 a750, .int .i64 (wrap64 (a751 + (wrap64 (a752))))] 32, blk g805 #[.int .i64 t802.1, .int .i64 t802.2.1, .int .i64 t802.2.2.1, .int .i64 t802.2.2.2.1, .int .i64 t802.2.2.2.2.1, .int .i64 t802.2.2.2.2.2.1, .int .i64 t802.2.2.2.2.2.2.1, .int .i64 t802.2.2.2.2.2.2.2.1] 38, blk g832 #[.int .i64 t829.1, .int .i64 t829.2.1, .int .i64 t829.2.2.1, .int .i64 t829.2.2.2.1, .int .i64 t829.2.2.2.2.1, .int .i64 t829.2.2.2.2.2.1, .int .i64 t829.2.2.2.2.2.2.1, .int .i64 0] 38] (World.setCell (World.setCell (World.setCell (World.setCell (World.setCell (World.setCell (World.setCell w833 ⟨g832, 0, none⟩ (.int .i64 t829.1)) ⟨g832, 1, none⟩ (.int .i64 t829.2.1)) ⟨g832, 2, none⟩ (.int .i64 t829.2.2.1)) ⟨g832, 3, none⟩ (.int .i64 t829.2.2.2.1)) ⟨g832, 4, none⟩ (.int .i64 t829.2.2.2.2.1)) ⟨g832, 5, none⟩ (.int .i64 t829.2.2.2.2.2.1)) ⟨g832, 6, none⟩ (.int .i64 t829.2.2.2.2.2.2.1)) := (hq5).set1 (l1 := [blk g755 #[.int .i64 a748, .int .i64 a749, .int .i64 a750, .int .i64 a751] 32, blk g774 #[.int .i64 a748, .int .i64 a749, .int .i64 a750, .int .i64 (wrap64 (a751 + (wrap64 (a752))))] 32, blk g805 #[.int .i64 t802.1, .int .i64 t802.2.1, .int .i64 t802.2.2.1, .int .i64 t802.2.2.2.1, .int .i64 t802.2.2.2.2.1, .int .i64 t802.2.2.2.2.2.1, .int .i64 t802.2.2.2.2.2.2.1, .int .i64 t802.2.2.2.2.2.2.2.1] 38]) (l2 := []) 6 (.int .i64 t829.2.2.2.2.2.2.1); have hq7 : Sep (fps []) w [blk g755 #[.int .i64 a748, .int .i64 a749, .int .i64 a750, .int .i64 a751] 32, blk g774 #[.int .i64 a748, .int .i64 a749, .int .i64 a750, .int .i64 (wrap64 (a751 + (wrap64 (a752))))] 32, blk g805 #[.int .i64 t802.1, .int .i64 t802.2.1, .int .i64 t802.2.2.1, .int .i64 t802.2.2.2.1, .int .i64 t802.2.2.2.2.1, .int .i64 t802.2.2.2.2.2.1, .int .i64 t802.2.2.2.2.2.2.1, .int .i64 t802.2.2.2.2.2.2.2.1] 38, blk g832 #[.int .i64 t829.1, .int .i64 t829.2.1, .int .i64 t829.2.2.1, .int .i64 t829.2.2.2.1, .int .i64 t829.2.2.2.2.1, .int .i64 t829.2.2.2.2.2.1, .int .i64 t829.2.2.2.2.2.2.1, .int .i64 t829.2.2.2.2.2.2.2.1] 38] (World.setCell (World.setCell (World.setCell (World.setCell (World.setCell (World.setCell (World.setCell (World.setCell w833 ⟨g832, 0, none⟩ (.int .i64 t829.1)) ⟨g832, 1, none⟩ (.int .i64 t829.2.1)) ⟨g832, 2, none⟩ (.int .i64 t829.2.2.1)) ⟨g832, 3, none⟩ (.int .i64 t829.2.2.2.1)) ⟨g832, 4, none⟩ (.int .i64 t829.2.2.2.2.1)) ⟨g832, 5, none⟩ (.int .i64 t829.2.2.2.2.2.1)) ⟨g832, 6, none⟩ (.int .i64 t829.2.2.2.2.2.2.1)) ⟨g832, 7, none⟩ (.int .i64 t829.2.2.2.2.2.2.2.1)) := (hq6).set1 (l1 := [blk g755 #[.int .i64 a748, .int .i64 a749, .int .i64 a750, .int .i64 a751] 32, blk g774 #[.int .i64 a748, .int .i64 a749, .int .i64 a750, .int .i64 (wrap64 (a751 + (wrap64 (a752))))] 32, blk g805 #[.int .i64 t802.1, .int .i64 t802.2.1, .int .i64 t802.2.2.1, .int .i64 t802.2.2.2.1, .int .i64 t802.2.2.2.2.1, .int .i64 t802.2.2.2.2.2.1, .int .i64 t802.2.2.2.2.2.2.1, .int .i64 t802.2.2.2.2.2.2.2.1] 38]) (l2 := []) 7 (.int .i64 t829.2.2.2.2.2.2.2.1); have HS_ : Aside0 (Sep (fps []) w [blk g755 #[.int .i64 a748, .int .i64 a749, .int .i64 a750, .int .i64 a751] 32, blk g774 #[.int .i64 a748, .int .i64 a749, .int .i64 a750, .int .i64 (wrap64 (a751 + (wrap64 (a752))))] 32, blk g805 #[.int .i64 t802.1, .int .i64 t802.2.1, .int .i64 t802.2.2.1, .int .i64 t802.2.2.2.1, .int .i64 t802.2.2.2.2.1, .int .i64 t802.2.2.2.2.2.1, .int .i64 t802.2.2.2.2.2.2.1, .int .i64 t802.2.2.2.2.2.2.2.1] 38, blk g832 #[.int .i64 t829.1, .int .i64 t829.2.1, .int .i64 t829.2.2.1, .int .i64 t829.2.2.2.1, .int .i64 t829.2.2.2.2.1, .int .i64 t829.2.2.2.2.2.1, .int .i64 t829.2.2.2.2.2.2.1, .int .i64 t829.2.2.2.2.2.2.2.1] 38] w851) := ⟨by rw [hst]; exact hq7⟩; clear hq0 hq1 hq2 hq3 hq4 hq5 hq6 hq7; clear HS hst; have HS := HS_; clear HS_))
        refine start_ (n := 38) (S := (fun w' => w'.cell? ⟨g832, 6, none⟩ = some (.int .i64 t829.2.2.2.2.2.2.1) ∧ w'.cell? ⟨g805, 6, none⟩ = some (.int .i64 t802.2.2.2.2.2.2.1) ∧ w'.cell? ⟨g832, 7, none⟩ = some (.int .i64 t829.2.2.2.2.2.2.2.1) ∧ w'.cell? ⟨g805, 7, none⟩ = some (.int .i64 t802.2.2.2.2.2.2.2.1) ∧ w'.cell? ⟨g805, 4, none⟩ = some (.int .i64 t802.2.2.2.2.1) ∧ w'.cell? ⟨g832, 4, none⟩ = some (.int .i64 t829.2.2.2.2.1) ∧ w'.cell? ⟨g805, 0, none⟩ = some (.int .i64 t802.1) ∧ w'.cell? ⟨g832, 0, none⟩ = some (.int .i64 t829.1) ∧ w'.cell? ⟨g774, 0, none⟩ = some (.int .i64 a748) ∧ w'.cell? ⟨g774, 1, none⟩ = some (.int .i64 a749) ∧ w'.cell? ⟨g774, 2, none⟩ = some (.int .i64 a750) ∧ w'.cell? ⟨g774, 3, none⟩ = some (.int .i64 (wrap64 (a751 + (wrap64 (a752))))) ∧ w'.cell? ⟨g755, 0, none⟩ = some (.int .i64 a748) ∧ w'.cell? ⟨g755, 1, none⟩ = some (.int .i64 a749) ∧ w'.cell? ⟨g755, 2, none⟩ = some (.int .i64 a750) ∧ w'.cell? ⟨g755, 3, none⟩ = some (.int .i64 a751))) (ds := []) #[false, false, false, false, false, false, false, false, false, false, false, false, false, false, false, false, false, false, false, false, false, false, false, false, false, false, false, false, false, false, false, false, false, false, false, false, false, false] (by kernel_rfl) rfl rfl (⟨blk_cellv ((HS.out.drew).at3) 6 rfl, blk_cellv ((HS.out.drew).at2) 6 rfl, blk_cellv ((HS.out.drew).at3) 7 rfl, blk_cellv ((HS.out.drew).at2) 7 rfl, blk_cellv ((HS.out.drew).at2) 4 rfl, blk_cellv ((HS.out.drew).at3) 4 rfl, blk_cellv ((HS.out.drew).at2) 0 rfl, blk_cellv ((HS.out.drew).at3) 0 rfl, blk_cellv ((HS.out.drew).at1) 0 rfl, blk_cellv ((HS.out.drew).at1) 1 rfl, blk_cellv ((HS.out.drew).at1) 2 rfl, blk_cellv ((HS.out.drew).at1) 3 rfl, blk_cellv ((HS.out.drew).at0) 0 rfl, blk_cellv ((HS.out.drew).at0) 1 rfl, blk_cellv ((HS.out.drew).at0) 2 rfl, blk_cellv ((HS.out.drew).at0) 3 rfl⟩) (fun hHeld => ?_)
        have HS_ := Aside0.mk HS.out.drew
        clear HS
        generalize World.drew _ = w853 at HS_ hHeld ⊢
        have HS := HS_
        clear HS_
        refine pure_ (i := 0) (N := some 45) (v := ?_) (a' := ?_) #[true, false, false, false, false, false, false, false, false, false, false, false, false, false, false, false, false, false, false, false, false, false, false, false, false, false, false, false, false, false, false, false, false, false, false, false, false, false] rfl rfl (by kernel_rfl) (fun _ _ _ h => h) (Or.inl ⟨by rfl, ?_⟩) ?_ ?_
        rotate_left
        · intro w'
          go_simp
          with_reducible rfl
        rotate_left
        · simp only [Act.put, List.setIfInBounds_toArray, List.set_cons_zero, List.set_cons_succ, i64_w, i32_w]
          rfl
        refine pure_ (i := 2) (N := some 47) (v := ?_) (a' := ?_) #[true, false, true, false, false, false, false, false, false, false, false, false, false, false, false, false, false, false, false, false, false, false, false, false, false, false, false, false, false, false, false, false, false, false, false, false, false, false] rfl rfl (by kernel_rfl) (fun _ _ _ h => h) (Or.inl ⟨by rfl, ?_⟩) ?_ ?_
        rotate_left
        · intro w'
          go_simp
          with_reducible rfl
        rotate_left
        · simp only [Act.put, List.setIfInBounds_toArray, List.set_cons_zero, List.set_cons_succ, i64_w, i32_w]
          rfl
        refine take_ (i := 1) (N := some 46) (v := ?_) (a' := ?_) #[true, true, true, false, false, false, false, false, false, false, false, false, false, false, false, false, false, false, false, false, false, false, false, false, false, false, false, false, false, false, false, false, false, false, false, false, false, false] rfl rfl (by kernel_rfl) (fun _ _ _ h => h) (Or.inl ⟨by rfl, ?_⟩) hHeld ?_ ?_
        rotate_left
        · rintro w' hS'
          obtain ⟨s0, s1, s2, s3, s4, s5, s6, s7, s8, s9, s10, s11, s12, s13, s14, s15⟩ := hS'
          go_simp
          with_reducible rfl
        rotate_left
        · simp only [Act.put, List.setIfInBounds_toArray, List.set_cons_zero, List.set_cons_succ, i64_w, i32_w]
          rfl
        refine take_ (i := 3) (N := some 48) (v := ?_) (a' := ?_) #[true, true, true, true, false, false, false, false, false, false, false, false, false, false, false, false, false, false, false, false, false, false, false, false, false, false, false, false, false, false, false, false, false, false, false, false, false, false] rfl rfl (by kernel_rfl) (fun _ _ _ h => h) (Or.inl ⟨by rfl, ?_⟩) hHeld ?_ ?_
        rotate_left
        · rintro w' hS'
          obtain ⟨s0, s1, s2, s3, s4, s5, s6, s7, s8, s9, s10, s11, s12, s13, s14, s15⟩ := hS'
          go_simp
          with_reducible rfl
        rotate_left
        · simp only [Act.put, List.setIfInBounds_toArray, List.set_cons_zero, List.set_cons_succ, i64_w, i32_w]
          rfl
        refine pure_ (i := 4) (N := some 49) (v := ?_) (a' := ?_) #[true, true, true, true, true, false, false, false, false, false, false, false, false, false, false, false, false, false, false, false, false, false, false, false, false, false, false, false, false, false, false, false, false, false, false, false, false, false] rfl rfl (by kernel_rfl) (fun _ _ _ h => h) (Or.inl ⟨by rfl, ?_⟩) ?_ ?_
        rotate_left
        · intro w'
          go_simp
          with_reducible rfl
        rotate_left
        · simp only [Act.put, List.setIfInBounds_toArray, List.set_cons_zero, List.set_cons_succ, i64_w, i32_w]
          rfl
        refine pure_ (i := 5) (N := some 50) (v := ?_) (a' := ?_) #[true, true, true, true, true, true, false, false, false, false, false, false, false, false, false, false, false, false, false, false, false, false, false, false, false, false, false, false, false, false, false, false, false, false, false, false, false, false] rfl rfl (by kernel_rfl) (fun _ _ _ h => h) (Or.inl ⟨by rfl, ?_⟩) ?_ ?_
        rotate_left
        · intro w'
          go_simp
          with_reducible rfl
        rotate_left
        · simp only [Act.put, List.setIfInBounds_toArray, List.set_cons_zero, List.set_cons_succ, i64_w, i32_w]
          rfl
        by_cases c854 : t829.2.2.2.2.2.2.1 ≤ t802.2.2.2.2.2.2.1
        · have H := if_yes c854 H
          have c854b0 : decide (t829.2.2.2.2.2.2.1 ≤ t802.2.2.2.2.2.2.1) = true := decide_eq_true c854
          clear c854
          try simp only [c854b0, Bool.not_true, Bool.not_false]
          refine pure_ (i := 6) (N := some 51) (v := ?_) (a' := ?_) #[true, true, true, true, true, true, true, false, false, false, false, false, false, false, false, false, false, false, false, false, false, false, false, false, false, false, false, false, false, false, false, false, false, false, false, false, false, false] rfl rfl (by kernel_rfl) (fun _ _ _ h => h) (Or.inl ⟨by rfl, ?_⟩) ?_ ?_
          rotate_left
          · intro w'
            go_simp
            with_reducible rfl
          rotate_left
          · simp only [Act.put, List.setIfInBounds_toArray, List.set_cons_zero, List.set_cons_succ, i64_w, i32_w]
            rfl
          try simp only [c854b0, Bool.not_true, Bool.not_false]
          refine pure_ (i := 8) (N := some 53) (v := ?_) (a' := ?_) #[true, true, true, true, true, true, true, false, true, false, false, false, false, false, false, false, false, false, false, false, false, false, false, false, false, false, false, false, false, false, false, false, false, false, false, false, false, false] rfl rfl (by kernel_rfl) (fun _ _ _ h => h) (Or.inl ⟨by rfl, ?_⟩) ?_ ?_
          rotate_left
          · intro w'
            go_simp
            with_reducible rfl
          rotate_left
          · simp only [Act.put, List.setIfInBounds_toArray, List.set_cons_zero, List.set_cons_succ, i64_w, i32_w]
            rfl
          try simp only [c854b0, Bool.not_true, Bool.not_false]
          refine take_ (i := 7) (N := some 52) (v := ?_) (a' := ?_) #[true, true, true, true, true, true, true, true, true, false, false, false, false, false, false, false, false, false, false, false, false, false, false, false, false, false, false, false, false, false, false, false, false, false, false, false, false, false] rfl rfl (by kernel_rfl) (fun _ _ _ h => h) (Or.inl ⟨by rfl, ?_⟩) hHeld ?_ ?_
          rotate_left
          · rintro w' hS'
            obtain ⟨s0, s1, s2, s3, s4, s5, s6, s7, s8, s9, s10, s11, s12, s13, s14, s15⟩ := hS'
            go_simp
            with_reducible rfl
          rotate_left
          · simp only [Act.put, List.setIfInBounds_toArray, List.set_cons_zero, List.set_cons_succ, i64_w, i32_w]
            rfl
          try simp only [c854b0, Bool.not_true, Bool.not_false]
          refine take_ (i := 9) (N := some 54) (v := ?_) (a' := ?_) #[true, true, true, true, true, true, true, true, true, true, false, false, false, false, false, false, false, false, false, false, false, false, false, false, false, false, false, false, false, false, false, false, false, false, false, false, false, false] rfl rfl (by kernel_rfl) (fun _ _ _ h => h) (Or.inl ⟨by rfl, ?_⟩) hHeld ?_ ?_
          rotate_left
          · rintro w' hS'
            obtain ⟨s0, s1, s2, s3, s4, s5, s6, s7, s8, s9, s10, s11, s12, s13, s14, s15⟩ := hS'
            go_simp
            with_reducible rfl
          rotate_left
          · simp only [Act.put, List.setIfInBounds_toArray, List.set_cons_zero, List.set_cons_succ, i64_w, i32_w]
            rfl
          try simp only [c854b0, Bool.not_true, Bool.not_false]
          refine pure_ (i := 10) (N := some 55) (v := ?_) (a' := ?_) #[true, true, true, true, true, true, true, true, true, true, true, false, false, false, false, false, false, false, false, false, false, false, false, false, false, false, false, false, false, false, false, false, false, false, false, false, false, false] rfl rfl (by kernel_rfl) (fun _ _ _ h => h) (Or.inl ⟨by rfl, ?_⟩) ?_ ?_
          rotate_left
          · intro w'
            go_simp
            with_reducible rfl
          rotate_left
          · simp only [Act.put, List.setIfInBounds_toArray, List.set_cons_zero, List.set_cons_succ, i64_w, i32_w]
            rfl
          refine pure_ (i := 11) (N := some 56) (v := ?_) (a' := ?_) #[true, true, true, true, true, true, true, true, true, true, true, true, false, false, false, false, false, false, false, false, false, false, false, false, false, false, false, false, false, false, false, false, false, false, false, false, false, false] rfl rfl (by kernel_rfl) (fun _ _ _ h => h) (Or.inl ⟨by rfl, ?_⟩) ?_ ?_
          rotate_left
          · intro w'
            go_simp
            with_reducible rfl
          rotate_left
          · simp only [Act.put, List.setIfInBounds_toArray, List.set_cons_zero, List.set_cons_succ, i64_w, i32_w]
            rfl
          refine pure_ (i := 12) (N := some 57) (v := ?_) (a' := ?_) #[true, true, true, true, true, true, true, true, true, true, true, true, true, false, false, false, false, false, false, false, false, false, false, false, false, false, false, false, false, false, false, false, false, false, false, false, false, false] rfl rfl (by kernel_rfl) (fun _ _ _ h => h) (Or.inl ⟨by rfl, ?_⟩) ?_ ?_
          rotate_left
          · intro w'
            go_simp
            with_reducible rfl
          rotate_left
          · simp only [Act.put, List.setIfInBounds_toArray, List.set_cons_zero, List.set_cons_succ, i64_w, i32_w]
            rfl
          by_cases c855 : t829.2.2.2.2.2.2.2.1 ≤ t802.2.2.2.2.2.2.2.1
          · have H := if_yes c855 H
            have c855b0 : decide (t829.2.2.2.2.2.2.2.1 ≤ t802.2.2.2.2.2.2.2.1) = true := decide_eq_true c855
            clear c855
            try simp only [c855b0, Bool.not_true, Bool.not_false]
            refine pure_ (i := 13) (N := some 58) (v := ?_) (a' := ?_) #[true, true, true, true, true, true, true, true, true, true, true, true, true, true, false, false, false, false, false, false, false, false, false, false, false, false, false, false, false, false, false, false, false, false, false, false, false, false] rfl rfl (by kernel_rfl) (fun _ _ _ h => h) (Or.inl ⟨by rfl, ?_⟩) ?_ ?_
            rotate_left
            · intro w'
              go_simp
              with_reducible rfl
            rotate_left
            · simp only [Act.put, List.setIfInBounds_toArray, List.set_cons_zero, List.set_cons_succ, i64_w, i32_w]
              rfl
            try simp only [c855b0, Bool.not_true, Bool.not_false]
            refine pure_ (i := 15) (N := some 60) (v := ?_) (a' := ?_) #[true, true, true, true, true, true, true, true, true, true, true, true, true, true, false, true, false, false, false, false, false, false, false, false, false, false, false, false, false, false, false, false, false, false, false, false, false, false] rfl rfl (by kernel_rfl) (fun _ _ _ h => h) (Or.inl ⟨by rfl, ?_⟩) ?_ ?_
            rotate_left
            · intro w'
              go_simp
              with_reducible rfl
            rotate_left
            · simp only [Act.put, List.setIfInBounds_toArray, List.set_cons_zero, List.set_cons_succ, i64_w, i32_w]
              rfl
            try simp only [c855b0, Bool.not_true, Bool.not_false]
            refine take_ (i := 14) (N := some 59) (v := ?_) (a' := ?_) #[true, true, true, true, true, true, true, true, true, true, true, true, true, true, true, true, false, false, false, false, false, false, false, false, false, false, false, false, false, false, false, false, false, false, false, false, false, false] rfl rfl (by kernel_rfl) (fun _ _ _ h => h) (Or.inl ⟨by rfl, ?_⟩) hHeld ?_ ?_
            rotate_left
            · rintro w' hS'
              obtain ⟨s0, s1, s2, s3, s4, s5, s6, s7, s8, s9, s10, s11, s12, s13, s14, s15⟩ := hS'
              go_simp
              with_reducible rfl
            rotate_left
            · simp only [Act.put, List.setIfInBounds_toArray, List.set_cons_zero, List.set_cons_succ, i64_w, i32_w]
              rfl
            try simp only [c855b0, Bool.not_true, Bool.not_false]
            refine take_ (i := 16) (N := some 61) (v := ?_) (a' := ?_) #[true, true, true, true, true, true, true, true, true, true, true, true, true, true, true, true, true, false, false, false, false, false, false, false, false, false, false, false, false, false, false, false, false, false, false, false, false, false] rfl rfl (by kernel_rfl) (fun _ _ _ h => h) (Or.inl ⟨by rfl, ?_⟩) hHeld ?_ ?_
            rotate_left
            · rintro w' hS'
              obtain ⟨s0, s1, s2, s3, s4, s5, s6, s7, s8, s9, s10, s11, s12, s13, s14, s15⟩ := hS'
              go_simp
              with_reducible rfl
            rotate_left
            · simp only [Act.put, List.setIfInBounds_toArray, List.set_cons_zero, List.set_cons_succ, i64_w, i32_w]
              rfl
            try simp only [c855b0, Bool.not_true, Bool.not_false]
            refine pure_ (i := 17) (N := some 62) (v := ?_) (a' := ?_) #[true, true, true, true, true, true, true, true, true, true, true, true, true, true, true, true, true, true, false, false, false, false, false, false, false, false, false, false, false, false, false, false, false, false, false, false, false, false] rfl rfl (by kernel_rfl) (fun _ _ _ h => h) (Or.inl ⟨by rfl, ?_⟩) ?_ ?_
            rotate_left
            · intro w'
              go_simp
              with_reducible rfl
            rotate_left
            · simp only [Act.put, List.setIfInBounds_toArray, List.set_cons_zero, List.set_cons_succ, i64_w, i32_w]
              rfl
            refine pure_ (i := 18) (N := some 63) (v := ?_) (a' := ?_) #[true, true, true, true, true, true, true, true, true, true, true, true, true, true, true, true, true, true, true, false, false, false, false, false, false, false, false, false, false, false, false, false, false, false, false, false, false, false] rfl rfl (by kernel_rfl) (fun _ _ _ h => h) (Or.inl ⟨by rfl, ?_⟩) ?_ ?_
            rotate_left
            · intro w'
              go_simp
              with_reducible rfl
            rotate_left
            · simp only [Act.put, List.setIfInBounds_toArray, List.set_cons_zero, List.set_cons_succ, i64_w, i32_w]
              rfl
            refine pure_ (i := 19) (N := some 64) (v := ?_) (a' := ?_) #[true, true, true, true, true, true, true, true, true, true, true, true, true, true, true, true, true, true, true, true, false, false, false, false, false, false, false, false, false, false, false, false, false, false, false, false, false, false] rfl rfl (by kernel_rfl) (fun _ _ _ h => h) (Or.inl ⟨by rfl, ?_⟩) ?_ ?_
            rotate_left
            · intro w'
              go_simp
              with_reducible rfl
            rotate_left
            · simp only [Act.put, List.setIfInBounds_toArray, List.set_cons_zero, List.set_cons_succ, i64_w, i32_w]
              rfl
            by_cases c856 : t802.2.2.2.2.1 = t829.2.2.2.2.1
            · have H := if_yes c856 H
              have c856b0 : (t802.2.2.2.2.1 == t829.2.2.2.2.1) = true := beq_iff_eq.mpr c856
              have c856b1 : (t802.2.2.2.2.1 != t829.2.2.2.2.1) = false := bne_eq_false_iff_eq.mpr c856
              clear c856
              try simp only [c856b0, Bool.not_true, Bool.not_false]
              refine pure_ (i := 20) (N := some 65) (v := ?_) (a' := ?_) #[true, true, true, true, true, true, true, true, true, true, true, true, true, true, true, true, true, true, true, true, true, false, false, false, false, false, false, false, false, false, false, false, false, false, false, false, false, false] rfl rfl (by kernel_rfl) (fun _ _ _ h => h) (Or.inl ⟨by rfl, ?_⟩) ?_ ?_
              rotate_left
              · intro w'
                go_simp
                with_reducible rfl
              rotate_left
              · simp only [Act.put, List.setIfInBounds_toArray, List.set_cons_zero, List.set_cons_succ, i64_w, i32_w]
                rfl
              try simp only [c856b0, Bool.not_true, Bool.not_false]
              refine pure_ (i := 22) (N := some 67) (v := ?_) (a' := ?_) #[true, true, true, true, true, true, true, true, true, true, true, true, true, true, true, true, true, true, true, true, true, false, true, false, false, false, false, false, false, false, false, false, false, false, false, false, false, false] rfl rfl (by kernel_rfl) (fun _ _ _ h => h) (Or.inl ⟨by rfl, ?_⟩) ?_ ?_
              rotate_left
              · intro w'
                go_simp
                with_reducible rfl
              rotate_left
              · simp only [Act.put, List.setIfInBounds_toArray, List.set_cons_zero, List.set_cons_succ, i64_w, i32_w]
                rfl
              try simp only [c856b0, Bool.not_true, Bool.not_false]
              refine take_ (i := 21) (N := some 66) (v := ?_) (a' := ?_) #[true, true, true, true, true, true, true, true, true, true, true, true, true, true, true, true, true, true, true, true, true, true, true, false, false, false, false, false, false, false, false, false, false, false, false, false, false, false] rfl rfl (by kernel_rfl) (fun _ _ _ h => h) (Or.inl ⟨by rfl, ?_⟩) hHeld ?_ ?_
              rotate_left
              · rintro w' hS'
                obtain ⟨s0, s1, s2, s3, s4, s5, s6, s7, s8, s9, s10, s11, s12, s13, s14, s15⟩ := hS'
                go_simp
                with_reducible rfl
              rotate_left
              · simp only [Act.put, List.setIfInBounds_toArray, List.set_cons_zero, List.set_cons_succ, i64_w, i32_w]
                rfl
              try simp only [c856b0, Bool.not_true, Bool.not_false]
              refine take_ (i := 23) (N := some 68) (v := ?_) (a' := ?_) #[true, true, true, true, true, true, true, true, true, true, true, true, true, true, true, true, true, true, true, true, true, true, true, true, false, false, false, false, false, false, false, false, false, false, false, false, false, false] rfl rfl (by kernel_rfl) (fun _ _ _ h => h) (Or.inl ⟨by rfl, ?_⟩) hHeld ?_ ?_
              rotate_left
              · rintro w' hS'
                obtain ⟨s0, s1, s2, s3, s4, s5, s6, s7, s8, s9, s10, s11, s12, s13, s14, s15⟩ := hS'
                go_simp
                with_reducible rfl
              rotate_left
              · simp only [Act.put, List.setIfInBounds_toArray, List.set_cons_zero, List.set_cons_succ, i64_w, i32_w]
                rfl
              try simp only [c856b0, Bool.not_true, Bool.not_false]
              refine pure_ (i := 24) (N := some 69) (v := ?_) (a' := ?_) #[true, true, true, true, true, true, true, true, true, true, true, true, true, true, true, true, true, true, true, true, true, true, true, true, true, false, false, false, false, false, false, false, false, false, false, false, false, false] rfl rfl (by kernel_rfl) (fun _ _ _ h => h) (Or.inl ⟨by rfl, ?_⟩) ?_ ?_
              rotate_left
              · intro w'
                go_simp
                with_reducible rfl
              rotate_left
              · simp only [Act.put, List.setIfInBounds_toArray, List.set_cons_zero, List.set_cons_succ, i64_w, i32_w]
                rfl
              refine pure_ (i := 25) (N := some 70) (v := ?_) (a' := ?_) #[true, true, true, true, true, true, true, true, true, true, true, true, true, true, true, true, true, true, true, true, true, true, true, true, true, true, false, false, false, false, false, false, false, false, false, false, false, false] rfl rfl (by kernel_rfl) (fun _ _ _ h => h) (Or.inl ⟨by rfl, ?_⟩) ?_ ?_
              rotate_left
              · intro w'
                go_simp
                with_reducible rfl
              rotate_left
              · simp only [Act.put, List.setIfInBounds_toArray, List.set_cons_zero, List.set_cons_succ, i64_w, i32_w]
                rfl
              refine pure_ (i := 26) (N := some 71) (v := ?_) (a' := ?_) #[true, true, true, true, true, true, true, true, true, true, true, true, true, true, true, true, true, true, true, true, true, true, true, true, true, true, true, false, false, false, false, false, false, false, false, false, false, false] rfl rfl (by kernel_rfl) (fun _ _ _ h => h) (Or.inl ⟨by rfl, ?_⟩) ?_ ?_
              rotate_left
              · intro w'
                go_simp
                with_reducible rfl
              rotate_left
              · simp only [Act.put, List.setIfInBounds_toArray, List.set_cons_zero, List.set_cons_succ, i64_w, i32_w]
                rfl
              by_cases c857 : t802.1 = t829.1
              · have H := if_yes c857 H
                have c857b0 : (t802.1 == t829.1) = true := beq_iff_eq.mpr c857
                have c857b1 : (t802.1 != t829.1) = false := bne_eq_false_iff_eq.mpr c857
                clear c857
                try simp only [c857b0, Bool.not_true, Bool.not_false]
                refine pure_ (i := 28) (N := some 73) (v := ?_) (a' := ?_) #[true, true, true, true, true, true, true, true, true, true, true, true, true, true, true, true, true, true, true, true, true, true, true, true, true, true, true, false, true, false, false, false, false, false, false, false, false, false] rfl rfl (by kernel_rfl) (fun _ _ _ h => h) (Or.inl ⟨by rfl, ?_⟩) ?_ ?_
                rotate_left
                · intro w'
                  go_simp
                  with_reducible rfl
                rotate_left
                · simp only [Act.put, List.setIfInBounds_toArray, List.set_cons_zero, List.set_cons_succ, i64_w, i32_w]
                  rfl
                try simp only [c857b0, Bool.not_true, Bool.not_false]
                refine pure_ (i := 29) (N := some 74) (v := ?_) (a' := ?_) #[true, true, true, true, true, true, true, true, true, true, true, true, true, true, true, true, true, true, true, true, true, true, true, true, true, true, true, false, true, true, false, false, false, false, false, false, false, false] rfl rfl (by kernel_rfl) (fun _ _ _ h => h) (Or.inl ⟨by rfl, ?_⟩) ?_ ?_
                rotate_left
                · intro w'
                  go_simp
                  with_reducible rfl
                rotate_left
                · simp only [Act.put, List.setIfInBounds_toArray, List.set_cons_zero, List.set_cons_succ, i64_w, i32_w]
                  rfl
                try simp only [c857b0, Bool.not_true, Bool.not_false]
                refine pure_ (i := 32) (N := some 77) (v := ?_) (a' := ?_) #[true, true, true, true, true, true, true, true, true, true, true, true, true, true, true, true, true, true, true, true, true, true, true, true, true, true, true, false, true, true, false, false, true, false, false, false, false, false] rfl rfl (by kernel_rfl) (fun _ _ _ h => h) (Or.inl ⟨by rfl, ?_⟩) ?_ ?_
                rotate_left
                · intro w'
                  go_simp
                  with_reducible rfl
                rotate_left
                · simp only [Act.put, List.setIfInBounds_toArray, List.set_cons_zero, List.set_cons_succ, i64_w, i32_w]
                  rfl
                try simp only [c857b0, Bool.not_true, Bool.not_false]
                refine pure_ (i := 33) (N := some 78) (v := ?_) (a' := ?_) #[true, true, true, true, true, true, true, true, true, true, true, true, true, true, true, true, true, true, true, true, true, true, true, true, true, true, true, false, true, true, false, false, true, true, false, false, false, false] rfl rfl (by kernel_rfl) (fun _ _ _ h => h) (Or.inl ⟨by rfl, ?_⟩) ?_ ?_
                rotate_left
                · intro w'
                  go_simp
                  with_reducible rfl
                rotate_left
                · simp only [Act.put, List.setIfInBounds_toArray, List.set_cons_zero, List.set_cons_succ, i64_w, i32_w]
                  rfl
                try simp only [c857b0, Bool.not_true, Bool.not_false]
                refine take_ (i := 27) (N := some 72) (v := ?_) (a' := ?_) #[true, true, true, true, true, true, true, true, true, true, true, true, true, true, true, true, true, true, true, true, true, true, true, true, true, true, true, true, true, true, false, false, true, true, false, false, false, false] rfl rfl (by kernel_rfl) (fun _ _ _ h => h) (Or.inl ⟨by rfl, ?_⟩) hHeld ?_ ?_
                rotate_left
                · rintro w' hS'
                  obtain ⟨s0, s1, s2, s3, s4, s5, s6, s7, s8, s9, s10, s11, s12, s13, s14, s15⟩ := hS'
                  go_simp
                  with_reducible rfl
                rotate_left
                · simp only [Act.put, List.setIfInBounds_toArray, List.set_cons_zero, List.set_cons_succ, i64_w, i32_w]
                  rfl
                try simp only [c857b0, Bool.not_true, Bool.not_false]
                refine take_ (i := 31) (N := some 76) (v := ?_) (a' := ?_) #[true, true, true, true, true, true, true, true, true, true, true, true, true, true, true, true, true, true, true, true, true, true, true, true, true, true, true, true, true, true, false, true, true, true, false, false, false, false] rfl rfl (by kernel_rfl) (fun _ _ _ h => h) (Or.inl ⟨by rfl, ?_⟩) hHeld ?_ ?_
                rotate_left
                · rintro w' hS'
                  obtain ⟨s0, s1, s2, s3, s4, s5, s6, s7, s8, s9, s10, s11, s12, s13, s14, s15⟩ := hS'
                  go_simp
                  with_reducible rfl
                rotate_left
                · simp only [Act.put, List.setIfInBounds_toArray, List.set_cons_zero, List.set_cons_succ, i64_w, i32_w]
                  rfl
                try simp only [c857b0, Bool.not_true, Bool.not_false]
                refine one_ (i := 30) (N := some 75) #[true, true, true, true, true, true, true, true, true, true, true, true, true, true, true, true, true, true, true, true, true, true, true, true, true, true, true, true, true, true, true, true, true, true, false, false, false, false] rfl rfl (by kernel_rfl) (by decide) (fun K hK => ?_)
                obtain ⟨t858, HA859, H⟩ := bind_some H
                refine goes_ Try.func18 (by kernel_rfl) rfl #[.agg #[.int .i64 a748, .int .i64 a749, .int .i64 a750, .int .i64 (wrap64 (a751 + (wrap64 (a752))))], .int .i64 a753, .int .i64 a754] (by rfl) rfl rfl (by (try simp only [List.map_toArray, List.map_cons, List.map_nil]); first | done | rfl) ?_
                refine (plan_Pause.calls _ a748 a749 a750 (wrap64 (a751 + (wrap64 (a752)))) a753 a754 t858 _ ⟨HS.out.begin (l := []) (rest := [blk g755 #[.int .i64 a748, .int .i64 a749, .int .i64 a750, .int .i64 a751] 32, blk g774 #[.int .i64 a748, .int .i64 a749, .int .i64 a750, .int .i64 (wrap64 (a751 + (wrap64 (a752))))] 32, blk g805 #[.int .i64 t802.1, .int .i64 t802.2.1, .int .i64 t802.2.2.1, .int .i64 t802.2.2.2.1, .int .i64 t802.2.2.2.2.1, .int .i64 t802.2.2.2.2.2.1, .int .i64 t802.2.2.2.2.2.2.1, .int .i64 t802.2.2.2.2.2.2.2.1] 38, blk g832 #[.int .i64 t829.1, .int .i64 t829.2.1, .int .i64 t829.2.2.1, .int .i64 t829.2.2.2.1, .int .i64 t829.2.2.2.2.1, .int .i64 t829.2.2.2.2.2.1, .int .i64 t829.2.2.2.2.2.2.1, .int .i64 t829.2.2.2.2.2.2.2.1] 38])⟩ HA859).mono ?_
                rintro e_ w860 ⟨rfl, hS⟩
                have HS_ : Aside0 (Sep (fps []) w [blk g755 #[.int .i64 a748, .int .i64 a749, .int .i64 a750, .int .i64 a751] 32, blk g774 #[.int .i64 a748, .int .i64 a749, .int .i64 a750, .int .i64 (wrap64 (a751 + (wrap64 (a752))))] 32, blk g805 #[.int .i64 t802.1, .int .i64 t802.2.1, .int .i64 t802.2.2.1, .int .i64 t802.2.2.2.1, .int .i64 t802.2.2.2.2.1, .int .i64 t802.2.2.2.2.2.1, .int .i64 t802.2.2.2.2.2.2.1, .int .i64 t802.2.2.2.2.2.2.2.1] 38, blk g832 #[.int .i64 t829.1, .int .i64 t829.2.1, .int .i64 t829.2.2.1, .int .i64 t829.2.2.2.1, .int .i64 t829.2.2.2.2.1, .int .i64 t829.2.2.2.2.2.1, .int .i64 t829.2.2.2.2.2.2.1, .int .i64 t829.2.2.2.2.2.2.2.1] 38] w860) := ⟨HS.out.call (l := []) (rest := [blk g755 #[.int .i64 a748, .int .i64 a749, .int .i64 a750, .int .i64 a751] 32, blk g774 #[.int .i64 a748, .int .i64 a749, .int .i64 a750, .int .i64 (wrap64 (a751 + (wrap64 (a752))))] 32, blk g805 #[.int .i64 t802.1, .int .i64 t802.2.1, .int .i64 t802.2.2.1, .int .i64 t802.2.2.2.1, .int .i64 t802.2.2.2.2.1, .int .i64 t802.2.2.2.2.2.1, .int .i64 t802.2.2.2.2.2.2.1, .int .i64 t802.2.2.2.2.2.2.2.1] 38, blk g832 #[.int .i64 t829.1, .int .i64 t829.2.1, .int .i64 t829.2.2.1, .int .i64 t829.2.2.2.1, .int .i64 t829.2.2.2.2.1, .int .i64 t829.2.2.2.2.2.1, .int .i64 t829.2.2.2.2.2.2.1, .int .i64 t829.2.2.2.2.2.2.2.1] 38]) hS⟩
                clear HS hS
                have HS := HS_
                clear HS_
                refine ⟨_, rfl, ?_⟩
                refine hK.out _ _ (⟨blk_cellv (HS.out.at3) 6 rfl, blk_cellv (HS.out.at2) 6 rfl, blk_cellv (HS.out.at3) 7 rfl, blk_cellv (HS.out.at2) 7 rfl, blk_cellv (HS.out.at2) 4 rfl, blk_cellv (HS.out.at3) 4 rfl, blk_cellv (HS.out.at2) 0 rfl, blk_cellv (HS.out.at3) 0 rfl, blk_cellv (HS.out.at1) 0 rfl, blk_cellv (HS.out.at1) 1 rfl, blk_cellv (HS.out.at1) 2 rfl, blk_cellv (HS.out.at1) 3 rfl, blk_cellv (HS.out.at0) 0 rfl, blk_cellv (HS.out.at0) 1 rfl, blk_cellv (HS.out.at0) 2 rfl, blk_cellv (HS.out.at0) 3 rfl⟩) (fun hHeld => ?_)
                clear hK K
                refine norm_ (a' := ?_) ?_ ?_
                rotate_left
                · show Act.put _ (some 75) _ = _
                  simp only [Act.put, List.setIfInBounds_toArray, List.set_cons_zero, List.set_cons_succ, i64_w, i32_w]
                  rfl
                try simp only [c857b0, Bool.not_true, Bool.not_false]
                refine one_ (i := 34) (N := some 79) #[true, true, true, true, true, true, true, true, true, true, true, true, true, true, true, true, true, true, true, true, true, true, true, true, true, true, true, true, true, true, true, true, true, true, true, false, false, false] rfl rfl (by kernel_rfl) (by decide) (fun K hK => ?_)
                obtain ⟨t861, HA862, H⟩ := bind_some H
                refine goes_ Try.func18 (by kernel_rfl) rfl #[.agg #[.int .i64 a748, .int .i64 a749, .int .i64 a750, .int .i64 a751], .int .i64 a753, .int .i64 a754] (by rfl) rfl rfl (by (try simp only [List.map_toArray, List.map_cons, List.map_nil]); first | done | rfl) ?_
                refine (plan_Pause.calls _ a748 a749 a750 a751 a753 a754 t861 _ ⟨HS.out.begin (l := []) (rest := [blk g755 #[.int .i64 a748, .int .i64 a749, .int .i64 a750, .int .i64 a751] 32, blk g774 #[.int .i64 a748, .int .i64 a749, .int .i64 a750, .int .i64 (wrap64 (a751 + (wrap64 (a752))))] 32, blk g805 #[.int .i64 t802.1, .int .i64 t802.2.1, .int .i64 t802.2.2.1, .int .i64 t802.2.2.2.1, .int .i64 t802.2.2.2.2.1, .int .i64 t802.2.2.2.2.2.1, .int .i64 t802.2.2.2.2.2.2.1, .int .i64 t802.2.2.2.2.2.2.2.1] 38, blk g832 #[.int .i64 t829.1, .int .i64 t829.2.1, .int .i64 t829.2.2.1, .int .i64 t829.2.2.2.1, .int .i64 t829.2.2.2.2.1, .int .i64 t829.2.2.2.2.2.1, .int .i64 t829.2.2.2.2.2.2.1, .int .i64 t829.2.2.2.2.2.2.2.1] 38])⟩ HA862).mono ?_
                rintro e_ w863 ⟨rfl, hS⟩
                have HS_ : Aside0 (Sep (fps []) w [blk g755 #[.int .i64 a748, .int .i64 a749, .int .i64 a750, .int .i64 a751] 32, blk g774 #[.int .i64 a748, .int .i64 a749, .int .i64 a750, .int .i64 (wrap64 (a751 + (wrap64 (a752))))] 32, blk g805 #[.int .i64 t802.1, .int .i64 t802.2.1, .int .i64 t802.2.2.1, .int .i64 t802.2.2.2.1, .int .i64 t802.2.2.2.2.1, .int .i64 t802.2.2.2.2.2.1, .int .i64 t802.2.2.2.2.2.2.1, .int .i64 t802.2.2.2.2.2.2.2.1] 38, blk g832 #[.int .i64 t829.1, .int .i64 t829.2.1, .int .i64 t829.2.2.1, .int .i64 t829.2.2.2.1, .int .i64 t829.2.2.2.2.1, .int .i64 t829.2.2.2.2.2.1, .int .i64 t829.2.2.2.2.2.2.1, .int .i64 t829.2.2.2.2.2.2.2.1] 38] w863) := ⟨HS.out.call (l := []) (rest := [blk g755 #[.int .i64 a748, .int .i64 a749, .int .i64 a750, .int .i64 a751] 32, blk g774 #[.int .i64 a748, .int .i64 a749, .int .i64 a750, .int .i64 (wrap64 (a751 + (wrap64 (a752))))] 32, blk g805 #[.int .i64 t802.1, .int .i64 t802.2.1, .int .i64 t802.2.2.1, .int .i64 t802.2.2.2.1, .int .i64 t802.2.2.2.2.1, .int .i64 t802.2.2.2.2.2.1, .int .i64 t802.2.2.2.2.2.2.1, .int .i64 t802.2.2.2.2.2.2.2.1] 38, blk g832 #[.int .i64 t829.1, .int .i64 t829.2.1, .int .i64 t829.2.2.1, .int .i64 t829.2.2.2.1, .int .i64 t829.2.2.2.2.1, .int .i64 t829.2.2.2.2.2.1, .int .i64 t829.2.2.2.2.2.2.1, .int .i64 t829.2.2.2.2.2.2.2.1] 38]) hS⟩
                clear HS hS
                have HS := HS_
                clear HS_
                refine ⟨_, rfl, ?_⟩
                refine hK.out _ _ (⟨blk_cellv (HS.out.at3) 6 rfl, blk_cellv (HS.out.at2) 6 rfl, blk_cellv (HS.out.at3) 7 rfl, blk_cellv (HS.out.at2) 7 rfl, blk_cellv (HS.out.at2) 4 rfl, blk_cellv (HS.out.at3) 4 rfl, blk_cellv (HS.out.at2) 0 rfl, blk_cellv (HS.out.at3) 0 rfl, blk_cellv (HS.out.at1) 0 rfl, blk_cellv (HS.out.at1) 1 rfl, blk_cellv (HS.out.at1) 2 rfl, blk_cellv (HS.out.at1) 3 rfl, blk_cellv (HS.out.at0) 0 rfl, blk_cellv (HS.out.at0) 1 rfl, blk_cellv (HS.out.at0) 2 rfl, blk_cellv (HS.out.at0) 3 rfl⟩) (fun hHeld => ?_)
                clear hK K
                refine norm_ (a' := ?_) ?_ ?_
                rotate_left
                · show Act.put _ (some 79) _ = _
                  simp only [Act.put, List.setIfInBounds_toArray, List.set_cons_zero, List.set_cons_succ, i64_w, i32_w]
                  rfl
                try simp only [c857b0, Bool.not_true, Bool.not_false]
                refine pure_ (i := 35) (N := some 80) (v := ?_) (a' := ?_) #[true, true, true, true, true, true, true, true, true, true, true, true, true, true, true, true, true, true, true, true, true, true, true, true, true, true, true, true, true, true, true, true, true, true, true, true, false, false] rfl rfl (by kernel_rfl) (fun _ _ _ h => h) (Or.inl ⟨by rfl, ?_⟩) ?_ ?_
                rotate_left
                · intro w'
                  go_simp
                  with_reducible rfl
                rotate_left
                · simp only [Act.put, List.setIfInBounds_toArray, List.set_cons_zero, List.set_cons_succ, i64_w, i32_w]
                  rfl
                refine pure_ (i := 36) (N := some 81) (v := ?_) (a' := ?_) #[true, true, true, true, true, true, true, true, true, true, true, true, true, true, true, true, true, true, true, true, true, true, true, true, true, true, true, true, true, true, true, true, true, true, true, true, true, false] rfl rfl (by kernel_rfl) (fun _ _ _ h => h) (Or.inl ⟨by rfl, ?_⟩) ?_ ?_
                rotate_left
                · intro w'
                  go_simp
                  with_reducible rfl
                rotate_left
                · simp only [Act.put, List.setIfInBounds_toArray, List.set_cons_zero, List.set_cons_succ, i64_w, i32_w]
                  rfl
                refine pure_ (i := 37) (N := some 8) (v := ?_) (a' := ?_) #[true, true, true, true, true, true, true, true, true, true, true, true, true, true, true, true, true, true, true, true, true, true, true, true, true, true, true, true, true, true, true, true, true, true, true, true, true, true] rfl rfl (by kernel_rfl) (fun _ _ _ h => h) (Or.inl ⟨by rfl, ?_⟩) ?_ ?_
                rotate_left
                · intro w'
                  go_simp
                  with_reducible rfl
                rotate_left
                · simp only [Act.put, List.setIfInBounds_toArray, List.set_cons_zero, List.set_cons_succ, i64_w, i32_w]
                  rfl
                refine done_ (by kernel_rfl) ?_
                go_wp2_with fail
                go_ret
                rw [← some_eq H]
                exact ⟨(by first | rfl | (simp [IntKind.wrap_u32]; done)), (HS.out).keep (l := []) (rest := [blk g755 #[.int .i64 a748, .int .i64 a749, .int .i64 a750, .int .i64 a751] 32, blk g774 #[.int .i64 a748, .int .i64 a749, .int .i64 a750, .int .i64 (wrap64 (a751 + (wrap64 (a752))))] 32, blk g805 #[.int .i64 t802.1, .int .i64 t802.2.1, .int .i64 t802.2.2.1, .int .i64 t802.2.2.2.1, .int .i64 t802.2.2.2.2.1, .int .i64 t802.2.2.2.2.2.1, .int .i64 t802.2.2.2.2.2.2.1, .int .i64 t802.2.2.2.2.2.2.2.1] 38, blk g832 #[.int .i64 t829.1, .int .i64 t829.2.1, .int .i64 t829.2.2.1, .int .i64 t829.2.2.2.1, .int .i64 t829.2.2.2.2.1, .int .i64 t829.2.2.2.2.2.1, .int .i64 t829.2.2.2.2.2.2.1, .int .i64 t829.2.2.2.2.2.2.2.1] 38])⟩
              · have H := if_no c857 H
                have c857b0 : (t802.1 == t829.1) = false := beq_eq_false_iff_ne.mpr c857
                have c857b1 : (t802.1 != t829.1) = true := bne_iff_ne.mpr c857
                clear c857
                try simp only [c857b0, Bool.not_true, Bool.not_false]
                refine pure_ (i := 27) (N := some 72) (v := undef) (a' := ?_) #[true, true, true, true, true, true, true, true, true, true, true, true, true, true, true, true, true, true, true, true, true, true, true, true, true, true, true, true, false, false, false, false, false, false, false, false, false, false] rfl rfl (by kernel_rfl) (fun _ _ _ h => h) (Or.inr ⟨by rfl, rfl⟩) ?_ ?_
                rotate_left
                · simp only [Act.put, List.setIfInBounds_toArray, List.set_cons_zero, List.set_cons_succ, i64_w, i32_w]
                  rfl
                try simp only [c857b0, Bool.not_true, Bool.not_false]
                refine pure_ (i := 28) (N := some 73) (v := undef) (a' := ?_) #[true, true, true, true, true, true, true, true, true, true, true, true, true, true, true, true, true, true, true, true, true, true, true, true, true, true, true, true, true, false, false, false, false, false, false, false, false, false] rfl rfl (by kernel_rfl) (fun _ _ _ h => h) (Or.inr ⟨by rfl, rfl⟩) ?_ ?_
                rotate_left
                · simp only [Act.put, List.setIfInBounds_toArray, List.set_cons_zero, List.set_cons_succ, i64_w, i32_w]
                  rfl
                try simp only [c857b0, Bool.not_true, Bool.not_false]
                refine pure_ (i := 29) (N := some 74) (v := undef) (a' := ?_) #[true, true, true, true, true, true, true, true, true, true, true, true, true, true, true, true, true, true, true, true, true, true, true, true, true, true, true, true, true, true, false, false, false, false, false, false, false, false] rfl rfl (by kernel_rfl) (fun _ _ _ h => h) (Or.inr ⟨by rfl, rfl⟩) ?_ ?_
                rotate_left
                · simp only [Act.put, List.setIfInBounds_toArray, List.set_cons_zero, List.set_cons_succ, i64_w, i32_w]
                  rfl
                try simp only [c857b0, Bool.not_true, Bool.not_false]
                refine pure_ (i := 30) (N := some 75) (v := undef) (a' := ?_) #[true, true, true, true, true, true, true, true, true, true, true, true, true, true, true, true, true, true, true, true, true, true, true, true, true, true, true, true, true, true, true, false, false, false, false, false, false, false] rfl rfl (by kernel_rfl) (fun _ _ _ h => h) (Or.inr ⟨by rfl, rfl⟩) ?_ ?_
                rotate_left
                · simp only [Act.put, List.setIfInBounds_toArray, List.set_cons_zero, List.set_cons_succ, i64_w, i32_w]
                  rfl
                try simp only [c857b0, Bool.not_true, Bool.not_false]
                refine pure_ (i := 31) (N := some 76) (v := undef) (a' := ?_) #[true, true, true, true, true, true, true, true, true, true, true, true, true, true, true, true, true, true, true, true, true, true, true, true, true, true, true, true, true, true, true, true, false, false, false, false, false, false] rfl rfl (by kernel_rfl) (fun _ _ _ h => h) (Or.inr ⟨by rfl, rfl⟩) ?_ ?_
                rotate_left
                · simp only [Act.put, List.setIfInBounds_toArray, List.set_cons_zero, List.set_cons_succ, i64_w, i32_w]
                  rfl
                try simp only [c857b0, Bool.not_true, Bool.not_false]
                refine pure_ (i := 32) (N := some 77) (v := undef) (a' := ?_) #[true, true, true, true, true, true, true, true, true, true, true, true, true, true, true, true, true, true, true, true, true, true, true, true, true, true, true, true, true, true, true, true, true, false, false, false, false, false] rfl rfl (by kernel_rfl) (fun _ _ _ h => h) (Or.inr ⟨by rfl, rfl⟩) ?_ ?_
                rotate_left
                · simp only [Act.put, List.setIfInBounds_toArray, List.set_cons_zero, List.set_cons_succ, i64_w, i32_w]
                  rfl
                try simp only [c857b0, Bool.not_true, Bool.not_false]
                refine pure_ (i := 33) (N := some 78) (v := undef) (a' := ?_) #[true, true, true, true, true, true, true, true, true, true, true, true, true, true, true, true, true, true, true, true, true, true, true, true, true, true, true, true, true, true, true, true, true, true, false, false, false, false] rfl rfl (by kernel_rfl) (fun _ _ _ h => h) (Or.inr ⟨by rfl, rfl⟩) ?_ ?_
                rotate_left
                · simp only [Act.put, List.setIfInBounds_toArray, List.set_cons_zero, List.set_cons_succ, i64_w, i32_w]
                  rfl
                try simp only [c857b0, Bool.not_true, Bool.not_false]
                refine pure_ (i := 34) (N := some 79) (v := undef) (a' := ?_) #[true, true, true, true, true, true, true, true, true, true, true, true, true, true, true, true, true, true, true, true, true, true, true, true, true, true, true, true, true, true, true, true, true, true, true, false, false, false] rfl rfl (by kernel_rfl) (fun _ _ _ h => h) (Or.inr ⟨by rfl, rfl⟩) ?_ ?_
                rotate_left
                · simp only [Act.put, List.setIfInBounds_toArray, List.set_cons_zero, List.set_cons_succ, i64_w, i32_w]
                  rfl
                try simp only [c857b0, Bool.not_true, Bool.not_false]
                refine pure_ (i := 35) (N := some 80) (v := undef) (a' := ?_) #[true, true, true, true, true, true, true, true, true, true, true, true, true, true, true, true, true, true, true, true, true, true, true, true, true, true, true, true, true, true, true, true, true, true, true, true, false, false] rfl rfl (by kernel_rfl) (fun _ _ _ h => h) (Or.inr ⟨by rfl, rfl⟩) ?_ ?_
                rotate_left
                · simp only [Act.put, List.setIfInBounds_toArray, List.set_cons_zero, List.set_cons_succ, i64_w, i32_w]
                  rfl
                refine pure_ (i := 36) (N := some 81) (v := ?_) (a' := ?_) #[true, true, true, true, true, true, true, true, true, true, true, true, true, true, true, true, true, true, true, true, true, true, true, true, true, true, true, true, true, true, true, true, true, true, true, true, true, false] rfl rfl (by kernel_rfl) (fun _ _ _ h => h) (Or.inl ⟨by rfl, ?_⟩) ?_ ?_
                rotate_left
                · intro w'
                  go_simp
                  with_reducible rfl
                rotate_left
                · simp only [Act.put, List.setIfInBounds_toArray, List.set_cons_zero, List.set_cons_succ, i64_w, i32_w]
                  rfl
                refine pure_ (i := 37) (N := some 8) (v := ?_) (a' := ?_) #[true, true, true, true, true, true, true, true, true, true, true, true, true, true, true, true, true, true, true, true, true, true, true, true, true, true, true, true, true, true, true, true, true, true, true, true, true, true] rfl rfl (by kernel_rfl) (fun _ _ _ h => h) (Or.inl ⟨by rfl, ?_⟩) ?_ ?_
                rotate_left
                · intro w'
                  go_simp
                  with_reducible rfl
                rotate_left
                · simp only [Act.put, List.setIfInBounds_toArray, List.set_cons_zero, List.set_cons_succ, i64_w, i32_w]
                  rfl
                refine done_ (by kernel_rfl) ?_
                go_wp2_with fail
                go_ret
                rw [← some_eq H]
                exact ⟨(by first | rfl | (simp [IntKind.wrap_u32]; done)), (HS.out).keep (l := []) (rest := [blk g755 #[.int .i64 a748, .int .i64 a749, .int .i64 a750, .int .i64 a751] 32, blk g774 #[.int .i64 a748, .int .i64 a749, .int .i64 a750, .int .i64 (wrap64 (a751 + (wrap64 (a752))))] 32, blk g805 #[.int .i64 t802.1, .int .i64 t802.2.1, .int .i64 t802.2.2.1, .int .i64 t802.2.2.2.1, .int .i64 t802.2.2.2.2.1, .int .i64 t802.2.2.2.2.2.1, .int .i64 t802.2.2.2.2.2.2.1, .int .i64 t802.2.2.2.2.2.2.2.1] 38, blk g832 #[.int .i64 t829.1, .int .i64 t829.2.1, .int .i64 t829.2.2.1, .int .i64 t829.2.2.2.1, .int .i64 t829.2.2.2.2.1, .int .i64 t829.2.2.2.2.2.1, .int .i64 t829.2.2.2.2.2.2.1, .int .i64 t829.2.2.2.2.2.2.2.1] 38])⟩
            · have H := if_no c856 H
              have c856b0 : (t802.2.2.2.2.1 == t829.2.2.2.2.1) = false := beq_eq_false_iff_ne.mpr c856
              have c856b1 : (t802.2.2.2.2.1 != t829.2.2.2.2.1) = true := bne_iff_ne.mpr c856
              clear c856
              try simp only [c856b0, Bool.not_true, Bool.not_false]
              refine pure_ (i := 20) (N := some 65) (v := undef) (a' := ?_) #[true, true, true, true, true, true, true, true, true, true, true, true, true, true, true, true, true, true, true, true, true, false, false, false, false, false, false, false, false, false, false, false, false, false, false, false, false, false] rfl rfl (by kernel_rfl) (fun _ _ _ h => h) (Or.inr ⟨by rfl, rfl⟩) ?_ ?_
              rotate_left
              · simp only [Act.put, List.setIfInBounds_toArray, List.set_cons_zero, List.set_cons_succ, i64_w, i32_w]
                rfl
              try simp only [c856b0, Bool.not_true, Bool.not_false]
              refine pure_ (i := 21) (N := some 66) (v := undef) (a' := ?_) #[true, true, true, true, true, true, true, true, true, true, true, true, true, true, true, true, true, true, true, true, true, true, false, false, false, false, false, false, false, false, false, false, false, false, false, false, false, false] rfl rfl (by kernel_rfl) (fun _ _ _ h => h) (Or.inr ⟨by rfl, rfl⟩) ?_ ?_
              rotate_left
              · simp only [Act.put, List.setIfInBounds_toArray, List.set_cons_zero, List.set_cons_succ, i64_w, i32_w]
                rfl
              try simp only [c856b0, Bool.not_true, Bool.not_false]
              refine pure_ (i := 22) (N := some 67) (v := undef) (a' := ?_) #[true, true, true, true, true, true, true, true, true, true, true, true, true, true, true, true, true, true, true, true, true, true, true, false, false, false, false, false, false, false, false, false, false, false, false, false, false, false] rfl rfl (by kernel_rfl) (fun _ _ _ h => h) (Or.inr ⟨by rfl, rfl⟩) ?_ ?_
              rotate_left
              · simp only [Act.put, List.setIfInBounds_toArray, List.set_cons_zero, List.set_cons_succ, i64_w, i32_w]
                rfl
              try simp only [c856b0, Bool.not_true, Bool.not_false]
              refine pure_ (i := 23) (N := some 68) (v := undef) (a' := ?_) #[true, true, true, true, true, true, true, true, true, true, true, true, true, true, true, true, true, true, true, true, true, true, true, true, false, false, false, false, false, false, false, false, false, false, false, false, false, false] rfl rfl (by kernel_rfl) (fun _ _ _ h => h) (Or.inr ⟨by rfl, rfl⟩) ?_ ?_
              rotate_left
              · simp only [Act.put, List.setIfInBounds_toArray, List.set_cons_zero, List.set_cons_succ, i64_w, i32_w]
                rfl
              try simp only [c856b0, Bool.not_true, Bool.not_false]
              refine pure_ (i := 24) (N := some 69) (v := undef) (a' := ?_) #[true, true, true, true, true, true, true, true, true, true, true, true, true, true, true, true, true, true, true, true, true, true, true, true, true, false, false, false, false, false, false, false, false, false, false, false, false, false] rfl rfl (by kernel_rfl) (fun _ _ _ h => h) (Or.inr ⟨by rfl, rfl⟩) ?_ ?_
              rotate_left
              · simp only [Act.put, List.setIfInBounds_toArray, List.set_cons_zero, List.set_cons_succ, i64_w, i32_w]
                rfl
              refine pure_ (i := 25) (N := some 70) (v := ?_) (a' := ?_) #[true, true, true, true, true, true, true, true, true, true, true, true, true, true, true, true, true, true, true, true, true, true, true, true, true, true, false, false, false, false, false, false, false, false, false, false, false, false] rfl rfl (by kernel_rfl) (fun _ _ _ h => h) (Or.inl ⟨by rfl, ?_⟩) ?_ ?_
              rotate_left
              · intro w'
                go_simp
                with_reducible rfl
              rotate_left
              · simp only [Act.put, List.setIfInBounds_toArray, List.set_cons_zero, List.set_cons_succ, i64_w, i32_w]
                rfl
              refine pure_ (i := 26) (N := some 71) (v := ?_) (a' := ?_) #[true, true, true, true, true, true, true, true, true, true, true, true, true, true, true, true, true, true, true, true, true, true, true, true, true, true, true, false, false, false, false, false, false, false, false, false, false, false] rfl rfl (by kernel_rfl) (fun _ _ _ h => h) (Or.inl ⟨by rfl, ?_⟩) ?_ ?_
              rotate_left
              · intro w'
                go_simp
                with_reducible rfl
              rotate_left
              · simp only [Act.put, List.setIfInBounds_toArray, List.set_cons_zero, List.set_cons_succ, i64_w, i32_w]
                rfl
              refine pure_ (i := 27) (N := some 72) (v := undef) (a' := ?_) #[true, true, true, true, true, true, true, true, true, true, true, true, true, true, true, true, true, true, true, true, true, true, true, true, true, true, true, true, false, false, false, false, false, false, false, false, false, false] rfl rfl (by kernel_rfl) (fun _ _ _ h => h) (Or.inr ⟨by rfl, rfl⟩) ?_ ?_
              rotate_left
              · simp only [Act.put, List.setIfInBounds_toArray, List.set_cons_zero, List.set_cons_succ, i64_w, i32_w]
                rfl
              refine pure_ (i := 28) (N := some 73) (v := undef) (a' := ?_) #[true, true, true, true, true, true, true, true, true, true, true, true, true, true, true, true, true, true, true, true, true, true, true, true, true, true, true, true, true, false, false, false, false, false, false, false, false, false] rfl rfl (by kernel_rfl) (fun _ _ _ h => h) (Or.inr ⟨by rfl, rfl⟩) ?_ ?_
              rotate_left
              · simp only [Act.put, List.setIfInBounds_toArray, List.set_cons_zero, List.set_cons_succ, i64_w, i32_w]
                rfl
              refine pure_ (i := 29) (N := some 74) (v := undef) (a' := ?_) #[true, true, true, true, true, true, true, true, true, true, true, true, true, true, true, true, true, true, true, true, true, true, true, true, true, true, true, true, true, true, false, false, false, false, false, false, false, false] rfl rfl (by kernel_rfl) (fun _ _ _ h => h) (Or.inr ⟨by rfl, rfl⟩) ?_ ?_
              rotate_left
              · simp only [Act.put, List.setIfInBounds_toArray, List.set_cons_zero, List.set_cons_succ, i64_w, i32_w]
                rfl
              refine pure_ (i := 30) (N := some 75) (v := undef) (a' := ?_) #[true, true, true, true, true, true, true, true, true, true, true, true, true, true, true, true, true, true, true, true, true, true, true, true, true, true, true, true, true, true, true, false, false, false, false, false, false, false] rfl rfl (by kernel_rfl) (fun _ _ _ h => h) (Or.inr ⟨by rfl, rfl⟩) ?_ ?_
              rotate_left
              · simp only [Act.put, List.setIfInBounds_toArray, List.set_cons_zero, List.set_cons_succ, i64_w, i32_w]
                rfl
              refine pure_ (i := 31) (N := some 76) (v := undef) (a' := ?_) #[true, true, true, true, true, true, true, true, true, true, true, true, true, true, true, true, true, true, true, true, true, true, true, true, true, true, true, true, true, true, true, true, false, false, false, false, false, false] rfl rfl (by kernel_rfl) (fun _ _ _ h => h) (Or.inr ⟨by rfl, rfl⟩) ?_ ?_
              rotate_left
              · simp only [Act.put, List.setIfInBounds_toArray, List.set_cons_zero, List.set_cons_succ, i64_w, i32_w]
                rfl
              refine pure_ (i := 32) (N := some 77) (v := undef) (a' := ?_) #[true, true, true, true, true, true, true, true, true, true, true, true, true, true, true, true, true, true, true, true, true, true, true, true, true, true, true, true, true, true, true, true, true, false, false, false, false, false] rfl rfl (by kernel_rfl) (fun _ _ _ h => h) (Or.inr ⟨by rfl, rfl⟩) ?_ ?_
              rotate_left
              · simp only [Act.put, List.setIfInBounds_toArray, List.set_cons_zero, List.set_cons_succ, i64_w, i32_w]
                rfl
              refine pure_ (i := 33) (N := some 78) (v := undef) (a' := ?_) #[true, true, true, true, true, true, true, true, true, true, true, true, true, true, true, true, true, true, true, true, true, true, true, true, true, true, true, true, true, true, true, true, true, true, false, false, false, false] rfl rfl (by kernel_rfl) (fun _ _ _ h => h) (Or.inr ⟨by rfl, rfl⟩) ?_ ?_
              rotate_left
              · simp only [Act.put, List.setIfInBounds_toArray, List.set_cons_zero, List.set_cons_succ, i64_w, i32_w]
                rfl
              refine pure_ (i := 34) (N := some 79) (v := undef) (a' := ?_) #[true, true, true, true, true, true, true, true, true, true, true, true, true, true, true, true, true, true, true, true, true, true, true, true, true, true, true, true, true, true, true, true, true, true, true, false, false, false] rfl rfl (by kernel_rfl) (fun _ _ _ h => h) (Or.inr ⟨by rfl, rfl⟩) ?_ ?_
              rotate_left
              · simp only [Act.put, List.setIfInBounds_toArray, List.set_cons_zero, List.set_cons_succ, i64_w, i32_w]
                rfl
              refine pure_ (i := 35) (N := some 80) (v := undef) (a' := ?_) #[true, true, true, true, true, true, true, true, true, true, true, true, true, true, true, true, true, true, true, true, true, true, true, true, true, true, true, true, true, true, true, true, true, true, true, true, false, false] rfl rfl (by kernel_rfl) (fun _ _ _ h => h) (Or.inr ⟨by rfl, rfl⟩) ?_ ?_
              rotate_left
              · simp only [Act.put, List.setIfInBounds_toArray, List.set_cons_zero, List.set_cons_succ, i64_w, i32_w]
                rfl
              refine pure_ (i := 36) (N := some 81) (v := ?_) (a' := ?_) #[true, true, true, true, true, true, true, true, true, true, true, true, true, true, true, true, true, true, true, true, true, true, true, true, true, true, true, true, true, true, true, true, true, true, true, true, true, false] rfl rfl (by kernel_rfl) (fun _ _ _ h => h) (Or.inl ⟨by rfl, ?_⟩) ?_ ?_
              rotate_left
              · intro w'
                go_simp
                with_reducible rfl
              rotate_left
              · simp only [Act.put, List.setIfInBounds_toArray, List.set_cons_zero, List.set_cons_succ, i64_w, i32_w]
                rfl
              refine pure_ (i := 37) (N := some 8) (v := ?_) (a' := ?_) #[true, true, true, true, true, true, true, true, true, true, true, true, true, true, true, true, true, true, true, true, true, true, true, true, true, true, true, true, true, true, true, true, true, true, true, true, true, true] rfl rfl (by kernel_rfl) (fun _ _ _ h => h) (Or.inl ⟨by rfl, ?_⟩) ?_ ?_
              rotate_left
              · intro w'
                go_simp
                with_reducible rfl
              rotate_left
              · simp only [Act.put, List.setIfInBounds_toArray, List.set_cons_zero, List.set_cons_succ, i64_w, i32_w]
                rfl
              refine done_ (by kernel_rfl) ?_
              go_wp2_with fail
              go_ret
              rw [← some_eq H]
              exact ⟨(by first | rfl | (simp [IntKind.wrap_u32]; done)), (HS.out).keep (l := []) (rest := [blk g755 #[.int .i64 a748, .int .i64 a749, .int .i64 a750, .int .i64 a751] 32, blk g774 #[.int .i64 a748, .int .i64 a749, .int .i64 a750, .int .i64 (wrap64 (a751 + (wrap64 (a752))))] 32, blk g805 #[.int .i64 t802.1, .int .i64 t802.2.1, .int .i64 t802.2.2.1, .int .i64 t802.2.2.2.1, .int .i64 t802.2.2.2.2.1, .int .i64 t802.2.2.2.2.2.1, .int .i64 t802.2.2.2.2.2.2.1, .int .i64 t802.2.2.2.2.2.2.2.1] 38, blk g832 #[.int .i64 t829.1, .int .i64 t829.2.1, .int .i64 t829.2.2.1, .int .i64 t829.2.2.2.1, .int .i64 t829.2.2.2.2.1, .int .i64 t829.2.2.2.2.2.1, .int .i64 t829.2.2.2.2.2.2.1, .int .i64 t829.2.2.2.2.2.2.2.1] 38])⟩
          · have H := if_no c855 H
            have c855b0 : decide (t829.2.2.2.2.2.2.2.1 ≤ t802.2.2.2.2.2.2.2.1) = false := decide_eq_false c855
            clear c855
            try simp only [c855b0, Bool.not_true, Bool.not_false]
            refine pure_ (i := 13) (N := some 58) (v := undef) (a' := ?_) #[true, true, true, true, true, true, true, true, true, true, true, true, true, true, false, false, false, false, false, false, false, false, false, false, false, false, false, false, false, false, false, false, false, false, false, false, false, false] rfl rfl (by kernel_rfl) (fun _ _ _ h => h) (Or.inr ⟨by rfl, rfl⟩) ?_ ?_
            rotate_left
            · simp only [Act.put, List.setIfInBounds_toArray, List.set_cons_zero, List.set_cons_succ, i64_w, i32_w]
              rfl
            try simp only [c855b0, Bool.not_true, Bool.not_false]
            refine pure_ (i := 14) (N := some 59) (v := undef) (a' := ?_) #[true, true, true, true, true, true, true, true, true, true, true, true, true, true, true, false, false, false, false, false, false, false, false, false, false, false, false, false, false, false, false, false, false, false, false, false, false, false] rfl rfl (by kernel_rfl) (fun _ _ _ h => h) (Or.inr ⟨by rfl, rfl⟩) ?_ ?_
            rotate_left
            · simp only [Act.put, List.setIfInBounds_toArray, List.set_cons_zero, List.set_cons_succ, i64_w, i32_w]
              rfl
            try simp only [c855b0, Bool.not_true, Bool.not_false]
            refine pure_ (i := 15) (N := some 60) (v := undef) (a' := ?_) #[true, true, true, true, true, true, true, true, true, true, true, true, true, true, true, true, false, false, false, false, false, false, false, false, false, false, false, false, false, false, false, false, false, false, false, false, false, false] rfl rfl (by kernel_rfl) (fun _ _ _ h => h) (Or.inr ⟨by rfl, rfl⟩) ?_ ?_
            rotate_left
            · simp only [Act.put, List.setIfInBounds_toArray, List.set_cons_zero, List.set_cons_succ, i64_w, i32_w]
              rfl
            try simp only [c855b0, Bool.not_true, Bool.not_false]
            refine pure_ (i := 16) (N := some 61) (v := undef) (a' := ?_) #[true, true, true, true, true, true, true, true, true, true, true, true, true, true, true, true, true, false, false, false, false, false, false, false, false, false, false, false, false, false, false, false, false, false, false, false, false, false] rfl rfl (by kernel_rfl) (fun _ _ _ h => h) (Or.inr ⟨by rfl, rfl⟩) ?_ ?_
            rotate_left
            · simp only [Act.put, List.setIfInBounds_toArray, List.set_cons_zero, List.set_cons_succ, i64_w, i32_w]
              rfl
            try simp only [c855b0, Bool.not_true, Bool.not_false]
            refine pure_ (i := 17) (N := some 62) (v := undef) (a' := ?_) #[true, true, true, true, true, true, true, true, true, true, true, true, true, true, true, true, true, true, false, false, false, false, false, false, false, false, false, false, false, false, false, false, false, false, false, false, false, false] rfl rfl (by kernel_rfl) (fun _ _ _ h => h) (Or.inr ⟨by rfl, rfl⟩) ?_ ?_
            rotate_left
            · simp only [Act.put, List.setIfInBounds_toArray, List.set_cons_zero, List.set_cons_succ, i64_w, i32_w]
              rfl
            refine pure_ (i := 18) (N := some 63) (v := ?_) (a' := ?_) #[true, true, true, true, true, true, true, true, true, true, true, true, true, true, true, true, true, true, true, false, false, false, false, false, false, false, false, false, false, false, false, false, false, false, false, false, false, false] rfl rfl (by kernel_rfl) (fun _ _ _ h => h) (Or.inl ⟨by rfl, ?_⟩) ?_ ?_
            rotate_left
            · intro w'
              go_simp
              with_reducible rfl
            rotate_left
            · simp only [Act.put, List.setIfInBounds_toArray, List.set_cons_zero, List.set_cons_succ, i64_w, i32_w]
              rfl
            refine pure_ (i := 19) (N := some 64) (v := ?_) (a' := ?_) #[true, true, true, true, true, true, true, true, true, true, true, true, true, true, true, true, true, true, true, true, false, false, false, false, false, false, false, false, false, false, false, false, false, false, false, false, false, false] rfl rfl (by kernel_rfl) (fun _ _ _ h => h) (Or.inl ⟨by rfl, ?_⟩) ?_ ?_
            rotate_left
            · intro w'
              go_simp
              with_reducible rfl
            rotate_left
            · simp only [Act.put, List.setIfInBounds_toArray, List.set_cons_zero, List.set_cons_succ, i64_w, i32_w]
              rfl
            refine pure_ (i := 20) (N := some 65) (v := undef) (a' := ?_) #[true, true, true, true, true, true, true, true, true, true, true, true, true, true, true, true, true, true, true, true, true, false, false, false, false, false, false, false, false, false, false, false, false, false, false, false, false, false] rfl rfl (by kernel_rfl) (fun _ _ _ h => h) (Or.inr ⟨by rfl, rfl⟩) ?_ ?_
            rotate_left
            · simp only [Act.put, List.setIfInBounds_toArray, List.set_cons_zero, List.set_cons_succ, i64_w, i32_w]
              rfl
            refine pure_ (i := 21) (N := some 66) (v := undef) (a' := ?_) #[true, true, true, true, true, true, true, true, true, true, true, true, true, true, true, true, true, true, true, true, true, true, false, false, false, false, false, false, false, false, false, false, false, false, false, false, false, false] rfl rfl (by kernel_rfl) (fun _ _ _ h => h) (Or.inr ⟨by rfl, rfl⟩) ?_ ?_
            rotate_left
            · simp only [Act.put, List.setIfInBounds_toArray, List.set_cons_zero, List.set_cons_succ, i64_w, i32_w]
              rfl
            refine pure_ (i := 22) (N := some 67) (v := undef) (a' := ?_) #[true, true, true, true, true, true, true, true, true, true, true, true, true, true, true, true, true, true, true, true, true, true, true, false, false, false, false, false, false, false, false, false, false, false, false, false, false, false] rfl rfl (by kernel_rfl) (fun _ _ _ h => h) (Or.inr ⟨by rfl, rfl⟩) ?_ ?_
            rotate_left
            · simp only [Act.put, List.setIfInBounds_toArray, List.set_cons_zero, List.set_cons_succ, i64_w, i32_w]
              rfl
            refine pure_ (i := 23) (N := some 68) (v := undef) (a' := ?_) #[true, true, true, true, true, true, true, true, true, true, true, true, true, true, true, true, true, true, true, true, true, true, true, true, false, false, false, false, false, false, false, false, false, false, false, false, false, false] rfl rfl (by kernel_rfl) (fun _ _ _ h => h) (Or.inr ⟨by rfl, rfl⟩) ?_ ?_
            rotate_left
            · simp only [Act.put, List.setIfInBounds_toArray, List.set_cons_zero, List.set_cons_succ, i64_w, i32_w]
              rfl
            refine pure_ (i := 24) (N := some 69) (v := undef) (a' := ?_) #[true, true, true, true, true, true, true, true, true, true, true, true, true, true, true, true, true, true, true, true, true, true, true, true, true, false, false, false, false, false, false, false, false, false, false, false, false, false] rfl rfl (by kernel_rfl) (fun _ _ _ h => h) (Or.inr ⟨by rfl, rfl⟩) ?_ ?_
            rotate_left
            · simp only [Act.put, List.setIfInBounds_toArray, List.set_cons_zero, List.set_cons_succ, i64_w, i32_w]
              rfl
            refine pure_ (i := 25) (N := some 70) (v := ?_) (a' := ?_) #[true, true, true, true, true, true, true, true, true, true, true, true, true, true, true, true, true, true, true, true, true, true, true, true, true, true, false, false, false, false, false, false, false, false, false, false, false, false] rfl rfl (by kernel_rfl) (fun _ _ _ h => h) (Or.inl ⟨by rfl, ?_⟩) ?_ ?_
            rotate_left
            · intro w'
              go_simp
              with_reducible rfl
            rotate_left
            · simp only [Act.put, List.setIfInBounds_toArray, List.set_cons_zero, List.set_cons_succ, i64_w, i32_w]
              rfl
            refine pure_ (i := 26) (N := some 71) (v := ?_) (a' := ?_) #[true, true, true, true, true, true, true, true, true, true, true, true, true, true, true, true, true, true, true, true, true, true, true, true, true, true, true, false, false, false, false, false, false, false, false, false, false, false] rfl rfl (by kernel_rfl) (fun _ _ _ h => h) (Or.inl ⟨by rfl, ?_⟩) ?_ ?_
            rotate_left
            · intro w'
              go_simp
              with_reducible rfl
            rotate_left
            · simp only [Act.put, List.setIfInBounds_toArray, List.set_cons_zero, List.set_cons_succ, i64_w, i32_w]
              rfl
            refine pure_ (i := 27) (N := some 72) (v := undef) (a' := ?_) #[true, true, true, true, true, true, true, true, true, true, true, true, true, true, true, true, true, true, true, true, true, true, true, true, true, true, true, true, false, false, false, false, false, false, false, false, false, false] rfl rfl (by kernel_rfl) (fun _ _ _ h => h) (Or.inr ⟨by rfl, rfl⟩) ?_ ?_
            rotate_left
            · simp only [Act.put, List.setIfInBounds_toArray, List.set_cons_zero, List.set_cons_succ, i64_w, i32_w]
              rfl
            refine pure_ (i := 28) (N := some 73) (v := undef) (a' := ?_) #[true, true, true, true, true, true, true, true, true, true, true, true, true, true, true, true, true, true, true, true, true, true, true, true, true, true, true, true, true, false, false, false, false, false, false, false, false, false] rfl rfl (by kernel_rfl) (fun _ _ _ h => h) (Or.inr ⟨by rfl, rfl⟩) ?_ ?_
            rotate_left
            · simp only [Act.put, List.setIfInBounds_toArray, List.set_cons_zero, List.set_cons_succ, i64_w, i32_w]
              rfl
            refine pure_ (i := 29) (N := some 74) (v := undef) (a' := ?_) #[true, true, true, true, true, true, true, true, true, true, true, true, true, true, true, true, true, true, true, true, true, true, true, true, true, true, true, true, true, true, false, false, false, false, false, false, false, false] rfl rfl (by kernel_rfl) (fun _ _ _ h => h) (Or.inr ⟨by rfl, rfl⟩) ?_ ?_
            rotate_left
            · simp only [Act.put, List.setIfInBounds_toArray, List.set_cons_zero, List.set_cons_succ, i64_w, i32_w]
              rfl
            refine pure_ (i := 30) (N := some 75) (v := undef) (a' := ?_) #[true, true, true, true, true, true, true, true, true, true, true, true, true, true, true, true, true, true, true, true, true, true, true, true, true, true, true, true, true, true, true, false, false, false, false, false, false, false] rfl rfl (by kernel_rfl) (fun _ _ _ h => h) (Or.inr ⟨by rfl, rfl⟩) ?_ ?_
            rotate_left
            · simp only [Act.put, List.setIfInBounds_toArray, List.set_cons_zero, List.set_cons_succ, i64_w, i32_w]
              rfl
            refine pure_ (i := 31) (N := some 76) (v := undef) (a' := ?_) #[true, true, true, true, true, true, true, true, true, true, true, true, true, true, true, true, true, true, true, true, true, true, true, true, true, true, true, true, true, true, true, true, false, false, false, false, false, false] rfl rfl (by kernel_rfl) (fun _ _ _ h => h) (Or.inr ⟨by rfl, rfl⟩) ?_ ?_
            rotate_left
            · simp only [Act.put, List.setIfInBounds_toArray, List.set_cons_zero, List.set_cons_succ, i64_w, i32_w]
              rfl
            refine pure_ (i := 32) (N := some 77) (v := undef) (a' := ?_) #[true, true, true, true, true, true, true, true, true, true, true, true, true, true, true, true, true, true, true, true, true, true, true, true, true, true, true, true, true, true, true, true, true, false, false, false, false, false] rfl rfl (by kernel_rfl) (fun _ _ _ h => h) (Or.inr ⟨by rfl, rfl⟩) ?_ ?_
            rotate_left
            · simp only [Act.put, List.setIfInBounds_toArray, List.set_cons_zero, List.set_cons_succ, i64_w, i32_w]
              rfl
            refine pure_ (i := 33) (N := some 78) (v := undef) (a' := ?_) #[true, true, true, true, true, true, true, true, true, true, true, true, true, true, true, true, true, true, true, true, true, true, true, true, true, true, true, true, true, true, true, true, true, true, false, false, false, false] rfl rfl (by kernel_rfl) (fun _ _ _ h => h) (Or.inr ⟨by rfl, rfl⟩) ?_ ?_
            rotate_left
            · simp only [Act.put, List.setIfInBounds_toArray, List.set_cons_zero, List.set_cons_succ, i64_w, i32_w]
              rfl
            refine pure_ (i := 34) (N := some 79) (v := undef) (a' := ?_) #[true, true, true, true, true, true, true, true, true, true, true, true, true, true, true, true, true, true, true, true, true, true, true, true, true, true, true, true, true, true, true, true, true, true, true, false, false, false] rfl rfl (by kernel_rfl) (fun _ _ _ h => h) (Or.inr ⟨by rfl, rfl⟩) ?_ ?_
            rotate_left
            · simp only [Act.put, List.setIfInBounds_toArray, List.set_cons_zero, List.set_cons_succ, i64_w, i32_w]
              rfl
            refine pure_ (i := 35) (N := some 80) (v := undef) (a' := ?_) #[true, true, true, true, true, true, true, true, true, true, true, true, true, true, true, true, true, true, true, true, true, true, true, true, true, true, true, true, true, true, true, true, true, true, true, true, false, false] rfl rfl (by kernel_rfl) (fun _ _ _ h => h) (Or.inr ⟨by rfl, rfl⟩) ?_ ?_
            rotate_left
            · simp only [Act.put, List.setIfInBounds_toArray, List.set_cons_zero, List.set_cons_succ, i64_w, i32_w]
              rfl
            refine pure_ (i := 36) (N := some 81) (v := ?_) (a' := ?_) #[true, true, true, true, true, true, true, true, true, true, true, true, true, true, true, true, true, true, true, true, true, true, true, true, true, true, true, true, true, true, true, true, true, true, true, true, true, false] rfl rfl (by kernel_rfl) (fun _ _ _ h => h) (Or.inl ⟨by rfl, ?_⟩) ?_ ?_
            rotate_left
            · intro w'
              go_simp
              with_reducible rfl
            rotate_left
            · simp only [Act.put, List.setIfInBounds_toArray, List.set_cons_zero, List.set_cons_succ, i64_w, i32_w]
              rfl
            refine pure_ (i := 37) (N := some 8) (v := ?_) (a' := ?_) #[true, true, true, true, true, true, true, true, true, true, true, true, true, true, true, true, true, true, true, true, true, true, true, true, true, true, true, true, true, true, true, true, true, true, true, true, true, true] rfl rfl (by kernel_rfl) (fun _ _ _ h => h) (Or.inl ⟨by rfl, ?_⟩) ?_ ?_
            rotate_left
            · intro w'
              go_simp
              with_reducible rfl
            rotate_left
            · simp only [Act.put, List.setIfInBounds_toArray, List.set_cons_zero, List.set_cons_succ, i64_w, i32_w]
              rfl
            refine done_ (by kernel_rfl) ?_
            go_wp2_with fail
            go_ret
            rw [← some_eq H]
            exact ⟨(by first | rfl | (simp [IntKind.wrap_u32]; done)), (HS.out).keep (l := []) (rest := [blk g755 #[.int .i64 a748, .int .i64 a749, .int .i64 a750, .int .i64 a751] 32, blk g774 #[.int .i64 a748, .int .i64 a749, .int .i64 a750, .int .i64 (wrap64 (a751 + (wrap64 (a752))))] 32, blk g805 #[.int .i64 t802.1, .int .i64 t802.2.1, .int .i64 t802.2.2.1, .int .i64 t802.2.2.2.1, .int .i64 t802.2.2.2.2.1, .int .i64 t802.2.2.2.2.2.1, .int .i64 t802.2.2.2.2.2.2.1, .int .i64 t802.2.2.2.2.2.2.2.1] 38, blk g832 #[.int .i64 t829.1, .int .i64 t829.2.1, .int .i64 t829.2.2.1, .int .i64 t829.2.2.2.1, .int .i64 t829.2.2.2.2.1, .int .i64 t829.2.2.2.2.2.1, .int .i64 t829.2.2.2.2.2.2.1, .int .i64 t829.2.2.2.2.2.2.2.1] 38])⟩
        · have H := if_no c854 H
          have c854b0 : decide (t829.2.2.2.2.2.2.1 ≤ t802.2.2.2.2.2.2.1) = false := decide_eq_false c854
          clear c854
          try simp only [c854b0, Bool.not_true, Bool.not_false]
          refine pure_ (i := 6) (N := some 51) (v := undef) (a' := ?_) #[true, true, true, true, true, true, true, false, false, false, false, false, false, false, false, false, false, false, false, false, false, false, false, false, false, false, false, false, false, false, false, false, false, false, false, false, false, false] rfl rfl (by kernel_rfl) (fun _ _ _ h => h) (Or.inr ⟨by rfl, rfl⟩) ?_ ?_
          rotate_left
          · simp only [Act.put, List.setIfInBounds_toArray, List.set_cons_zero, List.set_cons_succ, i64_w, i32_w]
            rfl
          try simp only [c854b0, Bool.not_true, Bool.not_false]
          refine pure_ (i := 7) (N := some 52) (v := undef) (a' := ?_) #[true, true, true, true, true, true, true, true, false, false, false, false, false, false, false, false, false, false, false, false, false, false, false, false, false, false, false, false, false, false, false, false, false, false, false, false, false, false] rfl rfl (by kernel_rfl) (fun _ _ _ h => h) (Or.inr ⟨by rfl, rfl⟩) ?_ ?_
          rotate_left
          · simp only [Act.put, List.setIfInBounds_toArray, List.set_cons_zero, List.set_cons_succ, i64_w, i32_w]
            rfl
          try simp only [c854b0, Bool.not_true, Bool.not_false]
          refine pure_ (i := 8) (N := some 53) (v := undef) (a' := ?_) #[true, true, true, true, true, true, true, true, true, false, false, false, false, false, false, false, false, false, false, false, false, false, false, false, false, false, false, false, false, false, false, false, false, false, false, false, false, false] rfl rfl (by kernel_rfl) (fun _ _ _ h => h) (Or.inr ⟨by rfl, rfl⟩) ?_ ?_
          rotate_left
          · simp only [Act.put, List.setIfInBounds_toArray, List.set_cons_zero, List.set_cons_succ, i64_w, i32_w]
            rfl
          try simp only [c854b0, Bool.not_true, Bool.not_false]
          refine pure_ (i := 9) (N := some 54) (v := undef) (a' := ?_) #[true, true, true, true, true, true, true, true, true, true, false, false, false, false, false, false, false, false, false, false, false, false, false, false, false, false, false, false, false, false, false, false, false, false, false, false, false, false] rfl rfl (by kernel_rfl) (fun _ _ _ h => h) (Or.inr ⟨by rfl, rfl⟩) ?_ ?_
          rotate_left
          · simp only [Act.put, List.setIfInBounds_toArray, List.set_cons_zero, List.set_cons_succ, i64_w, i32_w]
            rfl
          try simp only [c854b0, Bool.not_true, Bool.not_false]
          refine pure_ (i := 10) (N := some 55) (v := undef) (a' := ?_) #[true, true, true, true, true, true, true, true, true, true, true, false, false, false, false, false, false, false, false, false, false, false, false, false, false, false, false, false, false, false, false, false, false, false, false, false, false, false] rfl rfl (by kernel_rfl) (fun _ _ _ h => h) (Or.inr ⟨by rfl, rfl⟩) ?_ ?_
          rotate_left
          · simp only [Act.put, List.setIfInBounds_toArray, List.set_cons_zero, List.set_cons_succ, i64_w, i32_w]
            rfl
          refine pure_ (i := 11) (N := some 56) (v := ?_) (a' := ?_) #[true, true, true, true, true, true, true, true, true, true, true, true, false, false, false, false, false, false, false, false, false, false, false, false, false, false, false, false, false, false, false, false, false, false, false, false, false, false] rfl rfl (by kernel_rfl) (fun _ _ _ h => h) (Or.inl ⟨by rfl, ?_⟩) ?_ ?_
          rotate_left
          · intro w'
            go_simp
            with_reducible rfl
          rotate_left
          · simp only [Act.put, List.setIfInBounds_toArray, List.set_cons_zero, List.set_cons_succ, i64_w, i32_w]
            rfl
          refine pure_ (i := 12) (N := some 57) (v := ?_) (a' := ?_) #[true, true, true, true, true, true, true, true, true, true, true, true, true, false, false, false, false, false, false, false, false, false, false, false, false, false, false, false, false, false, false, false, false, false, false, false, false, false] rfl rfl (by kernel_rfl) (fun _ _ _ h => h) (Or.inl ⟨by rfl, ?_⟩) ?_ ?_
          rotate_left
          · intro w'
            go_simp
            with_reducible rfl
          rotate_left
          · simp only [Act.put, List.setIfInBounds_toArray, List.set_cons_zero, List.set_cons_succ, i64_w, i32_w]
            rfl
          refine pure_ (i := 13) (N := some 58) (v := undef) (a' := ?_) #[true, true, true, true, true, true, true, true, true, true, true, true, true, true, false, false, false, false, false, false, false, false, false, false, false, false, false, false, false, false, false, false, false, false, false, false, false, false] rfl rfl (by kernel_rfl) (fun _ _ _ h => h) (Or.inr ⟨by rfl, rfl⟩) ?_ ?_
          rotate_left
          · simp only [Act.put, List.setIfInBounds_toArray, List.set_cons_zero, List.set_cons_succ, i64_w, i32_w]
            rfl
          refine pure_ (i := 14) (N := some 59) (v := undef) (a' := ?_) #[true, true, true, true, true, true, true, true, true, true, true, true, true, true, true, false, false, false, false, false, false, false, false, false, false, false, false, false, false, false, false, false, false, false, false, false, false, false] rfl rfl (by kernel_rfl) (fun _ _ _ h => h) (Or.inr ⟨by rfl, rfl⟩) ?_ ?_
          rotate_left
          · simp only [Act.put, List.setIfInBounds_toArray, List.set_cons_zero, List.set_cons_succ, i64_w, i32_w]
            rfl
          refine pure_ (i := 15) (N := some 60) (v := undef) (a' := ?_) #[true, true, true, true, true, true, true, true, true, true, true, true, true, true, true, true, false, false, false, false, false, false, false, false, false, false, false, false, false, false, false, false, false, false, false, false, false, false] rfl rfl (by kernel_rfl) (fun _ _ _ h => h) (Or.inr ⟨by rfl, rfl⟩) ?_ ?_
          rotate_left
          · simp only [Act.put, List.setIfInBounds_toArray, List.set_cons_zero, List.set_cons_succ, i64_w, i32_w]
            rfl
          refine pure_ (i := 16) (N := some 61) (v := undef) (a' := ?_) #[true, true, true, true, true, true, true, true, true, true, true, true, true, true, true, true, true, false, false, false, false, false, false, false, false, false, false, false, false, false, false, false, false, false, false, false, false, false] rfl rfl (by kernel_rfl) (fun _ _ _ h => h) (Or.inr ⟨by rfl, rfl⟩) ?_ ?_
          rotate_left
          · simp only [Act.put, List.setIfInBounds_toArray, List.set_cons_zero, List.set_cons_succ, i64_w, i32_w]
            rfl
          refine pure_ (i := 17) (N := some 62) (v := undef) (a' := ?_) #[true, true, true, true, true, true, true, true, true, true, true, true, true, true, true, true, true, true, false, false, false, false, false, false, false, false, false, false, false, false, false, false, false, false, false, false, false, false] rfl rfl (by kernel_rfl) (fun _ _ _ h => h) (Or.inr ⟨by rfl, rfl⟩) ?_ ?_
          rotate_left
          · simp only [Act.put, List.setIfInBounds_toArray, List.set_cons_zero, List.set_cons_succ, i64_w, i32_w]
            rfl
          refine pure_ (i := 18) (N := some 63) (v := ?_) (a' := ?_) #[true, true, true, true, true, true, true, true, true, true, true, true, true, true, true, true, true, true, true, false, false, false, false, false, false, false, false, false, false, false, false, false, false, false, false, false, false, false] rfl rfl (by kernel_rfl) (fun _ _ _ h => h) (Or.inl ⟨by rfl, ?_⟩) ?_ ?_
          rotate_left
          · intro w'
            go_simp
            with_reducible rfl
          rotate_left
          · simp only [Act.put, List.setIfInBounds_toArray, List.set_cons_zero, List.set_cons_succ, i64_w, i32_w]
            rfl
          refine pure_ (i := 19) (N := some 64) (v := ?_) (a' := ?_) #[true, true, true, true, true, true, true, true, true, true, true, true, true, true, true, true, true, true, true, true, false, false, false, false, false, false, false, false, false, false, false, false, false, false, false, false, false, false] rfl rfl (by kernel_rfl) (fun _ _ _ h => h) (Or.inl ⟨by rfl, ?_⟩) ?_ ?_
          rotate_left
          · intro w'
            go_simp
            with_reducible rfl
          rotate_left
          · simp only [Act.put, List.setIfInBounds_toArray, List.set_cons_zero, List.set_cons_succ, i64_w, i32_w]
            rfl
          refine pure_ (i := 20) (N := some 65) (v := undef) (a' := ?_) #[true, true, true, true, true, true, true, true, true, true, true, true, true, true, true, true, true, true, true, true, true, false, false, false, false, false, false, false, false, false, false, false, false, false, false, false, false, false] rfl rfl (by kernel_rfl) (fun _ _ _ h => h) (Or.inr ⟨by rfl, rfl⟩) ?_ ?_
          rotate_left
          · simp only [Act.put, List.setIfInBounds_toArray, List.set_cons_zero, List.set_cons_succ, i64_w, i32_w]
            rfl
          refine pure_ (i := 21) (N := some 66) (v := undef) (a' := ?_) #[true, true, true, true, true, true, true, true, true, true, true, true, true, true, true, true, true, true, true, true, true, true, false, false, false, false, false, false, false, false, false, false, false, false, false, false, false, false] rfl rfl (by kernel_rfl) (fun _ _ _ h => h) (Or.inr ⟨by rfl, rfl⟩) ?_ ?_
          rotate_left
          · simp only [Act.put, List.setIfInBounds_toArray, List.set_cons_zero, List.set_cons_succ, i64_w, i32_w]
            rfl
          refine pure_ (i := 22) (N := some 67) (v := undef) (a' := ?_) #[true, true, true, true, true, true, true, true, true, true, true, true, true, true, true, true, true, true, true, true, true, true, true, false, false, false, false, false, false, false, false, false, false, false, false, false, false, false] rfl rfl (by kernel_rfl) (fun _ _ _ h => h) (Or.inr ⟨by rfl, rfl⟩) ?_ ?_
          rotate_left
          · simp only [Act.put, List.setIfInBounds_toArray, List.set_cons_zero, List.set_cons_succ, i64_w, i32_w]
            rfl
          refine pure_ (i := 23) (N := some 68) (v := undef) (a' := ?_) #[true, true, true, true, true, true, true, true, true, true, true, true, true, true, true, true, true, true, true, true, true, true, true, true, false, false, false, false, false, false, false, false, false, false, false, false, false, false] rfl rfl (by kernel_rfl) (fun _ _ _ h => h) (Or.inr ⟨by rfl, rfl⟩) ?_ ?_
          rotate_left
          · simp only [Act.put, List.setIfInBounds_toArray, List.set_cons_zero, List.set_cons_succ, i64_w, i32_w]
            rfl
          refine pure_ (i := 24) (N := some 69) (v := undef) (a' := ?_) #[true, true, true, true, true, true, true, true, true, true, true, true, true, true, true, true, true, true, true, true, true, true, true, true, true, false, false, false, false, false, false, false, false, false, false, false, false, false] rfl rfl (by kernel_rfl) (fun _ _ _ h => h) (Or.inr ⟨by rfl, rfl⟩) ?_ ?_
          rotate_left
          · simp only [Act.put, List.setIfInBounds_toArray, List.set_cons_zero, List.set_cons_succ, i64_w, i32_w]
            rfl
          refine pure_ (i := 25) (N := some 70) (v := ?_) (a' := ?_) #[true, true, true, true, true, true, true, true, true, true, true, true, true, true, true, true, true, true, true, true, true, true, true, true, true, true, false, false, false, false, false, false, false, false, false, false, false, false] rfl rfl (by kernel_rfl) (fun _ _ _ h => h) (Or.inl ⟨by rfl, ?_⟩) ?_ ?_
          rotate_left
          · intro w'
            go_simp
            with_reducible rfl
          rotate_left
          · simp only [Act.put, List.setIfInBounds_toArray, List.set_cons_zero, List.set_cons_succ, i64_w, i32_w]
            rfl
          refine pure_ (i := 26) (N := some 71) (v := ?_) (a' := ?_) #[true, true, true, true, true, true, true, true, true, true, true, true, true, true, true, true, true, true, true, true, true, true, true, true, true, true, true, false, false, false, false, false, false, false, false, false, false, false] rfl rfl (by kernel_rfl) (fun _ _ _ h => h) (Or.inl ⟨by rfl, ?_⟩) ?_ ?_
          rotate_left
          · intro w'
            go_simp
            with_reducible rfl
          rotate_left
          · simp only [Act.put, List.setIfInBounds_toArray, List.set_cons_zero, List.set_cons_succ, i64_w, i32_w]
            rfl
          refine pure_ (i := 27) (N := some 72) (v := undef) (a' := ?_) #[true, true, true, true, true, true, true, true, true, true, true, true, true, true, true, true, true, true, true, true, true, true, true, true, true, true, true, true, false, false, false, false, false, false, false, false, false, false] rfl rfl (by kernel_rfl) (fun _ _ _ h => h) (Or.inr ⟨by rfl, rfl⟩) ?_ ?_
          rotate_left
          · simp only [Act.put, List.setIfInBounds_toArray, List.set_cons_zero, List.set_cons_succ, i64_w, i32_w]
            rfl
          refine pure_ (i := 28) (N := some 73) (v := undef) (a' := ?_) #[true, true, true, true, true, true, true, true, true, true, true, true, true, true, true, true, true, true, true, true, true, true, true, true, true, true, true, true, true, false, false, false, false, false, false, false, false, false] rfl rfl (by kernel_rfl) (fun _ _ _ h => h) (Or.inr ⟨by rfl, rfl⟩) ?_ ?_
          rotate_left
          · simp only [Act.put, List.setIfInBounds_toArray, List.set_cons_zero, List.set_cons_succ, i64_w, i32_w]
            rfl
          refine pure_ (i := 29) (N := some 74) (v := undef) (a' := ?_) #[true, true, true, true, true, true, true, true, true, true, true, true, true, true, true, true, true, true, true, true, true, true, true, true, true, true, true, true, true, true, false, false, false, false, false, false, false, false] rfl rfl (by kernel_rfl) (fun _ _ _ h => h) (Or.inr ⟨by rfl, rfl⟩) ?_ ?_
          rotate_left
          · simp only [Act.put, List.setIfInBounds_toArray, List.set_cons_zero, List.set_cons_succ, i64_w, i32_w]
            rfl
          refine pure_ (i := 30) (N := some 75) (v := undef) (a' := ?_) #[true, true, true, true, true, true, true, true, true, true, true, true, true, true, true, true, true, true, true, true, true, true, true, true, true, true, true, true, true, true, true, false, false, false, false, false, false, false] rfl rfl (by kernel_rfl) (fun _ _ _ h => h) (Or.inr ⟨by rfl, rfl⟩) ?_ ?_
          rotate_left
          · simp only [Act.put, List.setIfInBounds_toArray, List.set_cons_zero, List.set_cons_succ, i64_w, i32_w]
            rfl
          refine pure_ (i := 31) (N := some 76) (v := undef) (a' := ?_) #[true, true, true, true, true, true, true, true, true, true, true, true, true, true, true, true, true, true, true, true, true, true, true, true, true, true, true, true, true, true, true, true, false, false, false, false, false, false] rfl rfl (by kernel_rfl) (fun _ _ _ h => h) (Or.inr ⟨by rfl, rfl⟩) ?_ ?_
          rotate_left
          · simp only [Act.put, List.setIfInBounds_toArray, List.set_cons_zero, List.set_cons_succ, i64_w, i32_w]
            rfl
          refine pure_ (i := 32) (N := some 77) (v := undef) (a' := ?_) #[true, true, true, true, true, true, true, true, true, true, true, true, true, true, true, true, true, true, true, true, true, true, true, true, true, true, true, true, true, true, true, true, true, false, false, false, false, false] rfl rfl (by kernel_rfl) (fun _ _ _ h => h) (Or.inr ⟨by rfl, rfl⟩) ?_ ?_
          rotate_left
          · simp only [Act.put, List.setIfInBounds_toArray, List.set_cons_zero, List.set_cons_succ, i64_w, i32_w]
            rfl
          refine pure_ (i := 33) (N := some 78) (v := undef) (a' := ?_) #[true, true, true, true, true, true, true, true, true, true, true, true, true, true, true, true, true, true, true, true, true, true, true, true, true, true, true, true, true, true, true, true, true, true, false, false, false, false] rfl rfl (by kernel_rfl) (fun _ _ _ h => h) (Or.inr ⟨by rfl, rfl⟩) ?_ ?_
          rotate_left
          · simp only [Act.put, List.setIfInBounds_toArray, List.set_cons_zero, List.set_cons_succ, i64_w, i32_w]
            rfl
          refine pure_ (i := 34) (N := some 79) (v := undef) (a' := ?_) #[true, true, true, true, true, true, true, true, true, true, true, true, true, true, true, true, true, true, true, true, true, true, true, true, true, true, true, true, true, true, true, true, true, true, true, false, false, false] rfl rfl (by kernel_rfl) (fun _ _ _ h => h) (Or.inr ⟨by rfl, rfl⟩) ?_ ?_
          rotate_left
          · simp only [Act.put, List.setIfInBounds_toArray, List.set_cons_zero, List.set_cons_succ, i64_w, i32_w]
            rfl
          refine pure_ (i := 35) (N := some 80) (v := undef) (a' := ?_) #[true, true, true, true, true, true, true, true, true, true, true, true, true, true, true, true, true, true, true, true, true, true, true, true, true, true, true, true, true, true, true, true, true, true, true, true, false, false] rfl rfl (by kernel_rfl) (fun _ _ _ h => h) (Or.inr ⟨by rfl, rfl⟩) ?_ ?_
          rotate_left
          · simp only [Act.put, List.setIfInBounds_toArray, List.set_cons_zero, List.set_cons_succ, i64_w, i32_w]
            rfl
          refine pure_ (i := 36) (N := some 81) (v := ?_) (a' := ?_) #[true, true, true, true, true, true, true, true, true, true, true, true, true, true, true, true, true, true, true, true, true, true, true, true, true, true, true, true, true, true, true, true, true, true, true, true, true, false] rfl rfl (by kernel_rfl) (fun _ _ _ h => h) (Or.inl ⟨by rfl, ?_⟩) ?_ ?_
          rotate_left
          · intro w'
            go_simp
            with_reducible rfl
          rotate_left
          · simp only [Act.put, List.setIfInBounds_toArray, List.set_cons_zero, List.set_cons_succ, i64_w, i32_w]
            rfl
          refine pure_ (i := 37) (N := some 8) (v := ?_) (a' := ?_) #[true, true, true, true, true, true, true, true, true, true, true, true, true, true, true, true, true, true, true, true, true, true, true, true, true, true, true, true, true, true, true, true, true, true, true, true, true, true] rfl rfl (by kernel_rfl) (fun _ _ _ h => h) (Or.inl ⟨by rfl, ?_⟩) ?_ ?_
          rotate_left
          · intro w'
            go_simp
            with_reducible rfl
          rotate_left
          · simp only [Act.put, List.setIfInBounds_toArray, List.set_cons_zero, List.set_cons_succ, i64_w, i32_w]
            rfl
          refine done_ (by kernel_rfl) ?_
          go_wp2_with fail
          go_ret
          rw [← some_eq H]
          exact ⟨(by first | rfl | (simp [IntKind.wrap_u32]; done)), (HS.out).keep (l := []) (rest := [blk g755 #[.int .i64 a748, .int .i64 a749, .int .i64 a750, .int .i64 a751] 32, blk g774 #[.int .i64 a748, .int .i64 a749, .int .i64 a750, .int .i64 (wrap64 (a751 + (wrap64 (a752))))] 32, blk g805 #[.int .i64 t802.1, .int .i64 t802.2.1, .int .i64 t802.2.2.1, .int .i64 t802.2.2.2.1, .int .i64 t802.2.2.2.2.1, .int .i64 t802.2.2.2.2.2.1, .int .i64 t802.2.2.2.2.2.2.1, .int .i64 t802.2.2.2.2.2.2.2.1] 38, blk g832 #[.int .i64 t829.1, .int .i64 t829.2.1, .int .i64 t829.2.2.1, .int .i64 t829.2.2.2.1, .int .i64 t829.2.2.2.2.1, .int .i64 t829.2.2.2.2.2.1, .int .i64 t829.2.2.2.2.2.2.1, .int .i64 t829.2.2.2.2.2.2.2.1] 38])⟩
      · have H := if_no c797 H
        have c797b0 : (t794 == 0) = false := beq_eq_false_iff_ne.mpr c797
        have c797b1 : (t794 != 0) = true := bne_iff_ne.mpr c797
        clear c797
        have hc864 : w796.cell? ⟨g774, 3, none⟩ = some (.int .i64 (wrap64 (a751 + (wrap64 (a752))))) := blk_cellv (HS.out.at1) 3 rfl
        go_wp2_with fail
        clear hc864
        go_ret
        rw [← some_eq H]
        exact ⟨(by first | rfl | (simp [IntKind.wrap_u32]; done)), (HS.out).keep (l := []) (rest := [blk g755 #[.int .i64 a748, .int .i64 a749, .int .i64 a750, .int .i64 a751] 32, blk g774 #[.int .i64 a748, .int .i64 a749, .int .i64 a750, .int .i64 (wrap64 (a751 + (wrap64 (a752))))] 32])⟩
    · have H := if_no c769 H
      have c769b0 : (t766 == 0) = false := beq_eq_false_iff_ne.mpr c769
      have c769b1 : (t766 != 0) = true := bne_iff_ne.mpr c769
      clear c769
      go_wp2_with fail
      obtain ⟨t865, HA866, H⟩ := bind_some H
      refine (quitrentlaw03_begun.calls _ t865 _ ⟨HS.out.begin (l := []) (rest := [blk g755 #[.int .i64 a748, .int .i64 a749, .int .i64 a750, .int .i64 a751] 32])⟩ HA866).mono ?_
      rintro e_ w867 ⟨rfl, hS⟩
      have HS_ : Aside0 (Sep (fps []) w [blk g755 #[.int .i64 a748, .int .i64 a749, .int .i64 a750, .int .i64 a751] 32] w867) := ⟨HS.out.call (l := []) (rest := [blk g755 #[.int .i64 a748, .int .i64 a749, .int .i64 a750, .int .i64 a751] 32]) hS⟩
      clear HS hS
      have HS := HS_
      clear HS_
      go_wp2_with fail
      go_ret
      rw [← some_eq H]
      exact ⟨(by first | rfl | (simp [IntKind.wrap_u32]; done)), (HS.out).keep (l := []) (rest := [blk g755 #[.int .i64 a748, .int .i64 a749, .int .i64 a750, .int .i64 a751] 32])⟩
  · have H := if_no c761 H
    have c761b0 : t758 = false := by simpa using c761
    clear c761
    go_wp2_with fail
    obtain ⟨t865, HA868, H⟩ := bind_some H
    refine (quitrentlaw03_begun.calls _ t865 _ ⟨HS.out.begin (l := []) (rest := [blk g755 #[.int .i64 a748, .int .i64 a749, .int .i64 a750, .int .i64 a751] 32])⟩ HA868).mono ?_
    rintro e_ w869 ⟨rfl, hS⟩
    have HS_ : Aside0 (Sep (fps []) w [blk g755 #[.int .i64 a748, .int .i64 a749, .int .i64 a750, .int .i64 a751] 32] w869) := ⟨HS.out.call (l := []) (rest := [blk g755 #[.int .i64 a748, .int .i64 a749, .int .i64 a750, .int .i64 a751] 32]) hS⟩
    clear HS hS
    have HS := HS_
    clear HS_
    go_wp2_with fail
    go_ret
    rw [← some_eq H]
    exact ⟨(by first | rfl | (simp [IntKind.wrap_u32]; done)), (HS.out).keep (l := []) (rest := [blk g755 #[.int .i64 a748, .int .i64 a749, .int .i64 a750, .int .i64 a751] 32])⟩
end Go.Proofs.Ytgkpcboaiaiahab.C

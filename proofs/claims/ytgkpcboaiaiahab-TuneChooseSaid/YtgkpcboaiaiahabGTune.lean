/- Each function of the group Tune does what its plain function says, and changes nothing that was there; proved by walking its code. No condition. -/
import Derived.Test.YtgkpcboaiaiahabQw
import Derived.Test.YtgkpcboaiaiahabMTune
import Derived.Test.YtgkpcboaiaiahabGTune0
import Derived.Test.YtgkpcboaiaiahabGTune1
import Derived.Test.YtgkpcboaiaiahabGTune2
namespace Go.Proofs.Ytgkpcboaiaiahab.C
open Go.RowKit Go.Proofs.YtgkpcboaiaiahabW.PrintWords Go.Proofs.YtgkpcboaiaiahabW.PrintLast Go.Proofs.YtgkpcboaiaiahabW.PrintMore Go.Proofs.Ytgkpcboaiaiahab.Q Go.Proofs.Ytgkpcboaiaiahab.M
set_option linter.unusedVariables false
set_option linter.unusedSimpArgs false
set_option maxHeartbeats 4000000 in
set_option maxRecDepth 100000 in
theorem quitrentlaw31_TuneChoose.calls (k : Nat) (a1 : Int) (a2 : Int) (a3 : Int) (a4 : Int) (a5 : Int) (a6 : Int) (a7 : Int) (r : Bool) (w : World)  (HS : Aside0 (Sep (fps []) w [] w)) (H : Aside0 (quitrentlaw31_TuneChoose.f k a1 a2 a3 a4 a5 a6 a7 = some r)) :
    Calls Try.prog 9 #[.agg #[.int .i64 a1, .int .i64 a2, .int .i64 a3, .int .i64 a4], .int .i64 a5, .int .i64 a6, .int .i64 a7] w fun e w' => e = .returned (.bool r) ∧ Sep (fps []) w [] w' := by
  unfold quitrentlaw31_TuneChoose.f at H
  go_enter Try.func9, Try.ntmps9
  go_wp2_with (first | ((with_reducible refine gate_dst (N := 4) rfl ?_); refine box_on ?hg (N := 4) ?hd (cs := #[.int .i64 a1, .int .i64 a2, .int .i64 a3, .int .i64 a4]) (t := 32) ?hr ?_; (case hd => rfl); (case hg => rfl); (case hr => first | (go_simp; done) | (go_simp; rfl)); intro g8 hg w9 hbox hb; have HS_ : Aside0 (Sep (fps []) w [blk g8 #[.int .i64 a1, .int .i64 a2, .int .i64 a3, .int .i64 a4] 32] w9) := ⟨HS.out.box hg hbox hb⟩; clear HS hg hbox hb; have HS := HS_; clear HS_; have hc11 : w9.cell? ⟨g8, 0, none⟩ = some (.int .i64 a1) := blk_cellv (HS.out.at0) 0 rfl; have hc12 : w9.cell? ⟨g8, 1, none⟩ = some (.int .i64 a2) := blk_cellv (HS.out.at0) 1 rfl; have hc13 : w9.cell? ⟨g8, 2, none⟩ = some (.int .i64 a3) := blk_cellv (HS.out.at0) 2 rfl; have hc14 : w9.cell? ⟨g8, 3, none⟩ = some (.int .i64 a4) := blk_cellv (HS.out.at0) 3 rfl))
  clear hc11 hc12 hc13 hc14
  obtain ⟨t973, HA974, H⟩ := bind_some H
  refine (tune_Choose.calls _ a1 a2 a3 a4 a5 a6 t973 _ ⟨HS.out.begin (l := []) (rest := [blk g8 #[.int .i64 a1, .int .i64 a2, .int .i64 a3, .int .i64 a4] 32])⟩ HA974).mono ?_
  rintro e_ w975 ⟨rfl, hS⟩
  have HS_ : Aside0 (Sep (fps []) w [blk g8 #[.int .i64 a1, .int .i64 a2, .int .i64 a3, .int .i64 a4] 32] w975) := ⟨HS.out.call (l := []) (rest := [blk g8 #[.int .i64 a1, .int .i64 a2, .int .i64 a3, .int .i64 a4] 32]) hS⟩
  clear HS hS
  have HS := HS_
  clear HS_
  go_wp2_with (first | ((with_reducible refine gate_dst (N := 9) rfl ?_); refine box_on ?hg (N := 9) ?hd (cs := #[.int .i64 0, .int .i64 0, .int .i64 0, .int .i64 0]) (t := 32) ?hr ?_; (case hd => rfl); (case hg => rfl); (case hr => first | (go_simp; done) | (go_simp; rfl)); intro g976 hg w977 hbox hb; have HS_ : Aside0 (Sep (fps []) w [blk g8 #[.int .i64 a1, .int .i64 a2, .int .i64 a3, .int .i64 a4] 32, blk g976 #[.int .i64 0, .int .i64 0, .int .i64 0, .int .i64 0] 32] w977) := ⟨HS.out.box hg hbox hb⟩; clear HS hg hbox hb; have HS := HS_; clear HS_; have hc979 : w977.cell? ⟨g976, 0, none⟩ = some (.int .i64 0) := blk_cellv (HS.out.at1) 0 rfl; have hz980 : w977.frozen? ⟨g976, 0, none⟩ = false := blk_fz (HS.out.at1) 0; have hc981 : w977.cell? ⟨g976, 1, none⟩ = some (.int .i64 0) := blk_cellv (HS.out.at1) 1 rfl; have hz982 : w977.frozen? ⟨g976, 1, none⟩ = false := blk_fz (HS.out.at1) 1; have hc983 : w977.cell? ⟨g976, 2, none⟩ = some (.int .i64 0) := blk_cellv (HS.out.at1) 2 rfl; have hz984 : w977.frozen? ⟨g976, 2, none⟩ = false := blk_fz (HS.out.at1) 2; have hc985 : w977.cell? ⟨g976, 3, none⟩ = some (.int .i64 0) := blk_cellv (HS.out.at1) 3 rfl; have hz986 : w977.frozen? ⟨g976, 3, none⟩ = false := blk_fz (HS.out.at1) 3) | ((with_reducible refine gate_store (t := 32) (p := 9) rfl ?_); refine store_event (w1 := (World.setCell (World.setCell (World.setCell (World.setCell w977 ⟨g976, 0, none⟩ (.int .i64 t973.1)) ⟨g976, 1, none⟩ (.int .i64 t973.2.1)) ⟨g976, 2, none⟩ (.int .i64 t973.2.2.1)) ⟨g976, 3, none⟩ (.int .i64 t973.2.2.2.1))) rfl (t := 32) (p := 9) rfl rfl ?hr ?_; (case hr => first | (go_simp; done) | (go_simp; rfl)); intro w987 hst; clear hc979 hz980 hc981 hz982 hc983 hz984 hc985 hz986; have hq0 : Sep (fps []) w [blk g8 #[.int .i64 a1, .int .i64 a2, .int .i64 a3, .int .i64 a4] 32, blk g976 #[.int .i64 t973.1, .int .i64 0, .int .i64 0, .int .i64 0] 32] (World.setCell w977 ⟨g976, 0, none⟩ (.int .i64 t973.1)) := (HS.out).set1 (l1 := [blk g8 #[.int .i64 a1, .int .i64 a2, .int .i64 a3, .int .i64 a4] 32]) (l2 := []) 0 (.int .i64 t973.1); have hq1 : Sep (fps []) w [blk g8 #[.int .i64 a1, .int .i64 a2, .int .i64 a3, .int .i64 a4] 32, blk g976 #[.int .i64 t973.1, .int .i64 t973.2.1, .int .i64 0, .int .i64 0] 32] (World.setCell (World.setCell w977 ⟨g976, 0, none⟩ (.int .i64 t973.1)) ⟨g976, 1, none⟩ (.int .i64 t973.2.1)) := (hq0).set1 (l1 := [blk g8 #[.int .i64 a1, .int .i64 a2, .int .i64 a3, .int .i64 a4] 32]) (l2 := []) 1 (.int .i64 t973.2.1); have hq2 : Sep (fps []) w [blk g8 #[.int .i64 a1, .int .i64 a2, .int .i64 a3, .int .i64 a4] 32, blk g976 #[.int .i64 t973.1, .int .i64 t973.2.1, .int .i64 t973.2.2.1, .int .i64 0] 32] (World.setCell (World.setCell (World.setCell w977 ⟨g976, 0, none⟩ (.int .i64 t973.1)) ⟨g976, 1, none⟩ (.int .i64 t973.2.1)) ⟨g976, 2, none⟩ (.int .i64 t973.2.2.1)) := (hq1).set1 (l1 := [blk g8 #[.int .i64 a1, .int .i64 a2, .int .i64 a3, .int .i64 a4] 32]) (l2 := []) 2 (.int .i64 t973.2.2.1); have hq3 : Sep (fps []) w [blk g8 #[.int .i64 a1, .int .i64 a2, .int .i64 a3, .int .i64 a4] 32, blk g976 #[.int .i64 t973.1, .int .i64 t973.2.1, .int .i64 t973.2.2.1, .int .i64 t973.2.2.2.1] 32] (World.setCell (World.setCell (World.setCell (World.setCell w977 ⟨g976, 0, none⟩ (.int .i64 t973.1)) ⟨g976, 1, none⟩ (.int .i64 t973.2.1)) ⟨g976, 2, none⟩ (.int .i64 t973.2.2.1)) ⟨g976, 3, none⟩ (.int .i64 t973.2.2.2.1)) := (hq2).set1 (l1 := [blk g8 #[.int .i64 a1, .int .i64 a2, .int .i64 a3, .int .i64 a4] 32]) (l2 := []) 3 (.int .i64 t973.2.2.2.1); have HS_ : Aside0 (Sep (fps []) w [blk g8 #[.int .i64 a1, .int .i64 a2, .int .i64 a3, .int .i64 a4] 32, blk g976 #[.int .i64 t973.1, .int .i64 t973.2.1, .int .i64 t973.2.2.1, .int .i64 t973.2.2.2.1] 32] w987) := ⟨by rw [hst]; exact hq3⟩; clear hq0 hq1 hq2 hq3; clear HS hst; have HS := HS_; clear HS_; have hc988 : w987.cell? ⟨g8, 0, none⟩ = some (.int .i64 a1) := blk_cellv (HS.out.at0) 0 rfl; have hc989 : w987.cell? ⟨g8, 1, none⟩ = some (.int .i64 a2) := blk_cellv (HS.out.at0) 1 rfl; have hc990 : w987.cell? ⟨g8, 2, none⟩ = some (.int .i64 a3) := blk_cellv (HS.out.at0) 2 rfl; have hc991 : w987.cell? ⟨g8, 3, none⟩ = some (.int .i64 a4) := blk_cellv (HS.out.at0) 3 rfl))
  clear hc988 hc989 hc990 hc991
  obtain ⟨t992, HA993, H⟩ := bind_some H
  refine (tune_LeastK.calls _ a1 a2 a3 a4 a5 t992 _ ⟨HS.out.begin (l := []) (rest := [blk g8 #[.int .i64 a1, .int .i64 a2, .int .i64 a3, .int .i64 a4] 32, blk g976 #[.int .i64 t973.1, .int .i64 t973.2.1, .int .i64 t973.2.2.1, .int .i64 t973.2.2.2.1] 32])⟩ HA993).mono ?_
  rintro e_ w994 ⟨rfl, hS⟩
  have HS_ : Aside0 (Sep (fps []) w [blk g8 #[.int .i64 a1, .int .i64 a2, .int .i64 a3, .int .i64 a4] 32, blk g976 #[.int .i64 t973.1, .int .i64 t973.2.1, .int .i64 t973.2.2.1, .int .i64 t973.2.2.2.1] 32] w994) := ⟨HS.out.call (l := []) (rest := [blk g8 #[.int .i64 a1, .int .i64 a2, .int .i64 a3, .int .i64 a4] 32, blk g976 #[.int .i64 t973.1, .int .i64 t973.2.1, .int .i64 t973.2.2.1, .int .i64 t973.2.2.2.1] 32]) hS⟩
  clear HS hS
  have HS := HS_
  clear HS_
  have hc995 : w994.cell? ⟨g8, 0, none⟩ = some (.int .i64 a1) := blk_cellv (HS.out.at0) 0 rfl
  have hc996 : w994.cell? ⟨g8, 1, none⟩ = some (.int .i64 a2) := blk_cellv (HS.out.at0) 1 rfl
  have hc997 : w994.cell? ⟨g8, 2, none⟩ = some (.int .i64 a3) := blk_cellv (HS.out.at0) 2 rfl
  have hc998 : w994.cell? ⟨g8, 3, none⟩ = some (.int .i64 a4) := blk_cellv (HS.out.at0) 3 rfl
  go_wp2_with fail
  clear hc995 hc996 hc997 hc998
  obtain ⟨t1065, HA1066, H⟩ := bind_some H
  refine (tune_MostK.calls _ a1 a2 a3 a4 a6 t1065 _ ⟨HS.out.begin (l := []) (rest := [blk g8 #[.int .i64 a1, .int .i64 a2, .int .i64 a3, .int .i64 a4] 32, blk g976 #[.int .i64 t973.1, .int .i64 t973.2.1, .int .i64 t973.2.2.1, .int .i64 t973.2.2.2.1] 32])⟩ HA1066).mono ?_
  rintro e_ w1067 ⟨rfl, hS⟩
  have HS_ : Aside0 (Sep (fps []) w [blk g8 #[.int .i64 a1, .int .i64 a2, .int .i64 a3, .int .i64 a4] 32, blk g976 #[.int .i64 t973.1, .int .i64 t973.2.1, .int .i64 t973.2.2.1, .int .i64 t973.2.2.2.1] 32] w1067) := ⟨HS.out.call (l := []) (rest := [blk g8 #[.int .i64 a1, .int .i64 a2, .int .i64 a3, .int .i64 a4] 32, blk g976 #[.int .i64 t973.1, .int .i64 t973.2.1, .int .i64 t973.2.2.1, .int .i64 t973.2.2.2.1] 32]) hS⟩
  clear HS hS
  have HS := HS_
  clear HS_
  by_cases c1068 : t992.2 = true
  · have H := if_yes c1068 H
    have c1068b0 : t992.2 = true := c1068
    clear c1068
    by_cases c1069 : t1065.2 = true
    · have H := if_yes c1069 H
      have c1069b0 : t1065.2 = true := c1069
      clear c1069
      by_cases c1070 : t973.2.2.2.2 = true
      · have H := if_yes c1070 H
        have c1070b0 : t973.2.2.2.2 = true := c1070
        clear c1070
        by_cases c1071 : t992.1 ≤ t1065.1
        · have H := if_yes c1071 H
          have c1071b0 : decide (t992.1 ≤ t1065.1) = true := decide_eq_true c1071
          clear c1071
          by_cases c1073 : t973.2.2.2.1 = t992.1
          · have H := if_yes c1073 H
            have c1073b0 : (t973.2.2.2.1 == t992.1) = true := beq_iff_eq.mpr c1073
            have c1073b1 : (t973.2.2.2.1 != t992.1) = false := bne_eq_false_iff_eq.mpr c1073
            clear c1073
            by_cases c1076 : t973.1 = a1
            · have H := if_yes c1076 H
              have c1076b0 : (t973.1 == a1) = true := beq_iff_eq.mpr c1076
              have c1076b1 : (t973.1 != a1) = false := bne_eq_false_iff_eq.mpr c1076
              clear c1076
              by_cases c1079 : t973.2.1 = a2
              · have H := if_yes c1079 H
                have c1079b0 : (t973.2.1 == a2) = true := beq_iff_eq.mpr c1079
                have c1079b1 : (t973.2.1 != a2) = false := bne_eq_false_iff_eq.mpr c1079
                clear c1079
                by_cases c1082 : t973.2.2.1 = a3
                · have H := if_yes c1082 H
                  have c1082b0 : (t973.2.2.1 == a3) = true := beq_iff_eq.mpr c1082
                  have c1082b1 : (t973.2.2.1 != a3) = false := bne_eq_false_iff_eq.mpr c1082
                  clear c1082
                  have hc1072 : w1067.cell? ⟨g976, 3, none⟩ = some (.int .i64 t973.2.2.2.1) := blk_cellv (HS.out.at1) 3 rfl
                  have hc1074 : w1067.cell? ⟨g976, 0, none⟩ = some (.int .i64 t973.1) := blk_cellv (HS.out.at1) 0 rfl
                  have hc1075 : w1067.cell? ⟨g8, 0, none⟩ = some (.int .i64 a1) := blk_cellv (HS.out.at0) 0 rfl
                  have hc1077 : w1067.cell? ⟨g976, 1, none⟩ = some (.int .i64 t973.2.1) := blk_cellv (HS.out.at1) 1 rfl
                  have hc1078 : w1067.cell? ⟨g8, 1, none⟩ = some (.int .i64 a2) := blk_cellv (HS.out.at0) 1 rfl
                  have hc1080 : w1067.cell? ⟨g976, 2, none⟩ = some (.int .i64 t973.2.2.1) := blk_cellv (HS.out.at1) 2 rfl
                  have hc1081 : w1067.cell? ⟨g8, 2, none⟩ = some (.int .i64 a3) := blk_cellv (HS.out.at0) 2 rfl
                  go_wp2_with fail
                  clear hc1072 hc1074 hc1075 hc1077 hc1078 hc1080 hc1081
                  obtain ⟨t1083, HA1084, H⟩ := bind_some H
                  refine (tune_Fits.calls _ t973.1 t973.2.1 t973.2.2.1 t973.2.2.2.1 a5 a6 t1083 _ ⟨HS.out.begin (l := []) (rest := [blk g8 #[.int .i64 a1, .int .i64 a2, .int .i64 a3, .int .i64 a4] 32, blk g976 #[.int .i64 t973.1, .int .i64 t973.2.1, .int .i64 t973.2.2.1, .int .i64 t973.2.2.2.1] 32])⟩ HA1084).mono ?_
                  rintro e_ w1085 ⟨rfl, hS⟩
                  have HS_ : Aside0 (Sep (fps []) w [blk g8 #[.int .i64 a1, .int .i64 a2, .int .i64 a3, .int .i64 a4] 32, blk g976 #[.int .i64 t973.1, .int .i64 t973.2.1, .int .i64 t973.2.2.1, .int .i64 t973.2.2.2.1] 32] w1085) := ⟨HS.out.call (l := []) (rest := [blk g8 #[.int .i64 a1, .int .i64 a2, .int .i64 a3, .int .i64 a4] 32, blk g976 #[.int .i64 t973.1, .int .i64 t973.2.1, .int .i64 t973.2.2.1, .int .i64 t973.2.2.2.1] 32]) hS⟩
                  clear HS hS
                  have HS := HS_
                  clear HS_
                  by_cases c1086 : t1083 = true
                  · have H := if_yes c1086 H
                    have c1086b0 : t1083 = true := c1086
                    clear c1086
                    have hc1087 : w1085.cell? ⟨g8, 0, none⟩ = some (.int .i64 a1) := blk_cellv (HS.out.at0) 0 rfl
                    have hc1088 : w1085.cell? ⟨g8, 1, none⟩ = some (.int .i64 a2) := blk_cellv (HS.out.at0) 1 rfl
                    have hc1089 : w1085.cell? ⟨g8, 2, none⟩ = some (.int .i64 a3) := blk_cellv (HS.out.at0) 2 rfl
                    have hc1090 : w1085.cell? ⟨g8, 3, none⟩ = some (.int .i64 a4) := blk_cellv (HS.out.at0) 3 rfl
                    go_wp2_with (first | ((with_reducible refine gate_dst (N := 15) rfl ?_); refine box_on ?hg (N := 15) ?hd (cs := #[.int .i64 0, .int .i64 0, .int .i64 0, .int .i64 0]) (t := 32) ?hr ?_; (case hd => rfl); (case hg => rfl); (case hr => first | (go_simp; done) | (go_simp; rfl)); intro g1091 hg w1092 hbox hb; clear hc1087 hc1088 hc1089 hc1090; have HS_ : Aside0 (Sep (fps []) w [blk g8 #[.int .i64 a1, .int .i64 a2, .int .i64 a3, .int .i64 a4] 32, blk g976 #[.int .i64 t973.1, .int .i64 t973.2.1, .int .i64 t973.2.2.1, .int .i64 t973.2.2.2.1] 32, blk g1091 #[.int .i64 0, .int .i64 0, .int .i64 0, .int .i64 0] 32] w1092) := ⟨HS.out.box hg hbox hb⟩; clear HS hg hbox hb; have HS := HS_; clear HS_; have hc1094 : w1092.cell? ⟨g1091, 0, none⟩ = some (.int .i64 0) := blk_cellv (HS.out.at2) 0 rfl; have hz1095 : w1092.frozen? ⟨g1091, 0, none⟩ = false := blk_fz (HS.out.at2) 0; have hc1096 : w1092.cell? ⟨g1091, 1, none⟩ = some (.int .i64 0) := blk_cellv (HS.out.at2) 1 rfl; have hz1097 : w1092.frozen? ⟨g1091, 1, none⟩ = false := blk_fz (HS.out.at2) 1; have hc1098 : w1092.cell? ⟨g1091, 2, none⟩ = some (.int .i64 0) := blk_cellv (HS.out.at2) 2 rfl; have hz1099 : w1092.frozen? ⟨g1091, 2, none⟩ = false := blk_fz (HS.out.at2) 2; have hc1100 : w1092.cell? ⟨g1091, 3, none⟩ = some (.int .i64 0) := blk_cellv (HS.out.at2) 3 rfl; have hz1101 : w1092.frozen? ⟨g1091, 3, none⟩ = false := blk_fz (HS.out.at2) 3) | ((with_reducible refine gate_store (t := 32) (p := 15) rfl ?_); refine store_event (w1 := (World.setCell (World.setCell (World.setCell (World.setCell w1092 ⟨g1091, 0, none⟩ (.int .i64 a1)) ⟨g1091, 1, none⟩ (.int .i64 a2)) ⟨g1091, 2, none⟩ (.int .i64 a3)) ⟨g1091, 3, none⟩ (.int .i64 a4))) rfl (t := 32) (p := 15) rfl rfl ?hr ?_; (case hr => first | (go_simp; done) | (go_simp; rfl)); intro w1102 hst; clear hc1094 hz1095 hc1096 hz1097 hc1098 hz1099 hc1100 hz1101; have hq0 : Sep (fps []) w [blk g8 #[.int .i64 a1, .int .i64 a2, .int .i64 a3, .int .i64 a4] 32, blk g976 #[.int .i64 t973.1, .int .i64 t973.2.1, .int .i64 t973.2.2.1, .int .i64 t973.2.2.2.1] 32, blk g1091 #[.int .i64 a1, .int .i64 0, .int .i64 0, .int .i64 0] 32] (World.setCell w1092 ⟨g1091, 0, none⟩ (.int .i64 a1)) := (HS.out).set1 (l1 := [blk g8 #[.int .i64 a1, .int .i64 a2, .int .i64 a3, .int .i64 a4] 32, blk g976 #[.int .i64 t973.1, .int .i64 t973.2.1, .int .i64 t973.2.2.1, .int .i64 t973.2.2.2.1] 32]) (l2 := []) 0 (.int .i64 a1); have hq1 : Sep (fps []) w [blk g8 #[.int .i64 a1, .int .i64 a2, .int .i64 a3, .int .i64 a4] 32, blk g976 #[.int .i64 t973.1, .int .i64 t973.2.1, .int .i64 t973.2.2.1, .int .i64 t973.2.2.2.1] 32, blk g1091 #[.int .i64 a1, .int .i64 a2, .int .i64 0, .int .i64 0] 32] (World.setCell (World.setCell w1092 ⟨g1091, 0, none⟩ (.int .i64 a1)) ⟨g1091, 1, none⟩ (.int .i64 a2)) := (hq0).set1 (l1 := [blk g8 #[.int .i64 a1, .int .i64 a2, .int .i64 a3, .int .i64 a4] 32, blk g976 #[.int .i64 t973.1, .int .i64 t973.2.1, .int .i64 t973.2.2.1, .int .i64 t973.2.2.2.1] 32]) (l2 := []) 1 (.int .i64 a2); have hq2 : Sep (fps []) w [blk g8 #[.int .i64 a1, .int .i64 a2, .int .i64 a3, .int .i64 a4] 32, blk g976 #[.int .i64 t973.1, .int .i64 t973.2.1, .int .i64 t973.2.2.1, .int .i64 t973.2.2.2.1] 32, blk g1091 #[.int .i64 a1, .int .i64 a2, .int .i64 a3, .int .i64 0] 32] (World.setCell (World.setCell (World.setCell w1092 ⟨g1091, 0, none⟩ (.int .i64 a1)) ⟨g1091, 1, none⟩ (.int .i64 a2)) ⟨g1091, 2, none⟩ (.int .i64 a3)) := (hq1).set1 (l1 := [blk g8 #[.int .i64 a1, .int .i64 a2, .int .i64 a3, .int .i64 a4] 32, blk g976 #[.int .i64 t973.1, .int .i64 t973.2.1, .int .i64 t973.2.2.1, .int .i64 t973.2.2.2.1] 32]) (l2 := []) 2 (.int .i64 a3); have hq3 : Sep (fps []) w [blk g8 #[.int .i64 a1, .int .i64 a2, .int .i64 a3, .int .i64 a4] 32, blk g976 #[.int .i64 t973.1, .int .i64 t973.2.1, .int .i64 t973.2.2.1, .int .i64 t973.2.2.2.1] 32, blk g1091 #[.int .i64 a1, .int .i64 a2, .int .i64 a3, .int .i64 a4] 32] (World.setCell (World.setCell (World.setCell (World.setCell w1092 ⟨g1091, 0, none⟩ (.int .i64 a1)) ⟨g1091, 1, none⟩ (.int .i64 a2)) ⟨g1091, 2, none⟩ (.int .i64 a3)) ⟨g1091, 3, none⟩ (.int .i64 a4)) := (hq2).set1 (l1 := [blk g8 #[.int .i64 a1, .int .i64 a2, .int .i64 a3, .int .i64 a4] 32, blk g976 #[.int .i64 t973.1, .int .i64 t973.2.1, .int .i64 t973.2.2.1, .int .i64 t973.2.2.2.1] 32]) (l2 := []) 3 (.int .i64 a4); have HS_ : Aside0 (Sep (fps []) w [blk g8 #[.int .i64 a1, .int .i64 a2, .int .i64 a3, .int .i64 a4] 32, blk g976 #[.int .i64 t973.1, .int .i64 t973.2.1, .int .i64 t973.2.2.1, .int .i64 t973.2.2.2.1] 32, blk g1091 #[.int .i64 a1, .int .i64 a2, .int .i64 a3, .int .i64 a4] 32] w1102) := ⟨by rw [hst]; exact hq3⟩; clear hq0 hq1 hq2 hq3; clear HS hst; have HS := HS_; clear HS_; have hc1103 : w1102.cell? ⟨g1091, 3, none⟩ = some (.int .i64 a4) := blk_cellv (HS.out.at2) 3 rfl; have hz1104 : w1102.frozen? ⟨g1091, 3, none⟩ = false := blk_fz (HS.out.at2) 3) | ((with_reducible refine gate_store (t := 3) (p := 92) rfl ?_); refine store_event (w1 := (World.setCell w1102 ⟨g1091, 3, none⟩ (.int .i64 a7))) rfl (t := 3) (p := 92) rfl rfl ?hr ?_; (case hr => first | (go_simp; done) | (go_simp; rfl)); intro w1105 hst; clear hc1103 hz1104; have hq0 : Sep (fps []) w [blk g8 #[.int .i64 a1, .int .i64 a2, .int .i64 a3, .int .i64 a4] 32, blk g976 #[.int .i64 t973.1, .int .i64 t973.2.1, .int .i64 t973.2.2.1, .int .i64 t973.2.2.2.1] 32, blk g1091 #[.int .i64 a1, .int .i64 a2, .int .i64 a3, .int .i64 a7] 32] (World.setCell w1102 ⟨g1091, 3, none⟩ (.int .i64 a7)) := (HS.out).set1 (l1 := [blk g8 #[.int .i64 a1, .int .i64 a2, .int .i64 a3, .int .i64 a4] 32, blk g976 #[.int .i64 t973.1, .int .i64 t973.2.1, .int .i64 t973.2.2.1, .int .i64 t973.2.2.2.1] 32]) (l2 := []) 3 (.int .i64 a7); have HS_ : Aside0 (Sep (fps []) w [blk g8 #[.int .i64 a1, .int .i64 a2, .int .i64 a3, .int .i64 a4] 32, blk g976 #[.int .i64 t973.1, .int .i64 t973.2.1, .int .i64 t973.2.2.1, .int .i64 t973.2.2.2.1] 32, blk g1091 #[.int .i64 a1, .int .i64 a2, .int .i64 a3, .int .i64 a7] 32] w1105) := ⟨by rw [hst]; exact hq0⟩; clear hq0; clear HS hst; have HS := HS_; clear HS_))
                    obtain ⟨t1137, HA1138, H⟩ := bind_some H
                    refine (quitrentlaw31_begun.calls _ t1137 _ ⟨HS.out.begin (l := []) (rest := [blk g8 #[.int .i64 a1, .int .i64 a2, .int .i64 a3, .int .i64 a4] 32, blk g976 #[.int .i64 t973.1, .int .i64 t973.2.1, .int .i64 t973.2.2.1, .int .i64 t973.2.2.2.1] 32, blk g1091 #[.int .i64 a1, .int .i64 a2, .int .i64 a3, .int .i64 a7] 32])⟩ HA1138).mono ?_
                    rintro e_ w1139 ⟨rfl, hS⟩
                    have HS_ : Aside0 (Sep (fps []) w [blk g8 #[.int .i64 a1, .int .i64 a2, .int .i64 a3, .int .i64 a4] 32, blk g976 #[.int .i64 t973.1, .int .i64 t973.2.1, .int .i64 t973.2.2.1, .int .i64 t973.2.2.2.1] 32, blk g1091 #[.int .i64 a1, .int .i64 a2, .int .i64 a3, .int .i64 a7] 32] w1139) := ⟨HS.out.call (l := []) (rest := [blk g8 #[.int .i64 a1, .int .i64 a2, .int .i64 a3, .int .i64 a4] 32, blk g976 #[.int .i64 t973.1, .int .i64 t973.2.1, .int .i64 t973.2.2.1, .int .i64 t973.2.2.2.1] 32, blk g1091 #[.int .i64 a1, .int .i64 a2, .int .i64 a3, .int .i64 a7] 32]) hS⟩
                    clear HS hS
                    have HS := HS_
                    clear HS_
                    by_cases c1140 : t1137 = true
                    · have H := if_yes c1140 H
                      have c1140b0 : t1137 = true := c1140
                      clear c1140
                      have hc1141 : w1139.cell? ⟨g1091, 0, none⟩ = some (.int .i64 a1) := blk_cellv (HS.out.at2) 0 rfl
                      have hc1142 : w1139.cell? ⟨g1091, 1, none⟩ = some (.int .i64 a2) := blk_cellv (HS.out.at2) 1 rfl
                      have hc1143 : w1139.cell? ⟨g1091, 2, none⟩ = some (.int .i64 a3) := blk_cellv (HS.out.at2) 2 rfl
                      have hc1144 : w1139.cell? ⟨g1091, 3, none⟩ = some (.int .i64 a7) := blk_cellv (HS.out.at2) 3 rfl
                      go_wp2_with fail
                      clear hc1141 hc1142 hc1143 hc1144
                      obtain ⟨t1145, HA1146, H⟩ := bind_some H
                      refine (tune_Fits.calls _ a1 a2 a3 a7 a5 a6 t1145 _ ⟨HS.out.begin (l := []) (rest := [blk g8 #[.int .i64 a1, .int .i64 a2, .int .i64 a3, .int .i64 a4] 32, blk g976 #[.int .i64 t973.1, .int .i64 t973.2.1, .int .i64 t973.2.2.1, .int .i64 t973.2.2.2.1] 32, blk g1091 #[.int .i64 a1, .int .i64 a2, .int .i64 a3, .int .i64 a7] 32])⟩ HA1146).mono ?_
                      rintro e_ w1147 ⟨rfl, hS⟩
                      have HS_ : Aside0 (Sep (fps []) w [blk g8 #[.int .i64 a1, .int .i64 a2, .int .i64 a3, .int .i64 a4] 32, blk g976 #[.int .i64 t973.1, .int .i64 t973.2.1, .int .i64 t973.2.2.1, .int .i64 t973.2.2.2.1] 32, blk g1091 #[.int .i64 a1, .int .i64 a2, .int .i64 a3, .int .i64 a7] 32] w1147) := ⟨HS.out.call (l := []) (rest := [blk g8 #[.int .i64 a1, .int .i64 a2, .int .i64 a3, .int .i64 a4] 32, blk g976 #[.int .i64 t973.1, .int .i64 t973.2.1, .int .i64 t973.2.2.1, .int .i64 t973.2.2.2.1] 32, blk g1091 #[.int .i64 a1, .int .i64 a2, .int .i64 a3, .int .i64 a7] 32]) hS⟩
                      clear HS hS
                      have HS := HS_
                      clear HS_
                      by_cases c1148 : a7 ≥ t992.1
                      · have H := if_yes c1148 H
                        have c1148b0 : decide (t992.1 ≤ a7) = true := decide_eq_true c1148
                        clear c1148
                        by_cases c1149 : t1145 = true
                        · have H := if_yes c1149 H
                          have c1149b0 : t1145 = true := c1149
                          clear c1149
                          by_cases c1150 : a7 ≤ t1065.1
                          · have H := if_yes c1150 H
                            have c1150b0 : decide (a7 ≤ t1065.1) = true := decide_eq_true c1150
                            clear c1150
                            go_wp2_with fail
                            go_ret
                            rw [← some_eq H]
                            exact ⟨(by first | rfl | (simp [IntKind.wrap_u32]; done)), (HS.out).keep (l := []) (rest := [blk g8 #[.int .i64 a1, .int .i64 a2, .int .i64 a3, .int .i64 a4] 32, blk g976 #[.int .i64 t973.1, .int .i64 t973.2.1, .int .i64 t973.2.2.1, .int .i64 t973.2.2.2.1] 32, blk g1091 #[.int .i64 a1, .int .i64 a2, .int .i64 a3, .int .i64 a7] 32])⟩
                          · have H := if_no c1150 H
                            have c1150b0 : decide (a7 ≤ t1065.1) = false := decide_eq_false c1150
                            clear c1150
                            go_wp2_with fail
                            go_ret
                            rw [← some_eq H]
                            exact ⟨(by first | rfl | (simp [IntKind.wrap_u32]; done)), (HS.out).keep (l := []) (rest := [blk g8 #[.int .i64 a1, .int .i64 a2, .int .i64 a3, .int .i64 a4] 32, blk g976 #[.int .i64 t973.1, .int .i64 t973.2.1, .int .i64 t973.2.2.1, .int .i64 t973.2.2.2.1] 32, blk g1091 #[.int .i64 a1, .int .i64 a2, .int .i64 a3, .int .i64 a7] 32])⟩
                        · have H := if_no c1149 H
                          have c1149b0 : t1145 = false := by simpa using c1149
                          clear c1149
                          by_cases c1151 : a7 ≤ t1065.1
                          · have H := if_yes c1151 H
                            have c1151b0 : decide (a7 ≤ t1065.1) = true := decide_eq_true c1151
                            clear c1151
                            go_wp2_with fail
                            go_ret
                            rw [← some_eq H]
                            exact ⟨(by first | rfl | (simp [IntKind.wrap_u32]; done)), (HS.out).keep (l := []) (rest := [blk g8 #[.int .i64 a1, .int .i64 a2, .int .i64 a3, .int .i64 a4] 32, blk g976 #[.int .i64 t973.1, .int .i64 t973.2.1, .int .i64 t973.2.2.1, .int .i64 t973.2.2.2.1] 32, blk g1091 #[.int .i64 a1, .int .i64 a2, .int .i64 a3, .int .i64 a7] 32])⟩
                          · have H := if_no c1151 H
                            have c1151b0 : decide (a7 ≤ t1065.1) = false := decide_eq_false c1151
                            clear c1151
                            go_wp2_with fail
                            go_ret
                            rw [← some_eq H]
                            exact ⟨(by first | rfl | (simp [IntKind.wrap_u32]; done)), (HS.out).keep (l := []) (rest := [blk g8 #[.int .i64 a1, .int .i64 a2, .int .i64 a3, .int .i64 a4] 32, blk g976 #[.int .i64 t973.1, .int .i64 t973.2.1, .int .i64 t973.2.2.1, .int .i64 t973.2.2.2.1] 32, blk g1091 #[.int .i64 a1, .int .i64 a2, .int .i64 a3, .int .i64 a7] 32])⟩
                      · have H := if_no c1148 H
                        have c1148b0 : decide (t992.1 ≤ a7) = false := decide_eq_false c1148
                        clear c1148
                        by_cases c1152 : t1145 = true
                        · have H := if_yes c1152 H
                          have c1152b0 : t1145 = true := c1152
                          clear c1152
                          go_wp2_with fail
                          go_ret
                          rw [← some_eq H]
                          exact ⟨(by first | rfl | (simp [IntKind.wrap_u32]; done)), (HS.out).keep (l := []) (rest := [blk g8 #[.int .i64 a1, .int .i64 a2, .int .i64 a3, .int .i64 a4] 32, blk g976 #[.int .i64 t973.1, .int .i64 t973.2.1, .int .i64 t973.2.2.1, .int .i64 t973.2.2.2.1] 32, blk g1091 #[.int .i64 a1, .int .i64 a2, .int .i64 a3, .int .i64 a7] 32])⟩
                        · have H := if_no c1152 H
                          have c1152b0 : t1145 = false := by simpa using c1152
                          clear c1152
                          go_wp2_with fail
                          go_ret
                          rw [← some_eq H]
                          exact ⟨(by first | rfl | (simp [IntKind.wrap_u32]; done)), (HS.out).keep (l := []) (rest := [blk g8 #[.int .i64 a1, .int .i64 a2, .int .i64 a3, .int .i64 a4] 32, blk g976 #[.int .i64 t973.1, .int .i64 t973.2.1, .int .i64 t973.2.2.1, .int .i64 t973.2.2.2.1] 32, blk g1091 #[.int .i64 a1, .int .i64 a2, .int .i64 a3, .int .i64 a7] 32])⟩
                    · have H := if_no c1140 H
                      have c1140b0 : t1137 = false := by simpa using c1140
                      clear c1140
                      go_wp2_with fail
                      go_ret
                      rw [← some_eq H]
                      exact ⟨(by first | rfl | (simp [IntKind.wrap_u32]; done)), (HS.out).keep (l := []) (rest := [blk g8 #[.int .i64 a1, .int .i64 a2, .int .i64 a3, .int .i64 a4] 32, blk g976 #[.int .i64 t973.1, .int .i64 t973.2.1, .int .i64 t973.2.2.1, .int .i64 t973.2.2.2.1] 32, blk g1091 #[.int .i64 a1, .int .i64 a2, .int .i64 a3, .int .i64 a7] 32])⟩
                  · have H := if_no c1086 H
                    have c1086b0 : t1083 = false := by simpa using c1086
                    clear c1086
                    go_wp2_with fail
                    go_ret
                    rw [← some_eq H]
                    exact ⟨(by first | rfl | (simp [IntKind.wrap_u32]; done)), (HS.out).keep (l := []) (rest := [blk g8 #[.int .i64 a1, .int .i64 a2, .int .i64 a3, .int .i64 a4] 32, blk g976 #[.int .i64 t973.1, .int .i64 t973.2.1, .int .i64 t973.2.2.1, .int .i64 t973.2.2.2.1] 32])⟩
                · have H := if_no c1082 H
                  have c1082b0 : (t973.2.2.1 == a3) = false := beq_eq_false_iff_ne.mpr c1082
                  have c1082b1 : (t973.2.2.1 != a3) = true := bne_iff_ne.mpr c1082
                  clear c1082
                  have hc1072 : w1067.cell? ⟨g976, 3, none⟩ = some (.int .i64 t973.2.2.2.1) := blk_cellv (HS.out.at1) 3 rfl
                  have hc1074 : w1067.cell? ⟨g976, 0, none⟩ = some (.int .i64 t973.1) := blk_cellv (HS.out.at1) 0 rfl
                  have hc1075 : w1067.cell? ⟨g8, 0, none⟩ = some (.int .i64 a1) := blk_cellv (HS.out.at0) 0 rfl
                  have hc1077 : w1067.cell? ⟨g976, 1, none⟩ = some (.int .i64 t973.2.1) := blk_cellv (HS.out.at1) 1 rfl
                  have hc1078 : w1067.cell? ⟨g8, 1, none⟩ = some (.int .i64 a2) := blk_cellv (HS.out.at0) 1 rfl
                  have hc1080 : w1067.cell? ⟨g976, 2, none⟩ = some (.int .i64 t973.2.2.1) := blk_cellv (HS.out.at1) 2 rfl
                  have hc1081 : w1067.cell? ⟨g8, 2, none⟩ = some (.int .i64 a3) := blk_cellv (HS.out.at0) 2 rfl
                  go_wp2_with fail
                  clear hc1072 hc1074 hc1075 hc1077 hc1078 hc1080 hc1081
                  go_ret
                  rw [← some_eq H]
                  exact ⟨(by first | rfl | (simp [IntKind.wrap_u32]; done)), (HS.out).keep (l := []) (rest := [blk g8 #[.int .i64 a1, .int .i64 a2, .int .i64 a3, .int .i64 a4] 32, blk g976 #[.int .i64 t973.1, .int .i64 t973.2.1, .int .i64 t973.2.2.1, .int .i64 t973.2.2.2.1] 32])⟩
              · have H := if_no c1079 H
                have c1079b0 : (t973.2.1 == a2) = false := beq_eq_false_iff_ne.mpr c1079
                have c1079b1 : (t973.2.1 != a2) = true := bne_iff_ne.mpr c1079
                clear c1079
                have hc1072 : w1067.cell? ⟨g976, 3, none⟩ = some (.int .i64 t973.2.2.2.1) := blk_cellv (HS.out.at1) 3 rfl
                have hc1074 : w1067.cell? ⟨g976, 0, none⟩ = some (.int .i64 t973.1) := blk_cellv (HS.out.at1) 0 rfl
                have hc1075 : w1067.cell? ⟨g8, 0, none⟩ = some (.int .i64 a1) := blk_cellv (HS.out.at0) 0 rfl
                have hc1077 : w1067.cell? ⟨g976, 1, none⟩ = some (.int .i64 t973.2.1) := blk_cellv (HS.out.at1) 1 rfl
                have hc1078 : w1067.cell? ⟨g8, 1, none⟩ = some (.int .i64 a2) := blk_cellv (HS.out.at0) 1 rfl
                go_wp2_with fail
                clear hc1072 hc1074 hc1075 hc1077 hc1078
                go_ret
                rw [← some_eq H]
                exact ⟨(by first | rfl | (simp [IntKind.wrap_u32]; done)), (HS.out).keep (l := []) (rest := [blk g8 #[.int .i64 a1, .int .i64 a2, .int .i64 a3, .int .i64 a4] 32, blk g976 #[.int .i64 t973.1, .int .i64 t973.2.1, .int .i64 t973.2.2.1, .int .i64 t973.2.2.2.1] 32])⟩
            · have H := if_no c1076 H
              have c1076b0 : (t973.1 == a1) = false := beq_eq_false_iff_ne.mpr c1076
              have c1076b1 : (t973.1 != a1) = true := bne_iff_ne.mpr c1076
              clear c1076
              have hc1072 : w1067.cell? ⟨g976, 3, none⟩ = some (.int .i64 t973.2.2.2.1) := blk_cellv (HS.out.at1) 3 rfl
              have hc1074 : w1067.cell? ⟨g976, 0, none⟩ = some (.int .i64 t973.1) := blk_cellv (HS.out.at1) 0 rfl
              have hc1075 : w1067.cell? ⟨g8, 0, none⟩ = some (.int .i64 a1) := blk_cellv (HS.out.at0) 0 rfl
              go_wp2_with fail
              clear hc1072 hc1074 hc1075
              go_ret
              rw [← some_eq H]
              exact ⟨(by first | rfl | (simp [IntKind.wrap_u32]; done)), (HS.out).keep (l := []) (rest := [blk g8 #[.int .i64 a1, .int .i64 a2, .int .i64 a3, .int .i64 a4] 32, blk g976 #[.int .i64 t973.1, .int .i64 t973.2.1, .int .i64 t973.2.2.1, .int .i64 t973.2.2.2.1] 32])⟩
          · have H := if_no c1073 H
            have c1073b0 : (t973.2.2.2.1 == t992.1) = false := beq_eq_false_iff_ne.mpr c1073
            have c1073b1 : (t973.2.2.2.1 != t992.1) = true := bne_iff_ne.mpr c1073
            clear c1073
            have hc1072 : w1067.cell? ⟨g976, 3, none⟩ = some (.int .i64 t973.2.2.2.1) := blk_cellv (HS.out.at1) 3 rfl
            go_wp2_with fail
            clear hc1072
            go_ret
            rw [← some_eq H]
            exact ⟨(by first | rfl | (simp [IntKind.wrap_u32]; done)), (HS.out).keep (l := []) (rest := [blk g8 #[.int .i64 a1, .int .i64 a2, .int .i64 a3, .int .i64 a4] 32, blk g976 #[.int .i64 t973.1, .int .i64 t973.2.1, .int .i64 t973.2.2.1, .int .i64 t973.2.2.2.1] 32])⟩
        · have H := if_no c1071 H
          have c1071b0 : decide (t992.1 ≤ t1065.1) = false := decide_eq_false c1071
          clear c1071
          go_wp2_with fail
          go_ret
          rw [← some_eq H]
          exact ⟨(by first | rfl | (simp [IntKind.wrap_u32]; done)), (HS.out).keep (l := []) (rest := [blk g8 #[.int .i64 a1, .int .i64 a2, .int .i64 a3, .int .i64 a4] 32, blk g976 #[.int .i64 t973.1, .int .i64 t973.2.1, .int .i64 t973.2.2.1, .int .i64 t973.2.2.2.1] 32])⟩
      · have H := if_no c1070 H
        have c1070b0 : t973.2.2.2.2 = false := by simpa using c1070
        clear c1070
        by_cases c1153 : t992.1 ≤ t1065.1
        · have H := if_yes c1153 H
          have c1153b0 : decide (t992.1 ≤ t1065.1) = true := decide_eq_true c1153
          clear c1153
          go_wp2_with fail
          go_ret
          rw [← some_eq H]
          exact ⟨(by first | rfl | (simp [IntKind.wrap_u32]; done)), (HS.out).keep (l := []) (rest := [blk g8 #[.int .i64 a1, .int .i64 a2, .int .i64 a3, .int .i64 a4] 32, blk g976 #[.int .i64 t973.1, .int .i64 t973.2.1, .int .i64 t973.2.2.1, .int .i64 t973.2.2.2.1] 32])⟩
        · have H := if_no c1153 H
          have c1153b0 : decide (t992.1 ≤ t1065.1) = false := decide_eq_false c1153
          clear c1153
          by_cases c1158 : t973.1 = 0
          · have H := if_yes c1158 H
            have c1158b0 : (t973.1 == 0) = true := beq_iff_eq.mpr c1158
            have c1158b1 : (t973.1 != 0) = false := bne_eq_false_iff_eq.mpr c1158
            clear c1158
            by_cases c1159 : t973.2.1 = 0
            · have H := if_yes c1159 H
              have c1159b0 : (t973.2.1 == 0) = true := beq_iff_eq.mpr c1159
              have c1159b1 : (t973.2.1 != 0) = false := bne_eq_false_iff_eq.mpr c1159
              clear c1159
              by_cases c1160 : t973.2.2.1 = 0
              · have H := if_yes c1160 H
                have c1160b0 : (t973.2.2.1 == 0) = true := beq_iff_eq.mpr c1160
                have c1160b1 : (t973.2.2.1 != 0) = false := bne_eq_false_iff_eq.mpr c1160
                clear c1160
                by_cases c1161 : t973.2.2.2.1 = 0
                · have H := if_yes c1161 H
                  have c1161b0 : (t973.2.2.2.1 == 0) = true := beq_iff_eq.mpr c1161
                  have c1161b1 : (t973.2.2.2.1 != 0) = false := bne_eq_false_iff_eq.mpr c1161
                  clear c1161
                  have hc1154 : w1067.cell? ⟨g976, 0, none⟩ = some (.int .i64 t973.1) := blk_cellv (HS.out.at1) 0 rfl
                  have hc1155 : w1067.cell? ⟨g976, 1, none⟩ = some (.int .i64 t973.2.1) := blk_cellv (HS.out.at1) 1 rfl
                  have hc1156 : w1067.cell? ⟨g976, 2, none⟩ = some (.int .i64 t973.2.2.1) := blk_cellv (HS.out.at1) 2 rfl
                  have hc1157 : w1067.cell? ⟨g976, 3, none⟩ = some (.int .i64 t973.2.2.2.1) := blk_cellv (HS.out.at1) 3 rfl
                  have hc1162 : w1067.cell? ⟨g8, 0, none⟩ = some (.int .i64 a1) := blk_cellv (HS.out.at0) 0 rfl
                  have hc1163 : w1067.cell? ⟨g8, 1, none⟩ = some (.int .i64 a2) := blk_cellv (HS.out.at0) 1 rfl
                  have hc1164 : w1067.cell? ⟨g8, 2, none⟩ = some (.int .i64 a3) := blk_cellv (HS.out.at0) 2 rfl
                  have hc1165 : w1067.cell? ⟨g8, 3, none⟩ = some (.int .i64 a4) := blk_cellv (HS.out.at0) 3 rfl
                  go_wp2_with (first | ((with_reducible refine gate_dst (N := 15) rfl ?_); refine box_on ?hg (N := 15) ?hd (cs := #[.int .i64 0, .int .i64 0, .int .i64 0, .int .i64 0]) (t := 32) ?hr ?_; (case hd => rfl); (case hg => rfl); (case hr => first | (go_simp; done) | (go_simp; rfl)); intro g1166 hg w1167 hbox hb; clear hc1154 hc1155 hc1156 hc1157 hc1162 hc1163 hc1164 hc1165; have HS_ : Aside0 (Sep (fps []) w [blk g8 #[.int .i64 a1, .int .i64 a2, .int .i64 a3, .int .i64 a4] 32, blk g976 #[.int .i64 t973.1, .int .i64 t973.2.1, .int .i64 t973.2.2.1, .int .i64 t973.2.2.2.1] 32, blk g1166 #[.int .i64 0, .int .i64 0, .int .i64 0, .int .i64 0] 32] w1167) := ⟨HS.out.box hg hbox hb⟩; clear HS hg hbox hb; have HS := HS_; clear HS_; have hc1169 : w1167.cell? ⟨g1166, 0, none⟩ = some (.int .i64 0) := blk_cellv (HS.out.at2) 0 rfl; have hz1170 : w1167.frozen? ⟨g1166, 0, none⟩ = false := blk_fz (HS.out.at2) 0; have hc1171 : w1167.cell? ⟨g1166, 1, none⟩ = some (.int .i64 0) := blk_cellv (HS.out.at2) 1 rfl; have hz1172 : w1167.frozen? ⟨g1166, 1, none⟩ = false := blk_fz (HS.out.at2) 1; have hc1173 : w1167.cell? ⟨g1166, 2, none⟩ = some (.int .i64 0) := blk_cellv (HS.out.at2) 2 rfl; have hz1174 : w1167.frozen? ⟨g1166, 2, none⟩ = false := blk_fz (HS.out.at2) 2; have hc1175 : w1167.cell? ⟨g1166, 3, none⟩ = some (.int .i64 0) := blk_cellv (HS.out.at2) 3 rfl; have hz1176 : w1167.frozen? ⟨g1166, 3, none⟩ = false := blk_fz (HS.out.at2) 3) | ((with_reducible refine gate_store (t := 32) (p := 15) rfl ?_); refine store_event (w1 := (World.setCell (World.setCell (World.setCell (World.setCell w1167 ⟨g1166, 0, none⟩ (.int .i64 a1)) ⟨g1166, 1, none⟩ (.int .i64 a2)) ⟨g1166, 2, none⟩ (.int .i64 a3)) ⟨g1166, 3, none⟩ (.int .i64 a4))) rfl (t := 32) (p := 15) rfl rfl ?hr ?_; (case hr => first | (go_simp; done) | (go_simp; rfl)); intro w1177 hst; clear hc1169 hz1170 hc1171 hz1172 hc1173 hz1174 hc1175 hz1176; have hq0 : Sep (fps []) w [blk g8 #[.int .i64 a1, .int .i64 a2, .int .i64 a3, .int .i64 a4] 32, blk g976 #[.int .i64 t973.1, .int .i64 t973.2.1, .int .i64 t973.2.2.1, .int .i64 t973.2.2.2.1] 32, blk g1166 #[.int .i64 a1, .int .i64 0, .int .i64 0, .int .i64 0] 32] (World.setCell w1167 ⟨g1166, 0, none⟩ (.int .i64 a1)) := (HS.out).set1 (l1 := [blk g8 #[.int .i64 a1, .int .i64 a2, .int .i64 a3, .int .i64 a4] 32, blk g976 #[.int .i64 t973.1, .int .i64 t973.2.1, .int .i64 t973.2.2.1, .int .i64 t973.2.2.2.1] 32]) (l2 := []) 0 (.int .i64 a1); have hq1 : Sep (fps []) w [blk g8 #[.int .i64 a1, .int .i64 a2, .int .i64 a3, .int .i64 a4] 32, blk g976 #[.int .i64 t973.1, .int .i64 t973.2.1, .int .i64 t973.2.2.1, .int .i64 t973.2.2.2.1] 32, blk g1166 #[.int .i64 a1, .int .i64 a2, .int .i64 0, .int .i64 0] 32] (World.setCell (World.setCell w1167 ⟨g1166, 0, none⟩ (.int .i64 a1)) ⟨g1166, 1, none⟩ (.int .i64 a2)) := (hq0).set1 (l1 := [blk g8 #[.int .i64 a1, .int .i64 a2, .int .i64 a3, .int .i64 a4] 32, blk g976 #[.int .i64 t973.1, .int .i64 t973.2.1, .int .i64 t973.2.2.1, .int .i64 t973.2.2.2.1] 32]) (l2 := []) 1 (.int .i64 a2); have hq2 : Sep (fps []) w [blk g8 #[.int .i64 a1, .int .i64 a2, .int .i64 a3, .int .i64 a4] 32, blk g976 #[.int .i64 t973.1, .int .i64 t973.2.1, .int .i64 t973.2.2.1, .int .i64 t973.2.2.2.1] 32, blk g1166 #[.int .i64 a1, .int .i64 a2, .int .i64 a3, .int .i64 0] 32] (World.setCell (World.setCell (World.setCell w1167 ⟨g1166, 0, none⟩ (.int .i64 a1)) ⟨g1166, 1, none⟩ (.int .i64 a2)) ⟨g1166, 2, none⟩ (.int .i64 a3)) := (hq1).set1 (l1 := [blk g8 #[.int .i64 a1, .int .i64 a2, .int .i64 a3, .int .i64 a4] 32, blk g976 #[.int .i64 t973.1, .int .i64 t973.2.1, .int .i64 t973.2.2.1, .int .i64 t973.2.2.2.1] 32]) (l2 := []) 2 (.int .i64 a3); have hq3 : Sep (fps []) w [blk g8 #[.int .i64 a1, .int .i64 a2, .int .i64 a3, .int .i64 a4] 32, blk g976 #[.int .i64 t973.1, .int .i64 t973.2.1, .int .i64 t973.2.2.1, .int .i64 t973.2.2.2.1] 32, blk g1166 #[.int .i64 a1, .int .i64 a2, .int .i64 a3, .int .i64 a4] 32] (World.setCell (World.setCell (World.setCell (World.setCell w1167 ⟨g1166, 0, none⟩ (.int .i64 a1)) ⟨g1166, 1, none⟩ (.int .i64 a2)) ⟨g1166, 2, none⟩ (.int .i64 a3)) ⟨g1166, 3, none⟩ (.int .i64 a4)) := (hq2).set1 (l1 := [blk g8 #[.int .i64 a1, .int .i64 a2, .int .i64 a3, .int .i64 a4] 32, blk g976 #[.int .i64 t973.1, .int .i64 t973.2.1, .int .i64 t973.2.2.1, .int .i64 t973.2.2.2.1] 32]) (l2 := []) 3 (.int .i64 a4); have HS_ : Aside0 (Sep (fps []) w [blk g8 #[.int .i64 a1, .int .i64 a2, .int .i64 a3, .int .i64 a4] 32, blk g976 #[.int .i64 t973.1, .int .i64 t973.2.1, .int .i64 t973.2.2.1, .int .i64 t973.2.2.2.1] 32, blk g1166 #[.int .i64 a1, .int .i64 a2, .int .i64 a3, .int .i64 a4] 32] w1177) := ⟨by rw [hst]; exact hq3⟩; clear hq0 hq1 hq2 hq3; clear HS hst; have HS := HS_; clear HS_; have hc1178 : w1177.cell? ⟨g1166, 3, none⟩ = some (.int .i64 a4) := blk_cellv (HS.out.at2) 3 rfl; have hz1179 : w1177.frozen? ⟨g1166, 3, none⟩ = false := blk_fz (HS.out.at2) 3) | ((with_reducible refine gate_store (t := 3) (p := 92) rfl ?_); refine store_event (w1 := (World.setCell w1177 ⟨g1166, 3, none⟩ (.int .i64 a7))) rfl (t := 3) (p := 92) rfl rfl ?hr ?_; (case hr => first | (go_simp; done) | (go_simp; rfl)); intro w1180 hst; clear hc1178 hz1179; have hq0 : Sep (fps []) w [blk g8 #[.int .i64 a1, .int .i64 a2, .int .i64 a3, .int .i64 a4] 32, blk g976 #[.int .i64 t973.1, .int .i64 t973.2.1, .int .i64 t973.2.2.1, .int .i64 t973.2.2.2.1] 32, blk g1166 #[.int .i64 a1, .int .i64 a2, .int .i64 a3, .int .i64 a7] 32] (World.setCell w1177 ⟨g1166, 3, none⟩ (.int .i64 a7)) := (HS.out).set1 (l1 := [blk g8 #[.int .i64 a1, .int .i64 a2, .int .i64 a3, .int .i64 a4] 32, blk g976 #[.int .i64 t973.1, .int .i64 t973.2.1, .int .i64 t973.2.2.1, .int .i64 t973.2.2.2.1] 32]) (l2 := []) 3 (.int .i64 a7); have HS_ : Aside0 (Sep (fps []) w [blk g8 #[.int .i64 a1, .int .i64 a2, .int .i64 a3, .int .i64 a4] 32, blk g976 #[.int .i64 t973.1, .int .i64 t973.2.1, .int .i64 t973.2.2.1, .int .i64 t973.2.2.2.1] 32, blk g1166 #[.int .i64 a1, .int .i64 a2, .int .i64 a3, .int .i64 a7] 32] w1180) := ⟨by rw [hst]; exact hq0⟩; clear hq0; clear HS hst; have HS := HS_; clear HS_))
                  obtain ⟨t1137, HA1181, H⟩ := bind_some H
                  refine (quitrentlaw31_begun.calls _ t1137 _ ⟨HS.out.begin (l := []) (rest := [blk g8 #[.int .i64 a1, .int .i64 a2, .int .i64 a3, .int .i64 a4] 32, blk g976 #[.int .i64 t973.1, .int .i64 t973.2.1, .int .i64 t973.2.2.1, .int .i64 t973.2.2.2.1] 32, blk g1166 #[.int .i64 a1, .int .i64 a2, .int .i64 a3, .int .i64 a7] 32])⟩ HA1181).mono ?_
                  rintro e_ w1182 ⟨rfl, hS⟩
                  have HS_ : Aside0 (Sep (fps []) w [blk g8 #[.int .i64 a1, .int .i64 a2, .int .i64 a3, .int .i64 a4] 32, blk g976 #[.int .i64 t973.1, .int .i64 t973.2.1, .int .i64 t973.2.2.1, .int .i64 t973.2.2.2.1] 32, blk g1166 #[.int .i64 a1, .int .i64 a2, .int .i64 a3, .int .i64 a7] 32] w1182) := ⟨HS.out.call (l := []) (rest := [blk g8 #[.int .i64 a1, .int .i64 a2, .int .i64 a3, .int .i64 a4] 32, blk g976 #[.int .i64 t973.1, .int .i64 t973.2.1, .int .i64 t973.2.2.1, .int .i64 t973.2.2.2.1] 32, blk g1166 #[.int .i64 a1, .int .i64 a2, .int .i64 a3, .int .i64 a7] 32]) hS⟩
                  clear HS hS
                  have HS := HS_
                  clear HS_
                  by_cases c1183 : t1137 = true
                  · have H := if_yes c1183 H
                    have c1183b0 : t1137 = true := c1183
                    clear c1183
                    have hc1184 : w1182.cell? ⟨g1166, 0, none⟩ = some (.int .i64 a1) := blk_cellv (HS.out.at2) 0 rfl
                    have hc1185 : w1182.cell? ⟨g1166, 1, none⟩ = some (.int .i64 a2) := blk_cellv (HS.out.at2) 1 rfl
                    have hc1186 : w1182.cell? ⟨g1166, 2, none⟩ = some (.int .i64 a3) := blk_cellv (HS.out.at2) 2 rfl
                    have hc1187 : w1182.cell? ⟨g1166, 3, none⟩ = some (.int .i64 a7) := blk_cellv (HS.out.at2) 3 rfl
                    go_wp2_with fail
                    clear hc1184 hc1185 hc1186 hc1187
                    obtain ⟨t1145, HA1188, H⟩ := bind_some H
                    refine (tune_Fits.calls _ a1 a2 a3 a7 a5 a6 t1145 _ ⟨HS.out.begin (l := []) (rest := [blk g8 #[.int .i64 a1, .int .i64 a2, .int .i64 a3, .int .i64 a4] 32, blk g976 #[.int .i64 t973.1, .int .i64 t973.2.1, .int .i64 t973.2.2.1, .int .i64 t973.2.2.2.1] 32, blk g1166 #[.int .i64 a1, .int .i64 a2, .int .i64 a3, .int .i64 a7] 32])⟩ HA1188).mono ?_
                    rintro e_ w1189 ⟨rfl, hS⟩
                    have HS_ : Aside0 (Sep (fps []) w [blk g8 #[.int .i64 a1, .int .i64 a2, .int .i64 a3, .int .i64 a4] 32, blk g976 #[.int .i64 t973.1, .int .i64 t973.2.1, .int .i64 t973.2.2.1, .int .i64 t973.2.2.2.1] 32, blk g1166 #[.int .i64 a1, .int .i64 a2, .int .i64 a3, .int .i64 a7] 32] w1189) := ⟨HS.out.call (l := []) (rest := [blk g8 #[.int .i64 a1, .int .i64 a2, .int .i64 a3, .int .i64 a4] 32, blk g976 #[.int .i64 t973.1, .int .i64 t973.2.1, .int .i64 t973.2.2.1, .int .i64 t973.2.2.2.1] 32, blk g1166 #[.int .i64 a1, .int .i64 a2, .int .i64 a3, .int .i64 a7] 32]) hS⟩
                    clear HS hS
                    have HS := HS_
                    clear HS_
                    by_cases c1190 : a7 ≥ t992.1
                    · have H := if_yes c1190 H
                      have c1190b0 : decide (t992.1 ≤ a7) = true := decide_eq_true c1190
                      clear c1190
                      by_cases c1191 : t1145 = true
                      · have H := if_yes c1191 H
                        have c1191b0 : t1145 = true := c1191
                        clear c1191
                        by_cases c1192 : a7 ≤ t1065.1
                        · have H := if_yes c1192 H
                          have c1192b0 : decide (a7 ≤ t1065.1) = true := decide_eq_true c1192
                          clear c1192
                          go_wp2_with fail
                          go_ret
                          rw [← some_eq H]
                          exact ⟨(by first | rfl | (simp [IntKind.wrap_u32]; done)), (HS.out).keep (l := []) (rest := [blk g8 #[.int .i64 a1, .int .i64 a2, .int .i64 a3, .int .i64 a4] 32, blk g976 #[.int .i64 t973.1, .int .i64 t973.2.1, .int .i64 t973.2.2.1, .int .i64 t973.2.2.2.1] 32, blk g1166 #[.int .i64 a1, .int .i64 a2, .int .i64 a3, .int .i64 a7] 32])⟩
                        · have H := if_no c1192 H
                          have c1192b0 : decide (a7 ≤ t1065.1) = false := decide_eq_false c1192
                          clear c1192
                          go_wp2_with fail
                          go_ret
                          rw [← some_eq H]
                          exact ⟨(by first | rfl | (simp [IntKind.wrap_u32]; done)), (HS.out).keep (l := []) (rest := [blk g8 #[.int .i64 a1, .int .i64 a2, .int .i64 a3, .int .i64 a4] 32, blk g976 #[.int .i64 t973.1, .int .i64 t973.2.1, .int .i64 t973.2.2.1, .int .i64 t973.2.2.2.1] 32, blk g1166 #[.int .i64 a1, .int .i64 a2, .int .i64 a3, .int .i64 a7] 32])⟩
                      · have H := if_no c1191 H
                        have c1191b0 : t1145 = false := by simpa using c1191
                        clear c1191
                        by_cases c1193 : a7 ≤ t1065.1
                        · have H := if_yes c1193 H
                          have c1193b0 : decide (a7 ≤ t1065.1) = true := decide_eq_true c1193
                          clear c1193
                          go_wp2_with fail
                          go_ret
                          rw [← some_eq H]
                          exact ⟨(by first | rfl | (simp [IntKind.wrap_u32]; done)), (HS.out).keep (l := []) (rest := [blk g8 #[.int .i64 a1, .int .i64 a2, .int .i64 a3, .int .i64 a4] 32, blk g976 #[.int .i64 t973.1, .int .i64 t973.2.1, .int .i64 t973.2.2.1, .int .i64 t973.2.2.2.1] 32, blk g1166 #[.int .i64 a1, .int .i64 a2, .int .i64 a3, .int .i64 a7] 32])⟩
                        · have H := if_no c1193 H
                          have c1193b0 : decide (a7 ≤ t1065.1) = false := decide_eq_false c1193
                          clear c1193
                          go_wp2_with fail
                          go_ret
                          rw [← some_eq H]
                          exact ⟨(by first | rfl | (simp [IntKind.wrap_u32]; done)), (HS.out).keep (l := []) (rest := [blk g8 #[.int .i64 a1, .int .i64 a2, .int .i64 a3, .int .i64 a4] 32, blk g976 #[.int .i64 t973.1, .int .i64 t973.2.1, .int .i64 t973.2.2.1, .int .i64 t973.2.2.2.1] 32, blk g1166 #[.int .i64 a1, .int .i64 a2, .int .i64 a3, .int .i64 a7] 32])⟩
                    · have H := if_no c1190 H
                      have c1190b0 : decide (t992.1 ≤ a7) = false := decide_eq_false c1190
                      clear c1190
                      by_cases c1194 : t1145 = true
                      · have H := if_yes c1194 H
                        have c1194b0 : t1145 = true := c1194
                        clear c1194
                        go_wp2_with fail
                        go_ret
                        rw [← some_eq H]
                        exact ⟨(by first | rfl | (simp [IntKind.wrap_u32]; done)), (HS.out).keep (l := []) (rest := [blk g8 #[.int .i64 a1, .int .i64 a2, .int .i64 a3, .int .i64 a4] 32, blk g976 #[.int .i64 t973.1, .int .i64 t973.2.1, .int .i64 t973.2.2.1, .int .i64 t973.2.2.2.1] 32, blk g1166 #[.int .i64 a1, .int .i64 a2, .int .i64 a3, .int .i64 a7] 32])⟩
                      · have H := if_no c1194 H
                        have c1194b0 : t1145 = false := by simpa using c1194
                        clear c1194
                        go_wp2_with fail
                        go_ret
                        rw [← some_eq H]
                        exact ⟨(by first | rfl | (simp [IntKind.wrap_u32]; done)), (HS.out).keep (l := []) (rest := [blk g8 #[.int .i64 a1, .int .i64 a2, .int .i64 a3, .int .i64 a4] 32, blk g976 #[.int .i64 t973.1, .int .i64 t973.2.1, .int .i64 t973.2.2.1, .int .i64 t973.2.2.2.1] 32, blk g1166 #[.int .i64 a1, .int .i64 a2, .int .i64 a3, .int .i64 a7] 32])⟩
                  · have H := if_no c1183 H
                    have c1183b0 : t1137 = false := by simpa using c1183
                    clear c1183
                    go_wp2_with fail
                    go_ret
                    rw [← some_eq H]
                    exact ⟨(by first | rfl | (simp [IntKind.wrap_u32]; done)), (HS.out).keep (l := []) (rest := [blk g8 #[.int .i64 a1, .int .i64 a2, .int .i64 a3, .int .i64 a4] 32, blk g976 #[.int .i64 t973.1, .int .i64 t973.2.1, .int .i64 t973.2.2.1, .int .i64 t973.2.2.2.1] 32, blk g1166 #[.int .i64 a1, .int .i64 a2, .int .i64 a3, .int .i64 a7] 32])⟩
                · have H := if_no c1161 H
                  have c1161b0 : (t973.2.2.2.1 == 0) = false := beq_eq_false_iff_ne.mpr c1161
                  have c1161b1 : (t973.2.2.2.1 != 0) = true := bne_iff_ne.mpr c1161
                  clear c1161
                  have hc1154 : w1067.cell? ⟨g976, 0, none⟩ = some (.int .i64 t973.1) := blk_cellv (HS.out.at1) 0 rfl
                  have hc1155 : w1067.cell? ⟨g976, 1, none⟩ = some (.int .i64 t973.2.1) := blk_cellv (HS.out.at1) 1 rfl
                  have hc1156 : w1067.cell? ⟨g976, 2, none⟩ = some (.int .i64 t973.2.2.1) := blk_cellv (HS.out.at1) 2 rfl
                  have hc1157 : w1067.cell? ⟨g976, 3, none⟩ = some (.int .i64 t973.2.2.2.1) := blk_cellv (HS.out.at1) 3 rfl
                  go_wp2_with fail
                  clear hc1154 hc1155 hc1156 hc1157
                  go_ret
                  rw [← some_eq H]
                  exact ⟨(by first | rfl | (simp [IntKind.wrap_u32]; done)), (HS.out).keep (l := []) (rest := [blk g8 #[.int .i64 a1, .int .i64 a2, .int .i64 a3, .int .i64 a4] 32, blk g976 #[.int .i64 t973.1, .int .i64 t973.2.1, .int .i64 t973.2.2.1, .int .i64 t973.2.2.2.1] 32])⟩
              · have H := if_no c1160 H
                have c1160b0 : (t973.2.2.1 == 0) = false := beq_eq_false_iff_ne.mpr c1160
                have c1160b1 : (t973.2.2.1 != 0) = true := bne_iff_ne.mpr c1160
                clear c1160
                have hc1154 : w1067.cell? ⟨g976, 0, none⟩ = some (.int .i64 t973.1) := blk_cellv (HS.out.at1) 0 rfl
                have hc1155 : w1067.cell? ⟨g976, 1, none⟩ = some (.int .i64 t973.2.1) := blk_cellv (HS.out.at1) 1 rfl
                have hc1156 : w1067.cell? ⟨g976, 2, none⟩ = some (.int .i64 t973.2.2.1) := blk_cellv (HS.out.at1) 2 rfl
                have hc1157 : w1067.cell? ⟨g976, 3, none⟩ = some (.int .i64 t973.2.2.2.1) := blk_cellv (HS.out.at1) 3 rfl
                go_wp2_with fail
                clear hc1154 hc1155 hc1156 hc1157
                go_ret
                rw [← some_eq H]
                exact ⟨(by first | rfl | (simp [IntKind.wrap_u32]; done)), (HS.out).keep (l := []) (rest := [blk g8 #[.int .i64 a1, .int .i64 a2, .int .i64 a3, .int .i64 a4] 32, blk g976 #[.int .i64 t973.1, .int .i64 t973.2.1, .int .i64 t973.2.2.1, .int .i64 t973.2.2.2.1] 32])⟩
            · have H := if_no c1159 H
              have c1159b0 : (t973.2.1 == 0) = false := beq_eq_false_iff_ne.mpr c1159
              have c1159b1 : (t973.2.1 != 0) = true := bne_iff_ne.mpr c1159
              clear c1159
              have hc1154 : w1067.cell? ⟨g976, 0, none⟩ = some (.int .i64 t973.1) := blk_cellv (HS.out.at1) 0 rfl
              have hc1155 : w1067.cell? ⟨g976, 1, none⟩ = some (.int .i64 t973.2.1) := blk_cellv (HS.out.at1) 1 rfl
              have hc1156 : w1067.cell? ⟨g976, 2, none⟩ = some (.int .i64 t973.2.2.1) := blk_cellv (HS.out.at1) 2 rfl
              have hc1157 : w1067.cell? ⟨g976, 3, none⟩ = some (.int .i64 t973.2.2.2.1) := blk_cellv (HS.out.at1) 3 rfl
              go_wp2_with fail
              clear hc1154 hc1155 hc1156 hc1157
              go_ret
              rw [← some_eq H]
              exact ⟨(by first | rfl | (simp [IntKind.wrap_u32]; done)), (HS.out).keep (l := []) (rest := [blk g8 #[.int .i64 a1, .int .i64 a2, .int .i64 a3, .int .i64 a4] 32, blk g976 #[.int .i64 t973.1, .int .i64 t973.2.1, .int .i64 t973.2.2.1, .int .i64 t973.2.2.2.1] 32])⟩
          · have H := if_no c1158 H
            have c1158b0 : (t973.1 == 0) = false := beq_eq_false_iff_ne.mpr c1158
            have c1158b1 : (t973.1 != 0) = true := bne_iff_ne.mpr c1158
            clear c1158
            have hc1154 : w1067.cell? ⟨g976, 0, none⟩ = some (.int .i64 t973.1) := blk_cellv (HS.out.at1) 0 rfl
            have hc1155 : w1067.cell? ⟨g976, 1, none⟩ = some (.int .i64 t973.2.1) := blk_cellv (HS.out.at1) 1 rfl
            have hc1156 : w1067.cell? ⟨g976, 2, none⟩ = some (.int .i64 t973.2.2.1) := blk_cellv (HS.out.at1) 2 rfl
            have hc1157 : w1067.cell? ⟨g976, 3, none⟩ = some (.int .i64 t973.2.2.2.1) := blk_cellv (HS.out.at1) 3 rfl
            go_wp2_with fail
            clear hc1154 hc1155 hc1156 hc1157
            go_ret
            rw [← some_eq H]
            exact ⟨(by first | rfl | (simp [IntKind.wrap_u32]; done)), (HS.out).keep (l := []) (rest := [blk g8 #[.int .i64 a1, .int .i64 a2, .int .i64 a3, .int .i64 a4] 32, blk g976 #[.int .i64 t973.1, .int .i64 t973.2.1, .int .i64 t973.2.2.1, .int .i64 t973.2.2.2.1] 32])⟩
    · have H := if_no c1069 H
      have c1069b0 : t1065.2 = false := by simpa using c1069
      clear c1069
      by_cases c1195 : t973.2.2.2.2 = true
      · have H := if_yes c1195 H
        have c1195b0 : t973.2.2.2.2 = true := c1195
        clear c1195
        go_wp2_with fail
        go_ret
        rw [← some_eq H]
        exact ⟨(by first | rfl | (simp [IntKind.wrap_u32]; done)), (HS.out).keep (l := []) (rest := [blk g8 #[.int .i64 a1, .int .i64 a2, .int .i64 a3, .int .i64 a4] 32, blk g976 #[.int .i64 t973.1, .int .i64 t973.2.1, .int .i64 t973.2.2.1, .int .i64 t973.2.2.2.1] 32])⟩
      · have H := if_no c1195 H
        have c1195b0 : t973.2.2.2.2 = false := by simpa using c1195
        clear c1195
        by_cases c1200 : t973.1 = 0
        · have H := if_yes c1200 H
          have c1200b0 : (t973.1 == 0) = true := beq_iff_eq.mpr c1200
          have c1200b1 : (t973.1 != 0) = false := bne_eq_false_iff_eq.mpr c1200
          clear c1200
          by_cases c1201 : t973.2.1 = 0
          · have H := if_yes c1201 H
            have c1201b0 : (t973.2.1 == 0) = true := beq_iff_eq.mpr c1201
            have c1201b1 : (t973.2.1 != 0) = false := bne_eq_false_iff_eq.mpr c1201
            clear c1201
            by_cases c1202 : t973.2.2.1 = 0
            · have H := if_yes c1202 H
              have c1202b0 : (t973.2.2.1 == 0) = true := beq_iff_eq.mpr c1202
              have c1202b1 : (t973.2.2.1 != 0) = false := bne_eq_false_iff_eq.mpr c1202
              clear c1202
              by_cases c1203 : t973.2.2.2.1 = 0
              · have H := if_yes c1203 H
                have c1203b0 : (t973.2.2.2.1 == 0) = true := beq_iff_eq.mpr c1203
                have c1203b1 : (t973.2.2.2.1 != 0) = false := bne_eq_false_iff_eq.mpr c1203
                clear c1203
                have hc1196 : w1067.cell? ⟨g976, 0, none⟩ = some (.int .i64 t973.1) := blk_cellv (HS.out.at1) 0 rfl
                have hc1197 : w1067.cell? ⟨g976, 1, none⟩ = some (.int .i64 t973.2.1) := blk_cellv (HS.out.at1) 1 rfl
                have hc1198 : w1067.cell? ⟨g976, 2, none⟩ = some (.int .i64 t973.2.2.1) := blk_cellv (HS.out.at1) 2 rfl
                have hc1199 : w1067.cell? ⟨g976, 3, none⟩ = some (.int .i64 t973.2.2.2.1) := blk_cellv (HS.out.at1) 3 rfl
                have hc1204 : w1067.cell? ⟨g8, 0, none⟩ = some (.int .i64 a1) := blk_cellv (HS.out.at0) 0 rfl
                have hc1205 : w1067.cell? ⟨g8, 1, none⟩ = some (.int .i64 a2) := blk_cellv (HS.out.at0) 1 rfl
                have hc1206 : w1067.cell? ⟨g8, 2, none⟩ = some (.int .i64 a3) := blk_cellv (HS.out.at0) 2 rfl
                have hc1207 : w1067.cell? ⟨g8, 3, none⟩ = some (.int .i64 a4) := blk_cellv (HS.out.at0) 3 rfl
                go_wp2_with (first | ((with_reducible refine gate_dst (N := 15) rfl ?_); refine box_on ?hg (N := 15) ?hd (cs := #[.int .i64 0, .int .i64 0, .int .i64 0, .int .i64 0]) (t := 32) ?hr ?_; (case hd => rfl); (case hg => rfl); (case hr => first | (go_simp; done) | (go_simp; rfl)); intro g1208 hg w1209 hbox hb; clear hc1196 hc1197 hc1198 hc1199 hc1204 hc1205 hc1206 hc1207; have HS_ : Aside0 (Sep (fps []) w [blk g8 #[.int .i64 a1, .int .i64 a2, .int .i64 a3, .int .i64 a4] 32, blk g976 #[.int .i64 t973.1, .int .i64 t973.2.1, .int .i64 t973.2.2.1, .int .i64 t973.2.2.2.1] 32, blk g1208 #[.int .i64 0, .int .i64 0, .int .i64 0, .int .i64 0] 32] w1209) := ⟨HS.out.box hg hbox hb⟩; clear HS hg hbox hb; have HS := HS_; clear HS_; have hc1211 : w1209.cell? ⟨g1208, 0, none⟩ = some (.int .i64 0) := blk_cellv (HS.out.at2) 0 rfl; have hz1212 : w1209.frozen? ⟨g1208, 0, none⟩ = false := blk_fz (HS.out.at2) 0; have hc1213 : w1209.cell? ⟨g1208, 1, none⟩ = some (.int .i64 0) := blk_cellv (HS.out.at2) 1 rfl; have hz1214 : w1209.frozen? ⟨g1208, 1, none⟩ = false := blk_fz (HS.out.at2) 1; have hc1215 : w1209.cell? ⟨g1208, 2, none⟩ = some (.int .i64 0) := blk_cellv (HS.out.at2) 2 rfl; have hz1216 : w1209.frozen? ⟨g1208, 2, none⟩ = false := blk_fz (HS.out.at2) 2; have hc1217 : w1209.cell? ⟨g1208, 3, none⟩ = some (.int .i64 0) := blk_cellv (HS.out.at2) 3 rfl; have hz1218 : w1209.frozen? ⟨g1208, 3, none⟩ = false := blk_fz (HS.out.at2) 3) | ((with_reducible refine gate_store (t := 32) (p := 15) rfl ?_); refine store_event (w1 := (World.setCell (World.setCell (World.setCell (World.setCell w1209 ⟨g1208, 0, none⟩ (.int .i64 a1)) ⟨g1208, 1, none⟩ (.int .i64 a2)) ⟨g1208, 2, none⟩ (.int .i64 a3)) ⟨g1208, 3, none⟩ (.int .i64 a4))) rfl (t := 32) (p := 15) rfl rfl ?hr ?_; (case hr => first | (go_simp; done) | (go_simp; rfl)); intro w1219 hst; clear hc1211 hz1212 hc1213 hz1214 hc1215 hz1216 hc1217 hz1218; have hq0 : Sep (fps []) w [blk g8 #[.int .i64 a1, .int .i64 a2, .int .i64 a3, .int .i64 a4] 32, blk g976 #[.int .i64 t973.1, .int .i64 t973.2.1, .int .i64 t973.2.2.1, .int .i64 t973.2.2.2.1] 32, blk g1208 #[.int .i64 a1, .int .i64 0, .int .i64 0, .int .i64 0] 32] (World.setCell w1209 ⟨g1208, 0, none⟩ (.int .i64 a1)) := (HS.out).set1 (l1 := [blk g8 #[.int .i64 a1, .int .i64 a2, .int .i64 a3, .int .i64 a4] 32, blk g976 #[.int .i64 t973.1, .int .i64 t973.2.1, .int .i64 t973.2.2.1, .int .i64 t973.2.2.2.1] 32]) (l2 := []) 0 (.int .i64 a1); have hq1 : Sep (fps []) w [blk g8 #[.int .i64 a1, .int .i64 a2, .int .i64 a3, .int .i64 a4] 32, blk g976 #[.int .i64 t973.1, .int .i64 t973.2.1, .int .i64 t973.2.2.1, .int .i64 t973.2.2.2.1] 32, blk g1208 #[.int .i64 a1, .int .i64 a2, .int .i64 0, .int .i64 0] 32] (World.setCell (World.setCell w1209 ⟨g1208, 0, none⟩ (.int .i64 a1)) ⟨g1208, 1, none⟩ (.int .i64 a2)) := (hq0).set1 (l1 := [blk g8 #[.int .i64 a1, .int .i64 a2, .int .i64 a3, .int .i64 a4] 32, blk g976 #[.int .i64 t973.1, .int .i64 t973.2.1, .int .i64 t973.2.2.1, .int .i64 t973.2.2.2.1] 32]) (l2 := []) 1 (.int .i64 a2); have hq2 : Sep (fps []) w [blk g8 #[.int .i64 a1, .int .i64 a2, .int .i64 a3, .int .i64 a4] 32, blk g976 #[.int .i64 t973.1, .int .i64 t973.2.1, .int .i64 t973.2.2.1, .int .i64 t973.2.2.2.1] 32, blk g1208 #[.int .i64 a1, .int .i64 a2, .int .i64 a3, .int .i64 0] 32] (World.setCell (World.setCell (World.setCell w1209 ⟨g1208, 0, none⟩ (.int .i64 a1)) ⟨g1208, 1, none⟩ (.int .i64 a2)) ⟨g1208, 2, none⟩ (.int .i64 a3)) := (hq1).set1 (l1 := [blk g8 #[.int .i64 a1, .int .i64 a2, .int .i64 a3, .int .i64 a4] 32, blk g976 #[.int .i64 t973.1, .int .i64 t973.2.1, .int .i64 t973.2.2.1, .int .i64 t973.2.2.2.1] 32]) (l2 := []) 2 (.int .i64 a3); have hq3 : Sep (fps []) w [blk g8 #[.int .i64 a1, .int .i64 a2, .int .i64 a3, .int .i64 a4] 32, blk g976 #[.int .i64 t973.1, .int .i64 t973.2.1, .int .i64 t973.2.2.1, .int .i64 t973.2.2.2.1] 32, blk g1208 #[.int .i64 a1, .int .i64 a2, .int .i64 a3, .int .i64 a4] 32] (World.setCell (World.setCell (World.setCell (World.setCell w1209 ⟨g1208, 0, none⟩ (.int .i64 a1)) ⟨g1208, 1, none⟩ (.int .i64 a2)) ⟨g1208, 2, none⟩ (.int .i64 a3)) ⟨g1208, 3, none⟩ (.int .i64 a4)) := (hq2).set1 (l1 := [blk g8 #[.int .i64 a1, .int .i64 a2, .int .i64 a3, .int .i64 a4] 32, blk g976 #[.int .i64 t973.1, .int .i64 t973.2.1, .int .i64 t973.2.2.1, .int .i64 t973.2.2.2.1] 32]) (l2 := []) 3 (.int .i64 a4); have HS_ : Aside0 (Sep (fps []) w [blk g8 #[.int .i64 a1, .int .i64 a2, .int .i64 a3, .int .i64 a4] 32, blk g976 #[.int .i64 t973.1, .int .i64 t973.2.1, .int .i64 t973.2.2.1, .int .i64 t973.2.2.2.1] 32, blk g1208 #[.int .i64 a1, .int .i64 a2, .int .i64 a3, .int .i64 a4] 32] w1219) := ⟨by rw [hst]; exact hq3⟩; clear hq0 hq1 hq2 hq3; clear HS hst; have HS := HS_; clear HS_; have hc1220 : w1219.cell? ⟨g1208, 3, none⟩ = some (.int .i64 a4) := blk_cellv (HS.out.at2) 3 rfl; have hz1221 : w1219.frozen? ⟨g1208, 3, none⟩ = false := blk_fz (HS.out.at2) 3) | ((with_reducible refine gate_store (t := 3) (p := 92) rfl ?_); refine store_event (w1 := (World.setCell w1219 ⟨g1208, 3, none⟩ (.int .i64 a7))) rfl (t := 3) (p := 92) rfl rfl ?hr ?_; (case hr => first | (go_simp; done) | (go_simp; rfl)); intro w1222 hst; clear hc1220 hz1221; have hq0 : Sep (fps []) w [blk g8 #[.int .i64 a1, .int .i64 a2, .int .i64 a3, .int .i64 a4] 32, blk g976 #[.int .i64 t973.1, .int .i64 t973.2.1, .int .i64 t973.2.2.1, .int .i64 t973.2.2.2.1] 32, blk g1208 #[.int .i64 a1, .int .i64 a2, .int .i64 a3, .int .i64 a7] 32] (World.setCell w1219 ⟨g1208, 3, none⟩ (.int .i64 a7)) := (HS.out).set1 (l1 := [blk g8 #[.int .i64 a1, .int .i64 a2, .int .i64 a3, .int .i64 a4] 32, blk g976 #[.int .i64 t973.1, .int .i64 t973.2.1, .int .i64 t973.2.2.1, .int .i64 t973.2.2.2.1] 32]) (l2 := []) 3 (.int .i64 a7); have HS_ : Aside0 (Sep (fps []) w [blk g8 #[.int .i64 a1, .int .i64 a2, .int .i64 a3, .int .i64 a4] 32, blk g976 #[.int .i64 t973.1, .int .i64 t973.2.1, .int .i64 t973.2.2.1, .int .i64 t973.2.2.2.1] 32, blk g1208 #[.int .i64 a1, .int .i64 a2, .int .i64 a3, .int .i64 a7] 32] w1222) := ⟨by rw [hst]; exact hq0⟩; clear hq0; clear HS hst; have HS := HS_; clear HS_))
                obtain ⟨t1137, HA1223, H⟩ := bind_some H
                refine (quitrentlaw31_begun.calls _ t1137 _ ⟨HS.out.begin (l := []) (rest := [blk g8 #[.int .i64 a1, .int .i64 a2, .int .i64 a3, .int .i64 a4] 32, blk g976 #[.int .i64 t973.1, .int .i64 t973.2.1, .int .i64 t973.2.2.1, .int .i64 t973.2.2.2.1] 32, blk g1208 #[.int .i64 a1, .int .i64 a2, .int .i64 a3, .int .i64 a7] 32])⟩ HA1223).mono ?_
                rintro e_ w1224 ⟨rfl, hS⟩
                have HS_ : Aside0 (Sep (fps []) w [blk g8 #[.int .i64 a1, .int .i64 a2, .int .i64 a3, .int .i64 a4] 32, blk g976 #[.int .i64 t973.1, .int .i64 t973.2.1, .int .i64 t973.2.2.1, .int .i64 t973.2.2.2.1] 32, blk g1208 #[.int .i64 a1, .int .i64 a2, .int .i64 a3, .int .i64 a7] 32] w1224) := ⟨HS.out.call (l := []) (rest := [blk g8 #[.int .i64 a1, .int .i64 a2, .int .i64 a3, .int .i64 a4] 32, blk g976 #[.int .i64 t973.1, .int .i64 t973.2.1, .int .i64 t973.2.2.1, .int .i64 t973.2.2.2.1] 32, blk g1208 #[.int .i64 a1, .int .i64 a2, .int .i64 a3, .int .i64 a7] 32]) hS⟩
                clear HS hS
                have HS := HS_
                clear HS_
                by_cases c1225 : t1137 = true
                · have H := if_yes c1225 H
                  have c1225b0 : t1137 = true := c1225
                  clear c1225
                  have hc1226 : w1224.cell? ⟨g1208, 0, none⟩ = some (.int .i64 a1) := blk_cellv (HS.out.at2) 0 rfl
                  have hc1227 : w1224.cell? ⟨g1208, 1, none⟩ = some (.int .i64 a2) := blk_cellv (HS.out.at2) 1 rfl
                  have hc1228 : w1224.cell? ⟨g1208, 2, none⟩ = some (.int .i64 a3) := blk_cellv (HS.out.at2) 2 rfl
                  have hc1229 : w1224.cell? ⟨g1208, 3, none⟩ = some (.int .i64 a7) := blk_cellv (HS.out.at2) 3 rfl
                  go_wp2_with fail
                  clear hc1226 hc1227 hc1228 hc1229
                  obtain ⟨t1145, HA1230, H⟩ := bind_some H
                  refine (tune_Fits.calls _ a1 a2 a3 a7 a5 a6 t1145 _ ⟨HS.out.begin (l := []) (rest := [blk g8 #[.int .i64 a1, .int .i64 a2, .int .i64 a3, .int .i64 a4] 32, blk g976 #[.int .i64 t973.1, .int .i64 t973.2.1, .int .i64 t973.2.2.1, .int .i64 t973.2.2.2.1] 32, blk g1208 #[.int .i64 a1, .int .i64 a2, .int .i64 a3, .int .i64 a7] 32])⟩ HA1230).mono ?_
                  rintro e_ w1231 ⟨rfl, hS⟩
                  have HS_ : Aside0 (Sep (fps []) w [blk g8 #[.int .i64 a1, .int .i64 a2, .int .i64 a3, .int .i64 a4] 32, blk g976 #[.int .i64 t973.1, .int .i64 t973.2.1, .int .i64 t973.2.2.1, .int .i64 t973.2.2.2.1] 32, blk g1208 #[.int .i64 a1, .int .i64 a2, .int .i64 a3, .int .i64 a7] 32] w1231) := ⟨HS.out.call (l := []) (rest := [blk g8 #[.int .i64 a1, .int .i64 a2, .int .i64 a3, .int .i64 a4] 32, blk g976 #[.int .i64 t973.1, .int .i64 t973.2.1, .int .i64 t973.2.2.1, .int .i64 t973.2.2.2.1] 32, blk g1208 #[.int .i64 a1, .int .i64 a2, .int .i64 a3, .int .i64 a7] 32]) hS⟩
                  clear HS hS
                  have HS := HS_
                  clear HS_
                  by_cases c1232 : t1145 = true
                  · have H := if_yes c1232 H
                    have c1232b0 : t1145 = true := c1232
                    clear c1232
                    go_wp2_with fail
                    go_ret
                    rw [← some_eq H]
                    exact ⟨(by first | rfl | (simp [IntKind.wrap_u32]; done)), (HS.out).keep (l := []) (rest := [blk g8 #[.int .i64 a1, .int .i64 a2, .int .i64 a3, .int .i64 a4] 32, blk g976 #[.int .i64 t973.1, .int .i64 t973.2.1, .int .i64 t973.2.2.1, .int .i64 t973.2.2.2.1] 32, blk g1208 #[.int .i64 a1, .int .i64 a2, .int .i64 a3, .int .i64 a7] 32])⟩
                  · have H := if_no c1232 H
                    have c1232b0 : t1145 = false := by simpa using c1232
                    clear c1232
                    go_wp2_with fail
                    go_ret
                    rw [← some_eq H]
                    exact ⟨(by first | rfl | (simp [IntKind.wrap_u32]; done)), (HS.out).keep (l := []) (rest := [blk g8 #[.int .i64 a1, .int .i64 a2, .int .i64 a3, .int .i64 a4] 32, blk g976 #[.int .i64 t973.1, .int .i64 t973.2.1, .int .i64 t973.2.2.1, .int .i64 t973.2.2.2.1] 32, blk g1208 #[.int .i64 a1, .int .i64 a2, .int .i64 a3, .int .i64 a7] 32])⟩
                · have H := if_no c1225 H
                  have c1225b0 : t1137 = false := by simpa using c1225
                  clear c1225
                  go_wp2_with fail
                  go_ret
                  rw [← some_eq H]
                  exact ⟨(by first | rfl | (simp [IntKind.wrap_u32]; done)), (HS.out).keep (l := []) (rest := [blk g8 #[.int .i64 a1, .int .i64 a2, .int .i64 a3, .int .i64 a4] 32, blk g976 #[.int .i64 t973.1, .int .i64 t973.2.1, .int .i64 t973.2.2.1, .int .i64 t973.2.2.2.1] 32, blk g1208 #[.int .i64 a1, .int .i64 a2, .int .i64 a3, .int .i64 a7] 32])⟩
              · have H := if_no c1203 H
                have c1203b0 : (t973.2.2.2.1 == 0) = false := beq_eq_false_iff_ne.mpr c1203
                have c1203b1 : (t973.2.2.2.1 != 0) = true := bne_iff_ne.mpr c1203
                clear c1203
                have hc1196 : w1067.cell? ⟨g976, 0, none⟩ = some (.int .i64 t973.1) := blk_cellv (HS.out.at1) 0 rfl
                have hc1197 : w1067.cell? ⟨g976, 1, none⟩ = some (.int .i64 t973.2.1) := blk_cellv (HS.out.at1) 1 rfl
                have hc1198 : w1067.cell? ⟨g976, 2, none⟩ = some (.int .i64 t973.2.2.1) := blk_cellv (HS.out.at1) 2 rfl
                have hc1199 : w1067.cell? ⟨g976, 3, none⟩ = some (.int .i64 t973.2.2.2.1) := blk_cellv (HS.out.at1) 3 rfl
                go_wp2_with fail
                clear hc1196 hc1197 hc1198 hc1199
                go_ret
                rw [← some_eq H]
                exact ⟨(by first | rfl | (simp [IntKind.wrap_u32]; done)), (HS.out).keep (l := []) (rest := [blk g8 #[.int .i64 a1, .int .i64 a2, .int .i64 a3, .int .i64 a4] 32, blk g976 #[.int .i64 t973.1, .int .i64 t973.2.1, .int .i64 t973.2.2.1, .int .i64 t973.2.2.2.1] 32])⟩
            · have H := if_no c1202 H
              have c1202b0 : (t973.2.2.1 == 0) = false := beq_eq_false_iff_ne.mpr c1202
              have c1202b1 : (t973.2.2.1 != 0) = true := bne_iff_ne.mpr c1202
              clear c1202
              have hc1196 : w1067.cell? ⟨g976, 0, none⟩ = some (.int .i64 t973.1) := blk_cellv (HS.out.at1) 0 rfl
              have hc1197 : w1067.cell? ⟨g976, 1, none⟩ = some (.int .i64 t973.2.1) := blk_cellv (HS.out.at1) 1 rfl
              have hc1198 : w1067.cell? ⟨g976, 2, none⟩ = some (.int .i64 t973.2.2.1) := blk_cellv (HS.out.at1) 2 rfl
              have hc1199 : w1067.cell? ⟨g976, 3, none⟩ = some (.int .i64 t973.2.2.2.1) := blk_cellv (HS.out.at1) 3 rfl
              go_wp2_with fail
              clear hc1196 hc1197 hc1198 hc1199
              go_ret
              rw [← some_eq H]
              exact ⟨(by first | rfl | (simp [IntKind.wrap_u32]; done)), (HS.out).keep (l := []) (rest := [blk g8 #[.int .i64 a1, .int .i64 a2, .int .i64 a3, .int .i64 a4] 32, blk g976 #[.int .i64 t973.1, .int .i64 t973.2.1, .int .i64 t973.2.2.1, .int .i64 t973.2.2.2.1] 32])⟩
          · have H := if_no c1201 H
            have c1201b0 : (t973.2.1 == 0) = false := beq_eq_false_iff_ne.mpr c1201
            have c1201b1 : (t973.2.1 != 0) = true := bne_iff_ne.mpr c1201
            clear c1201
            have hc1196 : w1067.cell? ⟨g976, 0, none⟩ = some (.int .i64 t973.1) := blk_cellv (HS.out.at1) 0 rfl
            have hc1197 : w1067.cell? ⟨g976, 1, none⟩ = some (.int .i64 t973.2.1) := blk_cellv (HS.out.at1) 1 rfl
            have hc1198 : w1067.cell? ⟨g976, 2, none⟩ = some (.int .i64 t973.2.2.1) := blk_cellv (HS.out.at1) 2 rfl
            have hc1199 : w1067.cell? ⟨g976, 3, none⟩ = some (.int .i64 t973.2.2.2.1) := blk_cellv (HS.out.at1) 3 rfl
            go_wp2_with fail
            clear hc1196 hc1197 hc1198 hc1199
            go_ret
            rw [← some_eq H]
            exact ⟨(by first | rfl | (simp [IntKind.wrap_u32]; done)), (HS.out).keep (l := []) (rest := [blk g8 #[.int .i64 a1, .int .i64 a2, .int .i64 a3, .int .i64 a4] 32, blk g976 #[.int .i64 t973.1, .int .i64 t973.2.1, .int .i64 t973.2.2.1, .int .i64 t973.2.2.2.1] 32])⟩
        · have H := if_no c1200 H
          have c1200b0 : (t973.1 == 0) = false := beq_eq_false_iff_ne.mpr c1200
          have c1200b1 : (t973.1 != 0) = true := bne_iff_ne.mpr c1200
          clear c1200
          have hc1196 : w1067.cell? ⟨g976, 0, none⟩ = some (.int .i64 t973.1) := blk_cellv (HS.out.at1) 0 rfl
          have hc1197 : w1067.cell? ⟨g976, 1, none⟩ = some (.int .i64 t973.2.1) := blk_cellv (HS.out.at1) 1 rfl
          have hc1198 : w1067.cell? ⟨g976, 2, none⟩ = some (.int .i64 t973.2.2.1) := blk_cellv (HS.out.at1) 2 rfl
          have hc1199 : w1067.cell? ⟨g976, 3, none⟩ = some (.int .i64 t973.2.2.2.1) := blk_cellv (HS.out.at1) 3 rfl
          go_wp2_with fail
          clear hc1196 hc1197 hc1198 hc1199
          go_ret
          rw [← some_eq H]
          exact ⟨(by first | rfl | (simp [IntKind.wrap_u32]; done)), (HS.out).keep (l := []) (rest := [blk g8 #[.int .i64 a1, .int .i64 a2, .int .i64 a3, .int .i64 a4] 32, blk g976 #[.int .i64 t973.1, .int .i64 t973.2.1, .int .i64 t973.2.2.1, .int .i64 t973.2.2.2.1] 32])⟩
  · have H := if_no c1068 H
    have c1068b0 : t992.2 = false := by simpa using c1068
    clear c1068
    by_cases c1233 : t973.2.2.2.2 = true
    · have H := if_yes c1233 H
      have c1233b0 : t973.2.2.2.2 = true := c1233
      clear c1233
      go_wp2_with fail
      go_ret
      rw [← some_eq H]
      exact ⟨(by first | rfl | (simp [IntKind.wrap_u32]; done)), (HS.out).keep (l := []) (rest := [blk g8 #[.int .i64 a1, .int .i64 a2, .int .i64 a3, .int .i64 a4] 32, blk g976 #[.int .i64 t973.1, .int .i64 t973.2.1, .int .i64 t973.2.2.1, .int .i64 t973.2.2.2.1] 32])⟩
    · have H := if_no c1233 H
      have c1233b0 : t973.2.2.2.2 = false := by simpa using c1233
      clear c1233
      by_cases c1238 : t973.1 = 0
      · have H := if_yes c1238 H
        have c1238b0 : (t973.1 == 0) = true := beq_iff_eq.mpr c1238
        have c1238b1 : (t973.1 != 0) = false := bne_eq_false_iff_eq.mpr c1238
        clear c1238
        by_cases c1239 : t973.2.1 = 0
        · have H := if_yes c1239 H
          have c1239b0 : (t973.2.1 == 0) = true := beq_iff_eq.mpr c1239
          have c1239b1 : (t973.2.1 != 0) = false := bne_eq_false_iff_eq.mpr c1239
          clear c1239
          by_cases c1240 : t973.2.2.1 = 0
          · have H := if_yes c1240 H
            have c1240b0 : (t973.2.2.1 == 0) = true := beq_iff_eq.mpr c1240
            have c1240b1 : (t973.2.2.1 != 0) = false := bne_eq_false_iff_eq.mpr c1240
            clear c1240
            by_cases c1241 : t973.2.2.2.1 = 0
            · have H := if_yes c1241 H
              have c1241b0 : (t973.2.2.2.1 == 0) = true := beq_iff_eq.mpr c1241
              have c1241b1 : (t973.2.2.2.1 != 0) = false := bne_eq_false_iff_eq.mpr c1241
              clear c1241
              have hc1234 : w1067.cell? ⟨g976, 0, none⟩ = some (.int .i64 t973.1) := blk_cellv (HS.out.at1) 0 rfl
              have hc1235 : w1067.cell? ⟨g976, 1, none⟩ = some (.int .i64 t973.2.1) := blk_cellv (HS.out.at1) 1 rfl
              have hc1236 : w1067.cell? ⟨g976, 2, none⟩ = some (.int .i64 t973.2.2.1) := blk_cellv (HS.out.at1) 2 rfl
              have hc1237 : w1067.cell? ⟨g976, 3, none⟩ = some (.int .i64 t973.2.2.2.1) := blk_cellv (HS.out.at1) 3 rfl
              have hc1242 : w1067.cell? ⟨g8, 0, none⟩ = some (.int .i64 a1) := blk_cellv (HS.out.at0) 0 rfl
              have hc1243 : w1067.cell? ⟨g8, 1, none⟩ = some (.int .i64 a2) := blk_cellv (HS.out.at0) 1 rfl
              have hc1244 : w1067.cell? ⟨g8, 2, none⟩ = some (.int .i64 a3) := blk_cellv (HS.out.at0) 2 rfl
              have hc1245 : w1067.cell? ⟨g8, 3, none⟩ = some (.int .i64 a4) := blk_cellv (HS.out.at0) 3 rfl
              go_wp2_with (first | ((with_reducible refine gate_dst (N := 15) rfl ?_); refine box_on ?hg (N := 15) ?hd (cs := #[.int .i64 0, .int .i64 0, .int .i64 0, .int .i64 0]) (t := 32) ?hr ?_; (case hd => rfl); (case hg => rfl); (case hr => first | (go_simp; done) | (go_simp; rfl)); intro g1246 hg w1247 hbox hb; clear hc1234 hc1235 hc1236 hc1237 hc1242 hc1243 hc1244 hc1245; have HS_ : Aside0 (Sep (fps []) w [blk g8 #[.int .i64 a1, .int .i64 a2, .int .i64 a3, .int .i64 a4] 32, blk g976 #[.int .i64 t973.1, .int .i64 t973.2.1, .int .i64 t973.2.2.1, .int .i64 t973.2.2.2.1] 32, blk g1246 #[.int .i64 0, .int .i64 0, .int .i64 0, .int .i64 0] 32] w1247) := ⟨HS.out.box hg hbox hb⟩; clear HS hg hbox hb; have HS := HS_; clear HS_; have hc1249 : w1247.cell? ⟨g1246, 0, none⟩ = some (.int .i64 0) := blk_cellv (HS.out.at2) 0 rfl; have hz1250 : w1247.frozen? ⟨g1246, 0, none⟩ = false := blk_fz (HS.out.at2) 0; have hc1251 : w1247.cell? ⟨g1246, 1, none⟩ = some (.int .i64 0) := blk_cellv (HS.out.at2) 1 rfl; have hz1252 : w1247.frozen? ⟨g1246, 1, none⟩ = false := blk_fz (HS.out.at2) 1; have hc1253 : w1247.cell? ⟨g1246, 2, none⟩ = some (.int .i64 0) := blk_cellv (HS.out.at2) 2 rfl; have hz1254 : w1247.frozen? ⟨g1246, 2, none⟩ = false := blk_fz (HS.out.at2) 2; have hc1255 : w1247.cell? ⟨g1246, 3, none⟩ = some (.int .i64 0) := blk_cellv (HS.out.at2) 3 rfl; have hz1256 : w1247.frozen? ⟨g1246, 3, none⟩ = false := blk_fz (HS.out.at2) 3) | ((with_reducible refine gate_store (t := 32) (p := 15) rfl ?_); refine store_event (w1 := (World.setCell (World.setCell (World.setCell (World.setCell w1247 ⟨g1246, 0, none⟩ (.int .i64 a1)) ⟨g1246, 1, none⟩ (.int .i64 a2)) ⟨g1246, 2, none⟩ (.int .i64 a3)) ⟨g1246, 3, none⟩ (.int .i64 a4))) rfl (t := 32) (p := 15) rfl rfl ?hr ?_; (case hr => first | (go_simp; done) | (go_simp; rfl)); intro w1257 hst; clear hc1249 hz1250 hc1251 hz1252 hc1253 hz1254 hc1255 hz1256; have hq0 : Sep (fps []) w [blk g8 #[.int .i64 a1, .int .i64 a2, .int .i64 a3, .int .i64 a4] 32, blk g976 #[.int .i64 t973.1, .int .i64 t973.2.1, .int .i64 t973.2.2.1, .int .i64 t973.2.2.2.1] 32, blk g1246 #[.int .i64 a1, .int .i64 0, .int .i64 0, .int .i64 0] 32] (World.setCell w1247 ⟨g1246, 0, none⟩ (.int .i64 a1)) := (HS.out).set1 (l1 := [blk g8 #[.int .i64 a1, .int .i64 a2, .int .i64 a3, .int .i64 a4] 32, blk g976 #[.int .i64 t973.1, .int .i64 t973.2.1, .int .i64 t973.2.2.1, .int .i64 t973.2.2.2.1] 32]) (l2 := []) 0 (.int .i64 a1); have hq1 : Sep (fps []) w [blk g8 #[.int .i64 a1, .int .i64 a2, .int .i64 a3, .int .i64 a4] 32, blk g976 #[.int .i64 t973.1, .int .i64 t973.2.1, .int .i64 t973.2.2.1, .int .i64 t973.2.2.2.1] 32, blk g1246 #[.int .i64 a1, .int .i64 a2, .int .i64 0, .int .i64 0] 32] (World.setCell (World.setCell w1247 ⟨g1246, 0, none⟩ (.int .i64 a1)) ⟨g1246, 1, none⟩ (.int .i64 a2)) := (hq0).set1 (l1 := [blk g8 #[.int .i64 a1, .int .i64 a2, .int .i64 a3, .int .i64 a4] 32, blk g976 #[.int .i64 t973.1, .int .i64 t973.2.1, .int .i64 t973.2.2.1, .int .i64 t973.2.2.2.1] 32]) (l2 := []) 1 (.int .i64 a2); have hq2 : Sep (fps []) w [blk g8 #[.int .i64 a1, .int .i64 a2, .int .i64 a3, .int .i64 a4] 32, blk g976 #[.int .i64 t973.1, .int .i64 t973.2.1, .int .i64 t973.2.2.1, .int .i64 t973.2.2.2.1] 32, blk g1246 #[.int .i64 a1, .int .i64 a2, .int .i64 a3, .int .i64 0] 32] (World.setCell (World.setCell (World.setCell w1247 ⟨g1246, 0, none⟩ (.int .i64 a1)) ⟨g1246, 1, none⟩ (.int .i64 a2)) ⟨g1246, 2, none⟩ (.int .i64 a3)) := (hq1).set1 (l1 := [blk g8 #[.int .i64 a1, .int .i64 a2, .int .i64 a3, .int .i64 a4] 32, blk g976 #[.int .i64 t973.1, .int .i64 t973.2.1, .int .i64 t973.2.2.1, .int .i64 t973.2.2.2.1] 32]) (l2 := []) 2 (.int .i64 a3); have hq3 : Sep (fps []) w [blk g8 #[.int .i64 a1, .int .i64 a2, .int .i64 a3, .int .i64 a4] 32, blk g976 #[.int .i64 t973.1, .int .i64 t973.2.1, .int .i64 t973.2.2.1, .int .i64 t973.2.2.2.1] 32, blk g1246 #[.int .i64 a1, .int .i64 a2, .int .i64 a3, .int .i64 a4] 32] (World.setCell (World.setCell (World.setCell (World.setCell w1247 ⟨g1246, 0, none⟩ (.int .i64 a1)) ⟨g1246, 1, none⟩ (.int .i64 a2)) ⟨g1246, 2, none⟩ (.int .i64 a3)) ⟨g1246, 3, none⟩ (.int .i64 a4)) := (hq2).set1 (l1 := [blk g8 #[.int .i64 a1, .int .i64 a2, .int .i64 a3, .int .i64 a4] 32, blk g976 #[.int .i64 t973.1, .int .i64 t973.2.1, .int .i64 t973.2.2.1, .int .i64 t973.2.2.2.1] 32]) (l2 := []) 3 (.int .i64 a4); have HS_ : Aside0 (Sep (fps []) w [blk g8 #[.int .i64 a1, .int .i64 a2, .int .i64 a3, .int .i64 a4] 32, blk g976 #[.int .i64 t973.1, .int .i64 t973.2.1, .int .i64 t973.2.2.1, .int .i64 t973.2.2.2.1] 32, blk g1246 #[.int .i64 a1, .int .i64 a2, .int .i64 a3, .int .i64 a4] 32] w1257) := ⟨by rw [hst]; exact hq3⟩; clear hq0 hq1 hq2 hq3; clear HS hst; have HS := HS_; clear HS_; have hc1258 : w1257.cell? ⟨g1246, 3, none⟩ = some (.int .i64 a4) := blk_cellv (HS.out.at2) 3 rfl; have hz1259 : w1257.frozen? ⟨g1246, 3, none⟩ = false := blk_fz (HS.out.at2) 3) | ((with_reducible refine gate_store (t := 3) (p := 92) rfl ?_); refine store_event (w1 := (World.setCell w1257 ⟨g1246, 3, none⟩ (.int .i64 a7))) rfl (t := 3) (p := 92) rfl rfl ?hr ?_; (case hr => first | (go_simp; done) | (go_simp; rfl)); intro w1260 hst; clear hc1258 hz1259; have hq0 : Sep (fps []) w [blk g8 #[.int .i64 a1, .int .i64 a2, .int .i64 a3, .int .i64 a4] 32, blk g976 #[.int .i64 t973.1, .int .i64 t973.2.1, .int .i64 t973.2.2.1, .int .i64 t973.2.2.2.1] 32, blk g1246 #[.int .i64 a1, .int .i64 a2, .int .i64 a3, .int .i64 a7] 32] (World.setCell w1257 ⟨g1246, 3, none⟩ (.int .i64 a7)) := (HS.out).set1 (l1 := [blk g8 #[.int .i64 a1, .int .i64 a2, .int .i64 a3, .int .i64 a4] 32, blk g976 #[.int .i64 t973.1, .int .i64 t973.2.1, .int .i64 t973.2.2.1, .int .i64 t973.2.2.2.1] 32]) (l2 := []) 3 (.int .i64 a7); have HS_ : Aside0 (Sep (fps []) w [blk g8 #[.int .i64 a1, .int .i64 a2, .int .i64 a3, .int .i64 a4] 32, blk g976 #[.int .i64 t973.1, .int .i64 t973.2.1, .int .i64 t973.2.2.1, .int .i64 t973.2.2.2.1] 32, blk g1246 #[.int .i64 a1, .int .i64 a2, .int .i64 a3, .int .i64 a7] 32] w1260) := ⟨by rw [hst]; exact hq0⟩; clear hq0; clear HS hst; have HS := HS_; clear HS_))
              obtain ⟨t1137, HA1261, H⟩ := bind_some H
              refine (quitrentlaw31_begun.calls _ t1137 _ ⟨HS.out.begin (l := []) (rest := [blk g8 #[.int .i64 a1, .int .i64 a2, .int .i64 a3, .int .i64 a4] 32, blk g976 #[.int .i64 t973.1, .int .i64 t973.2.1, .int .i64 t973.2.2.1, .int .i64 t973.2.2.2.1] 32, blk g1246 #[.int .i64 a1, .int .i64 a2, .int .i64 a3, .int .i64 a7] 32])⟩ HA1261).mono ?_
              rintro e_ w1262 ⟨rfl, hS⟩
              have HS_ : Aside0 (Sep (fps []) w [blk g8 #[.int .i64 a1, .int .i64 a2, .int .i64 a3, .int .i64 a4] 32, blk g976 #[.int .i64 t973.1, .int .i64 t973.2.1, .int .i64 t973.2.2.1, .int .i64 t973.2.2.2.1] 32, blk g1246 #[.int .i64 a1, .int .i64 a2, .int .i64 a3, .int .i64 a7] 32] w1262) := ⟨HS.out.call (l := []) (rest := [blk g8 #[.int .i64 a1, .int .i64 a2, .int .i64 a3, .int .i64 a4] 32, blk g976 #[.int .i64 t973.1, .int .i64 t973.2.1, .int .i64 t973.2.2.1, .int .i64 t973.2.2.2.1] 32, blk g1246 #[.int .i64 a1, .int .i64 a2, .int .i64 a3, .int .i64 a7] 32]) hS⟩
              clear HS hS
              have HS := HS_
              clear HS_
              by_cases c1263 : t1137 = true
              · have H := if_yes c1263 H
                have c1263b0 : t1137 = true := c1263
                clear c1263
                have hc1264 : w1262.cell? ⟨g1246, 0, none⟩ = some (.int .i64 a1) := blk_cellv (HS.out.at2) 0 rfl
                have hc1265 : w1262.cell? ⟨g1246, 1, none⟩ = some (.int .i64 a2) := blk_cellv (HS.out.at2) 1 rfl
                have hc1266 : w1262.cell? ⟨g1246, 2, none⟩ = some (.int .i64 a3) := blk_cellv (HS.out.at2) 2 rfl
                have hc1267 : w1262.cell? ⟨g1246, 3, none⟩ = some (.int .i64 a7) := blk_cellv (HS.out.at2) 3 rfl
                go_wp2_with fail
                clear hc1264 hc1265 hc1266 hc1267
                obtain ⟨t1145, HA1268, H⟩ := bind_some H
                refine (tune_Fits.calls _ a1 a2 a3 a7 a5 a6 t1145 _ ⟨HS.out.begin (l := []) (rest := [blk g8 #[.int .i64 a1, .int .i64 a2, .int .i64 a3, .int .i64 a4] 32, blk g976 #[.int .i64 t973.1, .int .i64 t973.2.1, .int .i64 t973.2.2.1, .int .i64 t973.2.2.2.1] 32, blk g1246 #[.int .i64 a1, .int .i64 a2, .int .i64 a3, .int .i64 a7] 32])⟩ HA1268).mono ?_
                rintro e_ w1269 ⟨rfl, hS⟩
                have HS_ : Aside0 (Sep (fps []) w [blk g8 #[.int .i64 a1, .int .i64 a2, .int .i64 a3, .int .i64 a4] 32, blk g976 #[.int .i64 t973.1, .int .i64 t973.2.1, .int .i64 t973.2.2.1, .int .i64 t973.2.2.2.1] 32, blk g1246 #[.int .i64 a1, .int .i64 a2, .int .i64 a3, .int .i64 a7] 32] w1269) := ⟨HS.out.call (l := []) (rest := [blk g8 #[.int .i64 a1, .int .i64 a2, .int .i64 a3, .int .i64 a4] 32, blk g976 #[.int .i64 t973.1, .int .i64 t973.2.1, .int .i64 t973.2.2.1, .int .i64 t973.2.2.2.1] 32, blk g1246 #[.int .i64 a1, .int .i64 a2, .int .i64 a3, .int .i64 a7] 32]) hS⟩
                clear HS hS
                have HS := HS_
                clear HS_
                by_cases c1270 : t1145 = true
                · have H := if_yes c1270 H
                  have c1270b0 : t1145 = true := c1270
                  clear c1270
                  go_wp2_with fail
                  go_ret
                  rw [← some_eq H]
                  exact ⟨(by first | rfl | (simp [IntKind.wrap_u32]; done)), (HS.out).keep (l := []) (rest := [blk g8 #[.int .i64 a1, .int .i64 a2, .int .i64 a3, .int .i64 a4] 32, blk g976 #[.int .i64 t973.1, .int .i64 t973.2.1, .int .i64 t973.2.2.1, .int .i64 t973.2.2.2.1] 32, blk g1246 #[.int .i64 a1, .int .i64 a2, .int .i64 a3, .int .i64 a7] 32])⟩
                · have H := if_no c1270 H
                  have c1270b0 : t1145 = false := by simpa using c1270
                  clear c1270
                  go_wp2_with fail
                  go_ret
                  rw [← some_eq H]
                  exact ⟨(by first | rfl | (simp [IntKind.wrap_u32]; done)), (HS.out).keep (l := []) (rest := [blk g8 #[.int .i64 a1, .int .i64 a2, .int .i64 a3, .int .i64 a4] 32, blk g976 #[.int .i64 t973.1, .int .i64 t973.2.1, .int .i64 t973.2.2.1, .int .i64 t973.2.2.2.1] 32, blk g1246 #[.int .i64 a1, .int .i64 a2, .int .i64 a3, .int .i64 a7] 32])⟩
              · have H := if_no c1263 H
                have c1263b0 : t1137 = false := by simpa using c1263
                clear c1263
                go_wp2_with fail
                go_ret
                rw [← some_eq H]
                exact ⟨(by first | rfl | (simp [IntKind.wrap_u32]; done)), (HS.out).keep (l := []) (rest := [blk g8 #[.int .i64 a1, .int .i64 a2, .int .i64 a3, .int .i64 a4] 32, blk g976 #[.int .i64 t973.1, .int .i64 t973.2.1, .int .i64 t973.2.2.1, .int .i64 t973.2.2.2.1] 32, blk g1246 #[.int .i64 a1, .int .i64 a2, .int .i64 a3, .int .i64 a7] 32])⟩
            · have H := if_no c1241 H
              have c1241b0 : (t973.2.2.2.1 == 0) = false := beq_eq_false_iff_ne.mpr c1241
              have c1241b1 : (t973.2.2.2.1 != 0) = true := bne_iff_ne.mpr c1241
              clear c1241
              have hc1234 : w1067.cell? ⟨g976, 0, none⟩ = some (.int .i64 t973.1) := blk_cellv (HS.out.at1) 0 rfl
              have hc1235 : w1067.cell? ⟨g976, 1, none⟩ = some (.int .i64 t973.2.1) := blk_cellv (HS.out.at1) 1 rfl
              have hc1236 : w1067.cell? ⟨g976, 2, none⟩ = some (.int .i64 t973.2.2.1) := blk_cellv (HS.out.at1) 2 rfl
              have hc1237 : w1067.cell? ⟨g976, 3, none⟩ = some (.int .i64 t973.2.2.2.1) := blk_cellv (HS.out.at1) 3 rfl
              go_wp2_with fail
              clear hc1234 hc1235 hc1236 hc1237
              go_ret
              rw [← some_eq H]
              exact ⟨(by first | rfl | (simp [IntKind.wrap_u32]; done)), (HS.out).keep (l := []) (rest := [blk g8 #[.int .i64 a1, .int .i64 a2, .int .i64 a3, .int .i64 a4] 32, blk g976 #[.int .i64 t973.1, .int .i64 t973.2.1, .int .i64 t973.2.2.1, .int .i64 t973.2.2.2.1] 32])⟩
          · have H := if_no c1240 H
            have c1240b0 : (t973.2.2.1 == 0) = false := beq_eq_false_iff_ne.mpr c1240
            have c1240b1 : (t973.2.2.1 != 0) = true := bne_iff_ne.mpr c1240
            clear c1240
            have hc1234 : w1067.cell? ⟨g976, 0, none⟩ = some (.int .i64 t973.1) := blk_cellv (HS.out.at1) 0 rfl
            have hc1235 : w1067.cell? ⟨g976, 1, none⟩ = some (.int .i64 t973.2.1) := blk_cellv (HS.out.at1) 1 rfl
            have hc1236 : w1067.cell? ⟨g976, 2, none⟩ = some (.int .i64 t973.2.2.1) := blk_cellv (HS.out.at1) 2 rfl
            have hc1237 : w1067.cell? ⟨g976, 3, none⟩ = some (.int .i64 t973.2.2.2.1) := blk_cellv (HS.out.at1) 3 rfl
            go_wp2_with fail
            clear hc1234 hc1235 hc1236 hc1237
            go_ret
            rw [← some_eq H]
            exact ⟨(by first | rfl | (simp [IntKind.wrap_u32]; done)), (HS.out).keep (l := []) (rest := [blk g8 #[.int .i64 a1, .int .i64 a2, .int .i64 a3, .int .i64 a4] 32, blk g976 #[.int .i64 t973.1, .int .i64 t973.2.1, .int .i64 t973.2.2.1, .int .i64 t973.2.2.2.1] 32])⟩
        · have H := if_no c1239 H
          have c1239b0 : (t973.2.1 == 0) = false := beq_eq_false_iff_ne.mpr c1239
          have c1239b1 : (t973.2.1 != 0) = true := bne_iff_ne.mpr c1239
          clear c1239
          have hc1234 : w1067.cell? ⟨g976, 0, none⟩ = some (.int .i64 t973.1) := blk_cellv (HS.out.at1) 0 rfl
          have hc1235 : w1067.cell? ⟨g976, 1, none⟩ = some (.int .i64 t973.2.1) := blk_cellv (HS.out.at1) 1 rfl
          have hc1236 : w1067.cell? ⟨g976, 2, none⟩ = some (.int .i64 t973.2.2.1) := blk_cellv (HS.out.at1) 2 rfl
          have hc1237 : w1067.cell? ⟨g976, 3, none⟩ = some (.int .i64 t973.2.2.2.1) := blk_cellv (HS.out.at1) 3 rfl
          go_wp2_with fail
          clear hc1234 hc1235 hc1236 hc1237
          go_ret
          rw [← some_eq H]
          exact ⟨(by first | rfl | (simp [IntKind.wrap_u32]; done)), (HS.out).keep (l := []) (rest := [blk g8 #[.int .i64 a1, .int .i64 a2, .int .i64 a3, .int .i64 a4] 32, blk g976 #[.int .i64 t973.1, .int .i64 t973.2.1, .int .i64 t973.2.2.1, .int .i64 t973.2.2.2.1] 32])⟩
      · have H := if_no c1238 H
        have c1238b0 : (t973.1 == 0) = false := beq_eq_false_iff_ne.mpr c1238
        have c1238b1 : (t973.1 != 0) = true := bne_iff_ne.mpr c1238
        clear c1238
        have hc1234 : w1067.cell? ⟨g976, 0, none⟩ = some (.int .i64 t973.1) := blk_cellv (HS.out.at1) 0 rfl
        have hc1235 : w1067.cell? ⟨g976, 1, none⟩ = some (.int .i64 t973.2.1) := blk_cellv (HS.out.at1) 1 rfl
        have hc1236 : w1067.cell? ⟨g976, 2, none⟩ = some (.int .i64 t973.2.2.1) := blk_cellv (HS.out.at1) 2 rfl
        have hc1237 : w1067.cell? ⟨g976, 3, none⟩ = some (.int .i64 t973.2.2.2.1) := blk_cellv (HS.out.at1) 3 rfl
        go_wp2_with fail
        clear hc1234 hc1235 hc1236 hc1237
        go_ret
        rw [← some_eq H]
        exact ⟨(by first | rfl | (simp [IntKind.wrap_u32]; done)), (HS.out).keep (l := []) (rest := [blk g8 #[.int .i64 a1, .int .i64 a2, .int .i64 a3, .int .i64 a4] 32, blk g976 #[.int .i64 t973.1, .int .i64 t973.2.1, .int .i64 t973.2.2.1, .int .i64 t973.2.2.2.1] 32])⟩
end Go.Proofs.Ytgkpcboaiaiahab.C

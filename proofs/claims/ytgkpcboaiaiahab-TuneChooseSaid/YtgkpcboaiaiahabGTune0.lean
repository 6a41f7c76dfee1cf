/- Each function of the group Tune does what its plain function says, and changes nothing that was there; proved by walking its code. No condition. -/
import Derived.Test.YtgkpcboaiaiahabQw
import Derived.Test.YtgkpcboaiaiahabMTune
namespace Go.Proofs.Ytgkpcboaiaiahab.C
open Go.RowKit Go.Proofs.YtgkpcboaiaiahabW.PrintWords Go.Proofs.YtgkpcboaiaiahabW.PrintLast Go.Proofs.YtgkpcboaiaiahabW.PrintMore Go.Proofs.Ytgkpcboaiaiahab.Q Go.Proofs.Ytgkpcboaiaiahab.M
set_option linter.unusedVariables false
set_option linter.unusedSimpArgs false
set_option maxHeartbeats 4000000 in
set_option maxRecDepth 100000 in
theorem tune_with.calls (a46 : Int) (a47 : Int) (a48 : Int) (a49 : Int) (a50 : Int) (r : Int × Int × Int × Int) (w : World)  (HS : Aside0 (Sep (fps []) w [] w)) (H : Aside0 (tune_with.f a46 a47 a48 a49 a50 = some r)) :
    Calls Try.prog 46 #[.agg #[.int .i64 a46, .int .i64 a47, .int .i64 a48, .int .i64 a49], .int .i64 a50] w fun e w' => e = .returned (.agg #[.int .i64 r.1, .int .i64 r.2.1, .int .i64 r.2.2.1, .int .i64 r.2.2.2]) ∧ Sep (fps []) w [] w' := by
  unfold tune_with.f at H
  go_enter Try.func46, Try.ntmps46
  go_wp2_with (first | ((with_reducible refine gate_dst (N := 2) rfl ?_); refine box_on ?hg (N := 2) ?hd (cs := #[.int .i64 a46, .int .i64 a47, .int .i64 a48, .int .i64 a49]) (t := 32) ?hr ?_; (case hd => rfl); (case hg => rfl); (case hr => first | (go_simp; done) | (go_simp; rfl)); intro g51 hg w52 hbox hb; have HS_ : Aside0 (Sep (fps []) w [blk g51 #[.int .i64 a46, .int .i64 a47, .int .i64 a48, .int .i64 a49] 32] w52) := ⟨HS.out.box hg hbox hb⟩; clear HS hg hbox hb; have HS := HS_; clear HS_) | ((with_reducible refine gate_dst (N := 4) rfl ?_); refine box_on ?hg (N := 4) ?hd (cs := #[.int .i64 0, .int .i64 0, .int .i64 0, .int .i64 0]) (t := 32) ?hr ?_; (case hd => rfl); (case hg => rfl); (case hr => first | (go_simp; done) | (go_simp; rfl)); intro g54 hg w55 hbox hb; have HS_ : Aside0 (Sep (fps []) w [blk g51 #[.int .i64 a46, .int .i64 a47, .int .i64 a48, .int .i64 a49] 32, blk g54 #[.int .i64 0, .int .i64 0, .int .i64 0, .int .i64 0] 32] w55) := ⟨HS.out.box hg hbox hb⟩; clear HS hg hbox hb; have HS := HS_; clear HS_; have hc57 : w55.cell? ⟨g51, 3, none⟩ = some (.int .i64 a49) := blk_cellv (HS.out.at0) 3 rfl; have hz58 : w55.frozen? ⟨g51, 3, none⟩ = false := blk_fz (HS.out.at0) 3) | ((with_reducible refine gate_store (t := 3) (p := 6) rfl ?_); refine store_event (w1 := (World.setCell w55 ⟨g51, 3, none⟩ (.int .i64 a50))) rfl (t := 3) (p := 6) rfl rfl ?hr ?_; (case hr => first | (go_simp; done) | (go_simp; rfl)); intro w59 hst; clear hc57 hz58; have hq0 : Sep (fps []) w [blk g51 #[.int .i64 a46, .int .i64 a47, .int .i64 a48, .int .i64 a50] 32, blk g54 #[.int .i64 0, .int .i64 0, .int .i64 0, .int .i64 0] 32] (World.setCell w55 ⟨g51, 3, none⟩ (.int .i64 a50)) := (HS.out).set1 (l1 := []) (l2 := [blk g54 #[.int .i64 0, .int .i64 0, .int .i64 0, .int .i64 0] 32]) 3 (.int .i64 a50); have HS_ : Aside0 (Sep (fps []) w [blk g51 #[.int .i64 a46, .int .i64 a47, .int .i64 a48, .int .i64 a50] 32, blk g54 #[.int .i64 0, .int .i64 0, .int .i64 0, .int .i64 0] 32] w59) := ⟨by rw [hst]; exact hq0⟩; clear hq0; clear HS hst; have HS := HS_; clear HS_; have hc60 : w59.cell? ⟨g51, 0, none⟩ = some (.int .i64 a46) := blk_cellv (HS.out.at0) 0 rfl; have hc61 : w59.cell? ⟨g51, 1, none⟩ = some (.int .i64 a47) := blk_cellv (HS.out.at0) 1 rfl; have hc62 : w59.cell? ⟨g51, 2, none⟩ = some (.int .i64 a48) := blk_cellv (HS.out.at0) 2 rfl; have hc63 : w59.cell? ⟨g51, 3, none⟩ = some (.int .i64 a50) := blk_cellv (HS.out.at0) 3 rfl; have hc64 : w59.cell? ⟨g54, 0, none⟩ = some (.int .i64 0) := blk_cellv (HS.out.at1) 0 rfl; have hz65 : w59.frozen? ⟨g54, 0, none⟩ = false := blk_fz (HS.out.at1) 0; have hc66 : w59.cell? ⟨g54, 1, none⟩ = some (.int .i64 0) := blk_cellv (HS.out.at1) 1 rfl; have hz67 : w59.frozen? ⟨g54, 1, none⟩ = false := blk_fz (HS.out.at1) 1; have hc68 : w59.cell? ⟨g54, 2, none⟩ = some (.int .i64 0) := blk_cellv (HS.out.at1) 2 rfl; have hz69 : w59.frozen? ⟨g54, 2, none⟩ = false := blk_fz (HS.out.at1) 2; have hc70 : w59.cell? ⟨g54, 3, none⟩ = some (.int .i64 0) := blk_cellv (HS.out.at1) 3 rfl; have hz71 : w59.frozen? ⟨g54, 3, none⟩ = false := blk_fz (HS.out.at1) 3) | ((with_reducible refine gate_store (t := 32) (p := 4) rfl ?_); refine store_event (w1 := (World.setCell (World.setCell (World.setCell (World.setCell w59 ⟨g54, 0, none⟩ (.int .i64 a46)) ⟨g54, 1, none⟩ (.int .i64 a47)) ⟨g54, 2, none⟩ (.int .i64 a48)) ⟨g54, 3, none⟩ (.int .i64 a50))) rfl (t := 32) (p := 4) rfl rfl ?hr ?_; (case hr => first | (go_simp; done) | (go_simp; rfl)); intro w72 hst; clear hc60 hc61 hc62 hc63 hc64 hz65 hc66 hz67 hc68 hz69 hc70 hz71; have hq0 : Sep (fps []) w [blk g51 #[.int .i64 a46, .int .i64 a47, .int .i64 a48, .int .i64 a50] 32, blk g54 #[.int .i64 a46, .int .i64 0, .int .i64 0, .int .i64 0] 32] (World.setCell w59 ⟨g54, 0, none⟩ (.int .i64 a46)) := (HS.out).set1 (l1 := [blk g51 #[.int .i64 a46, .int .i64 a47, .int .i64 a48, .int .i64 a50] 32]) (l2 := []) 0 (.int .i64 a46); have hq1 : Sep (fps []) w [blk g51 #[.int .i64 a46, .int .i64 a47, .int .i64 a48, .int .i64 a50] 32, blk g54 #[.int .i64 a46, .int .i64 a47, .int .i64 0, .int .i64 0] 32] (World.setCell (World.setCell w59 ⟨g54, 0, none⟩ (.int .i64 a46)) ⟨g54, 1, none⟩ (.int .i64 a47)) := (hq0).set1 (l1 := [blk g51 #[.int .i64 a46, .int .i64 a47, .int .i64 a48, .int .i64 a50] 32]) (l2 := []) 1 (.int .i64 a47); have hq2 : Sep (fps []) w [blk g51 #[.int .i64 a46, .int .i64 a47, .int .i64 a48, .int .i64 a50] 32, blk g54 #[.int .i64 a46, .int .i64 a47, .int .i64 a48, .int .i64 0] 32] (World.setCell (World.setCell (World.setCell w59 ⟨g54, 0, none⟩ (.int .i64 a46)) ⟨g54, 1, none⟩ (.int .i64 a47)) ⟨g54, 2, none⟩ (.int .i64 a48)) := (hq1).set1 (l1 := [blk g51 #[.int .i64 a46, .int .i64 a47, .int .i64 a48, .int .i64 a50] 32]) (l2 := []) 2 (.int .i64 a48); have hq3 : Sep (fps []) w [blk g51 #[.int .i64 a46, .int .i64 a47, .int .i64 a48, .int .i64 a50] 32, blk g54 #[.int .i64 a46, .int .i64 a47, .int .i64 a48, .int .i64 a50] 32] (World.setCell (World.setCell (World.setCell (World.setCell w59 ⟨g54, 0, none⟩ (.int .i64 a46)) ⟨g54, 1, none⟩ (.int .i64 a47)) ⟨g54, 2, none⟩ (.int .i64 a48)) ⟨g54, 3, none⟩ (.int .i64 a50)) := (hq2).set1 (l1 := [blk g51 #[.int .i64 a46, .int .i64 a47, .int .i64 a48, .int .i64 a50] 32]) (l2 := []) 3 (.int .i64 a50); have HS_ : Aside0 (Sep (fps []) w [blk g51 #[.int .i64 a46, .int .i64 a47, .int .i64 a48, .int .i64 a50] 32, blk g54 #[.int .i64 a46, .int .i64 a47, .int .i64 a48, .int .i64 a50] 32] w72) := ⟨by rw [hst]; exact hq3⟩; clear hq0 hq1 hq2 hq3; clear HS hst; have HS := HS_; clear HS_))
  have hc73 : w72.cell? ⟨g54, 0, none⟩ = some (.int .i64 a46) := blk_cellv (HS.out.at1) 0 rfl
  have hc74 : w72.cell? ⟨g54, 1, none⟩ = some (.int .i64 a47) := blk_cellv (HS.out.at1) 1 rfl
  have hc75 : w72.cell? ⟨g54, 2, none⟩ = some (.int .i64 a48) := blk_cellv (HS.out.at1) 2 rfl
  have hc76 : w72.cell? ⟨g54, 3, none⟩ = some (.int .i64 a50) := blk_cellv (HS.out.at1) 3 rfl
  refine bodyPost_ret (v := .agg #[.int .i64 a46, .int .i64 a47, .int .i64 a48, .int .i64 a50]) (by simp [results, Try.results46, go_sem, hc73, hc74, hc75, hc76]) rfl ?_
  rw [← some_eq H]
  exact ⟨(by first | rfl | (simp [IntKind.wrap_u32]; done)), (HS.out).keep (l := []) (rest := [blk g51 #[.int .i64 a46, .int .i64 a47, .int .i64 a48, .int .i64 a50] 32, blk g54 #[.int .i64 a46, .int .i64 a47, .int .i64 a48, .int .i64 a50] 32])⟩

set_option maxHeartbeats 4000000 in
set_option maxRecDepth 100000 in
theorem ratio_Clamp.calls (a102 : Int) (a103 : Int) (a104 : Int) (r : Int) (w : World)  (HS : Aside0 (Sep (fps []) w [] w)) (H : Aside0 (ratio_Clamp.f a102 a103 a104 = some r)) :
    Calls Try.prog 43 #[.int .i64 a102, .int .i64 a103, .int .i64 a104] w fun e w' => e = .returned (.int .i64 r) ∧ Sep (fps []) w [] w' := by
  unfold ratio_Clamp.f at H
  go_enter Try.func43, Try.ntmps43
  by_cases c105 : a102 > a104
  · have H := if_yes c105 H
    have c105b0 : decide (a104 < a102) = true := decide_eq_true c105
    clear c105
    go_wp2_with fail
    go_ret
    rw [← some_eq H]
    exact ⟨(by first | rfl | (simp [IntKind.wrap_u32]; done)), (HS.out).keep (l := []) (rest := [])⟩
  · have H := if_no c105 H
    have c105b0 : decide (a104 < a102) = false := decide_eq_false c105
    clear c105
    by_cases c106 : a102 < a103
    · have H := if_yes c106 H
      have c106b0 : decide (a102 < a103) = true := decide_eq_true c106
      skip
      go_wp2_with fail
      clear c106
      go_ret
      rw [← some_eq H]
      exact ⟨(by first | rfl | (simp [IntKind.wrap_u32]; done)), (HS.out).keep (l := []) (rest := [])⟩
    · have H := if_no c106 H
      have c106b0 : decide (a102 < a103) = false := decide_eq_false c106
      skip
      go_wp2_with fail
      clear c106
      go_ret
      rw [← some_eq H]
      exact ⟨(by first | rfl | (simp [IntKind.wrap_u32]; done)), (HS.out).keep (l := []) (rest := [])⟩

set_option maxHeartbeats 4000000 in
set_option maxRecDepth 100000 in
theorem plan_within.calls (a99 : Int) (a100 : Int) (a101 : Int) (r : Bool) (w : World)  (HS : Aside0 (Sep (fps []) w [] w)) (H : Aside0 (plan_within.f a99 a100 a101 = some r)) :
    Calls Try.prog 40 #[.int .i64 a99, .int .i64 a100, .int .i64 a101] w fun e w' => e = .returned (.bool r) ∧ Sep (fps []) w [] w' := by
  unfold plan_within.f at H
  go_enter Try.func40, Try.ntmps40
  go_wp2_with fail
  obtain ⟨t107, HA108, H⟩ := bind_some H
  refine (ratio_Clamp.calls a99 a100 a101 t107 _ ⟨HS.out.begin (l := []) (rest := [])⟩ HA108).mono ?_
  rintro e_ w109 ⟨rfl, hS⟩
  have HS_ : Aside0 (Sep (fps []) w [] w109) := ⟨HS.out.call (l := []) (rest := []) hS⟩
  clear HS hS
  have HS := HS_
  clear HS_
  go_wp2_with fail
  go_ret
  rw [← some_eq H]
  exact ⟨(by first | rfl | (simp [IntKind.wrap_u32]; done)), (HS.out).keep (l := []) (rest := [])⟩

set_option maxHeartbeats 4000000 in
set_option maxRecDepth 100000 in
theorem plan_Check.calls (a91 : Int) (a92 : Int) (a93 : Int) (a94 : Int) (r : Int) (w : World)  (HS : Aside0 (Sep (fps []) w [] w)) (H : Aside0 (plan_Check.f a91 a92 a93 a94 = some r)) :
    Calls Try.prog 20 #[.agg #[.int .i64 a91, .int .i64 a92, .int .i64 a93, .int .i64 a94]] w fun e w' => e = .returned (.int .i64 r) ∧ Sep (fps []) w [] w' := by
  unfold plan_Check.f at H
  go_enter Try.func20, Try.ntmps20
  go_wp2_with (first | ((with_reducible refine gate_dst (N := 1) rfl ?_); refine box_on ?hg (N := 1) ?hd (cs := #[.int .i64 a91, .int .i64 a92, .int .i64 a93, .int .i64 a94]) (t := 32) ?hr ?_; (case hd => rfl); (case hg => rfl); (case hr => first | (go_simp; done) | (go_simp; rfl)); intro g95 hg w96 hbox hb; have HS_ : Aside0 (Sep (fps []) w [blk g95 #[.int .i64 a91, .int .i64 a92, .int .i64 a93, .int .i64 a94] 32] w96) := ⟨HS.out.box hg hbox hb⟩; clear HS hg hbox hb; have HS := HS_; clear HS_; have hc98 : w96.cell? ⟨g95, 0, none⟩ = some (.int .i64 a91) := blk_cellv (HS.out.at0) 0 rfl))
  clear hc98
  obtain ⟨t110, HA111, H⟩ := bind_some H
  refine (plan_within.calls a91 1 1048576 t110 _ ⟨HS.out.begin (l := []) (rest := [blk g95 #[.int .i64 a91, .int .i64 a92, .int .i64 a93, .int .i64 a94] 32])⟩ HA111).mono ?_
  rintro e_ w112 ⟨rfl, hS⟩
  have HS_ : Aside0 (Sep (fps []) w [blk g95 #[.int .i64 a91, .int .i64 a92, .int .i64 a93, .int .i64 a94] 32] w112) := ⟨HS.out.call (l := []) (rest := [blk g95 #[.int .i64 a91, .int .i64 a92, .int .i64 a93, .int .i64 a94] 32]) hS⟩
  clear HS hS
  have HS := HS_
  clear HS_
  by_cases c113 : t110 = true
  · have H := if_yes c113 H
    have c113b0 : t110 = true := c113
    clear c113
    have hc114 : w112.cell? ⟨g95, 1, none⟩ = some (.int .i64 a92) := blk_cellv (HS.out.at0) 1 rfl
    go_wp2_with fail
    clear hc114
    obtain ⟨t115, HA116, H⟩ := bind_some H
    refine (plan_within.calls a92 16 256 t115 _ ⟨HS.out.begin (l := []) (rest := [blk g95 #[.int .i64 a91, .int .i64 a92, .int .i64 a93, .int .i64 a94] 32])⟩ HA116).mono ?_
    rintro e_ w117 ⟨rfl, hS⟩
    have HS_ : Aside0 (Sep (fps []) w [blk g95 #[.int .i64 a91, .int .i64 a92, .int .i64 a93, .int .i64 a94] 32] w117) := ⟨HS.out.call (l := []) (rest := [blk g95 #[.int .i64 a91, .int .i64 a92, .int .i64 a93, .int .i64 a94] 32]) hS⟩
    clear HS hS
    have HS := HS_
    clear HS_
    by_cases c118 : t115 = true
    · have H := if_yes c118 H
      have c118b0 : t115 = true := c118
      clear c118
      have hc119 : w117.cell? ⟨g95, 2, none⟩ = some (.int .i64 a93) := blk_cellv (HS.out.at0) 2 rfl
      go_wp2_with fail
      clear hc119
      obtain ⟨t120, HA121, H⟩ := bind_some H
      refine (plan_within.calls a93 1 4096 t120 _ ⟨HS.out.begin (l := []) (rest := [blk g95 #[.int .i64 a91, .int .i64 a92, .int .i64 a93, .int .i64 a94] 32])⟩ HA121).mono ?_
      rintro e_ w122 ⟨rfl, hS⟩
      have HS_ : Aside0 (Sep (fps []) w [blk g95 #[.int .i64 a91, .int .i64 a92, .int .i64 a93, .int .i64 a94] 32] w122) := ⟨HS.out.call (l := []) (rest := [blk g95 #[.int .i64 a91, .int .i64 a92, .int .i64 a93, .int .i64 a94] 32]) hS⟩
      clear HS hS
      have HS := HS_
      clear HS_
      by_cases c123 : t120 = true
      · have H := if_yes c123 H
        have c123b0 : t120 = true := c123
        clear c123
        have hc124 : w122.cell? ⟨g95, 3, none⟩ = some (.int .i64 a94) := blk_cellv (HS.out.at0) 3 rfl
        go_wp2_with fail
        clear hc124
        obtain ⟨t125, HA126, H⟩ := bind_some H
        refine (plan_within.calls a94 1 65536 t125 _ ⟨HS.out.begin (l := []) (rest := [blk g95 #[.int .i64 a91, .int .i64 a92, .int .i64 a93, .int .i64 a94] 32])⟩ HA126).mono ?_
        rintro e_ w127 ⟨rfl, hS⟩
        have HS_ : Aside0 (Sep (fps []) w [blk g95 #[.int .i64 a91, .int .i64 a92, .int .i64 a93, .int .i64 a94] 32] w127) := ⟨HS.out.call (l := []) (rest := [blk g95 #[.int .i64 a91, .int .i64 a92, .int .i64 a93, .int .i64 a94] 32]) hS⟩
        clear HS hS
        have HS := HS_
        clear HS_
        by_cases c128 : t125 = true
        · have H := if_yes c128 H
          have c128b0 : t125 = true := c128
          clear c128
          by_cases c131 : (wrap64 (a91 * a92)) ≤ 4194304
          · have H := if_yes c131 H
            have c131b0 : decide ((wrap64 (a91 * a92)) ≤ 4194304) = true := decide_eq_true c131
            clear c131
            have hc129 : w127.cell? ⟨g95, 0, none⟩ = some (.int .i64 a91) := blk_cellv (HS.out.at0) 0 rfl
            have hc130 : w127.cell? ⟨g95, 1, none⟩ = some (.int .i64 a92) := blk_cellv (HS.out.at0) 1 rfl
            go_wp2_with fail
            clear hc129 hc130
            go_ret
            rw [← some_eq H]
            exact ⟨(by first | rfl | (simp [IntKind.wrap_u32]; done)), (HS.out).keep (l := []) (rest := [blk g95 #[.int .i64 a91, .int .i64 a92, .int .i64 a93, .int .i64 a94] 32])⟩
          · have H := if_no c131 H
            have c131b0 : decide ((wrap64 (a91 * a92)) ≤ 4194304) = false := decide_eq_false c131
            clear c131
            have hc129 : w127.cell? ⟨g95, 0, none⟩ = some (.int .i64 a91) := blk_cellv (HS.out.at0) 0 rfl
            have hc130 : w127.cell? ⟨g95, 1, none⟩ = some (.int .i64 a92) := blk_cellv (HS.out.at0) 1 rfl
            go_wp2_with fail
            clear hc129 hc130
            go_ret
            rw [← some_eq H]
            exact ⟨(by first | rfl | (simp [IntKind.wrap_u32]; done)), (HS.out).keep (l := []) (rest := [blk g95 #[.int .i64 a91, .int .i64 a92, .int .i64 a93, .int .i64 a94] 32])⟩
        · have H := if_no c128 H
          have c128b0 : t125 = false := by simpa using c128
          clear c128
          go_wp2_with fail
          go_ret
          rw [← some_eq H]
          exact ⟨(by first | rfl | (simp [IntKind.wrap_u32]; done)), (HS.out).keep (l := []) (rest := [blk g95 #[.int .i64 a91, .int .i64 a92, .int .i64 a93, .int .i64 a94] 32])⟩
      · have H := if_no c123 H
        have c123b0 : t120 = false := by simpa using c123
        clear c123
        go_wp2_with fail
        go_ret
        rw [← some_eq H]
        exact ⟨(by first | rfl | (simp [IntKind.wrap_u32]; done)), (HS.out).keep (l := []) (rest := [blk g95 #[.int .i64 a91, .int .i64 a92, .int .i64 a93, .int .i64 a94] 32])⟩
    · have H := if_no c118 H
      have c118b0 : t115 = false := by simpa using c118
      clear c118
      go_wp2_with fail
      go_ret
      rw [← some_eq H]
      exact ⟨(by first | rfl | (simp [IntKind.wrap_u32]; done)), (HS.out).keep (l := []) (rest := [blk g95 #[.int .i64 a91, .int .i64 a92, .int .i64 a93, .int .i64 a94] 32])⟩
  · have H := if_no c113 H
    have c113b0 : t110 = false := by simpa using c113
    clear c113
    go_wp2_with fail
    go_ret
    rw [← some_eq H]
    exact ⟨(by first | rfl | (simp [IntKind.wrap_u32]; done)), (HS.out).keep (l := []) (rest := [blk g95 #[.int .i64 a91, .int .i64 a92, .int .i64 a93, .int .i64 a94] 32])⟩

set_option maxHeartbeats 4000000 in
set_option maxRecDepth 100000 in
theorem tune_may.calls (a80 : Int) (a81 : Int) (a82 : Int) (a83 : Int) (r : Bool) (w : World)  (HS : Aside0 (Sep (fps []) w [] w)) (H : Aside0 (tune_may.f a80 a81 a82 a83 = some r)) :
    Calls Try.prog 47 #[.agg #[.int .i64 a80, .int .i64 a81, .int .i64 a82, .int .i64 a83]] w fun e w' => e = .returned (.bool r) ∧ Sep (fps []) w [] w' := by
  unfold tune_may.f at H
  go_enter Try.func47, Try.ntmps47
  go_wp2_with (first | ((with_reducible refine gate_dst (N := 1) rfl ?_); refine box_on ?hg (N := 1) ?hd (cs := #[.int .i64 a80, .int .i64 a81, .int .i64 a82, .int .i64 a83]) (t := 32) ?hr ?_; (case hd => rfl); (case hg => rfl); (case hr => first | (go_simp; done) | (go_simp; rfl)); intro g84 hg w85 hbox hb; have HS_ : Aside0 (Sep (fps []) w [blk g84 #[.int .i64 a80, .int .i64 a81, .int .i64 a82, .int .i64 a83] 32] w85) := ⟨HS.out.box hg hbox hb⟩; clear HS hg hbox hb; have HS := HS_; clear HS_; have hc87 : w85.cell? ⟨g84, 0, none⟩ = some (.int .i64 a80) := blk_cellv (HS.out.at0) 0 rfl; have hc88 : w85.cell? ⟨g84, 1, none⟩ = some (.int .i64 a81) := blk_cellv (HS.out.at0) 1 rfl; have hc89 : w85.cell? ⟨g84, 2, none⟩ = some (.int .i64 a82) := blk_cellv (HS.out.at0) 2 rfl; have hc90 : w85.cell? ⟨g84, 3, none⟩ = some (.int .i64 a83) := blk_cellv (HS.out.at0) 3 rfl))
  clear hc87 hc88 hc89 hc90
  obtain ⟨t132, HA133, H⟩ := bind_some H
  refine (plan_Check.calls a80 a81 a82 a83 t132 _ ⟨HS.out.begin (l := []) (rest := [blk g84 #[.int .i64 a80, .int .i64 a81, .int .i64 a82, .int .i64 a83] 32])⟩ HA133).mono ?_
  rintro e_ w134 ⟨rfl, hS⟩
  have HS_ : Aside0 (Sep (fps []) w [blk g84 #[.int .i64 a80, .int .i64 a81, .int .i64 a82, .int .i64 a83] 32] w134) := ⟨HS.out.call (l := []) (rest := [blk g84 #[.int .i64 a80, .int .i64 a81, .int .i64 a82, .int .i64 a83] 32]) hS⟩
  clear HS hS
  have HS := HS_
  clear HS_
  go_wp2_with fail
  go_ret
  rw [← some_eq H]
  exact ⟨(by first | rfl | (simp [IntKind.wrap_u32]; done)), (HS.out).keep (l := []) (rest := [blk g84 #[.int .i64 a80, .int .i64 a81, .int .i64 a82, .int .i64 a83] 32])⟩

set_option maxHeartbeats 4000000 in
set_option maxRecDepth 100000 in
theorem ratio_counts.calls (a229 : Int) (r : Int) (w : World)  (HS : Aside0 (Sep (fps []) w [] w)) (H : Aside0 (ratio_counts.f a229 = some r)) :
    Calls Try.prog 55 #[.int .i64 a229] w fun e w' => e = .returned (.int .i64 r) ∧ Sep (fps []) w [] w' := by
  unfold ratio_counts.f at H
  go_enter Try.func55, Try.ntmps55
  go_wp2_with fail
  obtain ⟨t230, HA231, H⟩ := bind_some H
  refine (ratio_Clamp.calls a229 0 1125899906842624 t230 _ ⟨HS.out.begin (l := []) (rest := [])⟩ HA231).mono ?_
  rintro e_ w232 ⟨rfl, hS⟩
  have HS_ : Aside0 (Sep (fps []) w [] w232) := ⟨HS.out.call (l := []) (rest := []) hS⟩
  clear HS hS
  have HS := HS_
  clear HS_
  go_wp2_with fail
  go_ret
  rw [← some_eq H]
  exact ⟨(by first | rfl | (simp [IntKind.wrap_u32]; done)), (HS.out).keep (l := []) (rest := [])⟩

set_option maxHeartbeats 4000000 in
set_option maxRecDepth 100000 in
theorem ratio_zero.calls (a228 : Int) (r : Bool) (w : World)  (HS : Aside0 (Sep (fps []) w [] w)) (H : Aside0 (ratio_zero.f a228 = some r)) :
    Calls Try.prog 57 #[.int .i64 a228] w fun e w' => e = .returned (.bool r) ∧ Sep (fps []) w [] w' := by
  unfold ratio_zero.f at H
  go_enter Try.func57, Try.ntmps57
  go_wp2_with fail
  obtain ⟨t233, HA234, H⟩ := bind_some H
  refine (ratio_counts.calls a228 t233 _ ⟨HS.out.begin (l := []) (rest := [])⟩ HA234).mono ?_
  rintro e_ w235 ⟨rfl, hS⟩
  have HS_ : Aside0 (Sep (fps []) w [] w235) := ⟨HS.out.call (l := []) (rest := []) hS⟩
  clear HS hS
  have HS := HS_
  clear HS_
  go_wp2_with fail
  go_ret
  rw [← some_eq H]
  exact ⟨(by first | rfl | (simp [IntKind.wrap_u32]; done)), (HS.out).keep (l := []) (rest := [])⟩

set_option maxHeartbeats 4000000 in
set_option maxRecDepth 100000 in
theorem slices_IndexFunc_int_int.calls (k : Nat) (l214 : List Int) (A215 : Option Addr) (n216 : Nat) (r : Int) (w : World) (HR217 : Aside0 (Kd.C (Kd.int .i64) w A215 l214.length l214)) (HS : Aside0 (Sep (fps []) w [] w)) (H : Aside0 (slices_IndexFunc_int_int.f k l214 = some r)) :
    Calls Try.prog 59 #[.slice A215 l214.length n216, .func (.func 57) #[] #[]] w fun e w' => e = .returned (.int .i64 r) ∧ Sep (fps []) w [] w' := by
  unfold slices_IndexFunc_int_int.f at H
  go_enter Try.func59, Try.ntmps59
  go_wp2_with fail
  obtain ⟨o240, AL241, H⟩ := bind_some H
  go_loopg [8] k (fun kq v8 wc => ∃ (x244 : Int), v8 = .int .i64 x244 ∧ Aside0 (slices_IndexFunc_int_int.lo0 kq l214 x244 = some o240) ∧ Aside0 (Sep (fps []) w [] wc))
  case atStart => exact ⟨(0), (by first | rfl | (simp [IntKind.wrap_u32]; done)), AL241, ⟨HS.out⟩⟩
  case round =>
    clear AL241 HS
    obtain ⟨x244, rfl, AL241, HS⟩ := hrel
    obtain ⟨w242, rfl⟩ : ∃ x : World, x = wr := ⟨_, rfl⟩
    cases gk with
    | zero => exact absurd AL241.out (by simp [slices_IndexFunc_int_int.lo0])
    | succ k243 =>
      have AL0 := AL241.out
      rw [slices_IndexFunc_int_int.lo0] at AL0
      clear AL241
      have AL241 := Aside0.mk AL0
      clear AL0
      by_cases c245 : x244 < (l214.length : Int)
      · have AL241 := if_yes c245 AL241
        have c245b0 : decide (x244 < (l214.length : Int)) = true := decide_eq_true c245
        clear c245
        by_cases c246 : 0 ≤ x244
        · have AL241 := if_yes c246 AL241
          have c246b0 : decide (0 ≤ x244) = true := decide_eq_true c246
          have c246p : (0 ≤ x244) = True := eq_true c246
          clear c246
          have ip247 : (x244 < (l214.length : Int)) = True := eq_true (of_decide_eq_true c245b0)
          obtain ⟨hx248a, hx248e, hx248⟩ := Kd.at_int (Kd.C_below HR217.out HS.out.fr.below) x244 (of_decide_eq_true c246b0) (of_decide_eq_true c245b0); cases hx248e
          go_wp2_with fail
          clear hx248
          obtain ⟨t236, HA249, AL241⟩ := bind_some AL241
          refine (ratio_zero.calls (rd l214 x244) t236 _ ⟨HS.out.begin (l := []) (rest := [])⟩ HA249).mono ?_
          rintro e_ w250 ⟨rfl, hS⟩
          have HS_ : Aside0 (Sep (fps []) w [] w250) := ⟨HS.out.call (l := []) (rest := []) hS⟩
          clear HS hS
          have HS := HS_
          clear HS_
          by_cases c251 : t236 = true
          · have AL241 := if_yes c251 AL241
            have c251b0 : t236 = true := c251
            clear c251
            go_wp2_with fail
            have ho := some_eq AL241
            subst ho
            have H := lp_ret H
            go_ret
            rw [← some_eq H]
            exact ⟨(by first | rfl | (simp [IntKind.wrap_u32]; done)), (HS.out).keep (l := []) (rest := [])⟩
          · have AL241 := if_no c251 AL241
            have c251b0 : t236 = false := by simpa using c251
            clear c251
            go_wp2_with fail
            go_roundg k243
            case measure => exact Nat.lt_succ_self _
            case rel => exact ⟨(wrap64 (x244 + 1)), (by first | rfl | (simp [IntKind.wrap_u32]; done)), Aside0.mk AL241.out, ⟨(HS.out).keep (l := []) (rest := [])⟩⟩
        · have AL241 := if_no c246 AL241
          have c246b0 : decide (0 ≤ x244) = false := decide_eq_false c246
          clear c246
          exact (none_no AL241).elim
      · have AL241 := if_no c245 AL241
        have c245b0 : decide (x244 < (l214.length : Int)) = false := decide_eq_false c245
        clear c245
        have ho := some_eq AL241
        subst ho
        clear AL241
        have H := lp_out H
        go_wp2_with fail
        go_ret
        rw [← some_eq H]
        exact ⟨(by first | rfl | (simp [IntKind.wrap_u32]; done)), (HS.out).keep (l := []) (rest := [])⟩

set_option maxHeartbeats 4000000 in
set_option maxRecDepth 100000 in
theorem slices_ContainsFunc_int_int.calls (k : Nat) (l210 : List Int) (A211 : Option Addr) (n212 : Nat) (r : Bool) (w : World) (HR213 : Aside0 (Kd.C (Kd.int .i64) w A211 l210.length l210)) (HS : Aside0 (Sep (fps []) w [] w)) (H : Aside0 (slices_ContainsFunc_int_int.f k l210 = some r)) :
    Calls Try.prog 56 #[.slice A211 l210.length n212, .func (.func 57) #[] #[]] w fun e w' => e = .returned (.bool r) ∧ Sep (fps []) w [] w' := by
  unfold slices_ContainsFunc_int_int.f at H
  go_enter Try.func56, Try.ntmps56
  go_wp2_with fail
  obtain ⟨t253, HA254, H⟩ := bind_some H
  refine (slices_IndexFunc_int_int.calls _ l210 A211 n212 t253 _ ⟨HR213.out⟩ ⟨HS.out.begin (l := []) (rest := [])⟩ HA254).mono ?_
  rintro e_ w255 ⟨rfl, hS⟩
  have HS_ : Aside0 (Sep (fps []) w [] w255) := ⟨HS.out.call (l := []) (rest := []) hS⟩
  clear HS hS
  have HS := HS_
  clear HS_
  go_wp2_with fail
  go_ret
  rw [← some_eq H]
  exact ⟨(by first | rfl | (simp [IntKind.wrap_u32]; done)), (HS.out).keep (l := []) (rest := [])⟩

set_option maxHeartbeats 4000000 in
set_option maxRecDepth 100000 in
theorem ratio_Mul.calls (k : Nat) (l206 : List Int) (A207 : Option Addr) (n208 : Nat) (r : Int) (w : World) (HR209 : Aside0 (Kd.C (Kd.int .i64) w A207 l206.length l206)) (HS : Aside0 (Sep (fps []) w [] w)) (H : Aside0 (ratio_Mul.f k l206 = some r)) :
    Calls Try.prog 42 #[.slice A207 l206.length n208] w fun e w' => e = .returned (.int .i64 r) ∧ Sep (fps []) w [] w' := by
  unfold ratio_Mul.f at H
  go_enter Try.func42, Try.ntmps42
  go_wp2_with fail
  obtain ⟨t256, HA257, H⟩ := bind_some H
  refine (slices_ContainsFunc_int_int.calls _ l206 A207 n208 t256 _ ⟨HR209.out⟩ ⟨HS.out.begin (l := []) (rest := [])⟩ HA257).mono ?_
  rintro e_ w258 ⟨rfl, hS⟩
  have HS_ : Aside0 (Sep (fps []) w [] w258) := ⟨HS.out.call (l := []) (rest := []) hS⟩
  clear HS hS
  have HS := HS_
  clear HS_
  by_cases c259 : t256 = true
  · have H := if_yes c259 H
    have c259b0 : t256 = true := c259
    clear c259
    go_wp2_with fail
    go_ret
    rw [← some_eq H]
    exact ⟨(by first | rfl | (simp [IntKind.wrap_u32]; done)), (HS.out).keep (l := []) (rest := [])⟩
  · have H := if_no c259 H
    have c259b0 : t256 = false := by simpa using c259
    clear c259
    go_wp2_with fail
    obtain ⟨o261, AL262, H⟩ := bind_some H
    go_loopg [3, 11] k (fun kq v3 v11 wc => ∃ (x265 : Int) (x266 : Int), v3 = .int .i64 x265 ∧ v11 = .int .i64 x266 ∧ Aside0 (ratio_Mul.lo0 kq l206 x265 x266 = some o261) ∧ Aside0 (Sep (fps []) w [] wc))
    case atStart => exact ⟨(1), (0), (by first | rfl | (simp [IntKind.wrap_u32]; done)), (by first | rfl | (simp [IntKind.wrap_u32]; done)), AL262, ⟨HS.out⟩⟩
    case round =>
      clear AL262 HS
      obtain ⟨x265, x266, rfl, rfl, AL262, HS⟩ := hrel
      obtain ⟨w263, rfl⟩ : ∃ x : World, x = wr := ⟨_, rfl⟩
      cases gk with
      | zero => exact absurd AL262.out (by simp [ratio_Mul.lo0])
      | succ k264 =>
        have AL0 := AL262.out
        rw [ratio_Mul.lo0] at AL0
        clear AL262
        have AL262 := Aside0.mk AL0
        clear AL0
        by_cases c267 : x266 < (l206.length : Int)
        · have AL262 := if_yes c267 AL262
          have c267b0 : decide (x266 < (l206.length : Int)) = true := decide_eq_true c267
          clear c267
          by_cases c268 : 0 ≤ x266
          · have AL262 := if_yes c268 AL262
            have c268b0 : decide (0 ≤ x266) = true := decide_eq_true c268
            have c268p : (0 ≤ x266) = True := eq_true c268
            clear c268
            have ip269 : (x266 < (l206.length : Int)) = True := eq_true (of_decide_eq_true c267b0)
            obtain ⟨hx270a, hx270e, hx270⟩ := Kd.at_int (Kd.C_below HR209.out HS.out.fr.below) x266 (of_decide_eq_true c268b0) (of_decide_eq_true c267b0); cases hx270e
            go_wp2_with fail
            clear hx270
            obtain ⟨t271, HA272, AL262⟩ := bind_some AL262
            refine (ratio_counts.calls (rd l206 x266) t271 _ ⟨HS.out.begin (l := []) (rest := [])⟩ HA272).mono ?_
            rintro e_ w273 ⟨rfl, hS⟩
            have HS_ : Aside0 (Sep (fps []) w [] w273) := ⟨HS.out.call (l := []) (rest := []) hS⟩
            clear HS hS
            have HS := HS_
            clear HS_
            by_cases c274 : t271 = 0
            · have AL262 := if_yes c274 AL262
              have c274b0 : (t271 == 0) = true := beq_iff_eq.mpr c274
              have c274b1 : (t271 != 0) = false := bne_eq_false_iff_eq.mpr c274
              exact (none_no AL262).elim
            · have AL262 := if_no c274 AL262
              have c274b0 : (t271 == 0) = false := beq_eq_false_iff_ne.mpr c274
              have c274b1 : (t271 != 0) = true := bne_iff_ne.mpr c274
              by_cases c275 : x265 ≤ (wrap64 (Int.tdiv (1125899906842624 : Int) t271))
              · have AL262 := if_yes c275 AL262
                have c275b0 : decide (x265 ≤ (wrap64 (Int.tdiv (1125899906842624 : Int) t271))) = true := decide_eq_true c275
                clear c275
                skip
                go_wp2_with fail
                clear c274
                go_roundg k264
                case measure => exact Nat.lt_succ_self _
                case rel => exact ⟨(wrap64 (x265 * t271)), (wrap64 (x266 + 1)), (by first | rfl | (simp [IntKind.wrap_u32]; done)), (by first | rfl | (simp [IntKind.wrap_u32]; done)), Aside0.mk AL262.out, ⟨(HS.out).keep (l := []) (rest := [])⟩⟩
              · have AL262 := if_no c275 AL262
                have c275b0 : decide (x265 ≤ (wrap64 (Int.tdiv (1125899906842624 : Int) t271))) = false := decide_eq_false c275
                clear c275
                skip
                go_wp2_with fail
                clear c274
                go_roundg k264
                case measure => exact Nat.lt_succ_self _
                case rel => exact ⟨(1125899906842624), (wrap64 (x266 + 1)), (by first | rfl | (simp [IntKind.wrap_u32]; done)), (by first | rfl | (simp [IntKind.wrap_u32]; done)), Aside0.mk AL262.out, ⟨(HS.out).keep (l := []) (rest := [])⟩⟩
          · have AL262 := if_no c268 AL262
            have c268b0 : decide (0 ≤ x266) = false := decide_eq_false c268
            clear c268
            exact (none_no AL262).elim
        · have AL262 := if_no c267 AL262
          have c267b0 : decide (x266 < (l206.length : Int)) = false := decide_eq_false c267
          clear c267
          have ho := some_eq AL262
          subst ho
          clear AL262
          go_wp2_with fail
          go_ret
          rw [← some_eq H]
          exact ⟨(by first | rfl | (simp [IntKind.wrap_u32]; done)), (HS.out).keep (l := []) (rest := [])⟩

set_option maxHeartbeats 4000000 in
set_option maxRecDepth 100000 in
theorem ratio_Add.calls (k : Nat) (l283 : List Int) (A284 : Option Addr) (n285 : Nat) (r : Int) (w : World) (HR286 : Aside0 (Kd.C (Kd.int .i64) w A284 l283.length l283)) (HS : Aside0 (Sep (fps []) w [] w)) (H : Aside0 (ratio_Add.f k l283 = some r)) :
    Calls Try.prog 41 #[.slice A284 l283.length n285] w fun e w' => e = .returned (.int .i64 r) ∧ Sep (fps []) w [] w' := by
  unfold ratio_Add.f at H
  go_enter Try.func41, Try.ntmps41
  go_wp2_with fail
  obtain ⟨o288, AL289, H⟩ := bind_some H
  go_loopg [3, 8] k (fun kq v3 v8 wc => ∃ (x292 : Int) (x293 : Int), v3 = .int .i64 x292 ∧ v8 = .int .i64 x293 ∧ Aside0 (ratio_Add.lo0 kq l283 x292 x293 = some o288) ∧ Aside0 (Sep (fps []) w [] wc))
  case atStart => exact ⟨(0), (0), (by first | rfl | (simp [IntKind.wrap_u32]; done)), (by first | rfl | (simp [IntKind.wrap_u32]; done)), AL289, ⟨HS.out⟩⟩
  case round =>
    clear AL289 HS
    obtain ⟨x292, x293, rfl, rfl, AL289, HS⟩ := hrel
    obtain ⟨w290, rfl⟩ : ∃ x : World, x = wr := ⟨_, rfl⟩
    cases gk with
    | zero => exact absurd AL289.out (by simp [ratio_Add.lo0])
    | succ k291 =>
      have AL0 := AL289.out
      rw [ratio_Add.lo0] at AL0
      clear AL289
      have AL289 := Aside0.mk AL0
      clear AL0
      by_cases c294 : x293 < (l283.length : Int)
      · have AL289 := if_yes c294 AL289
        have c294b0 : decide (x293 < (l283.length : Int)) = true := decide_eq_true c294
        clear c294
        by_cases c295 : 0 ≤ x293
        · have AL289 := if_yes c295 AL289
          have c295b0 : decide (0 ≤ x293) = true := decide_eq_true c295
          have c295p : (0 ≤ x293) = True := eq_true c295
          clear c295
          have ip296 : (x293 < (l283.length : Int)) = True := eq_true (of_decide_eq_true c294b0)
          obtain ⟨hx297a, hx297e, hx297⟩ := Kd.at_int (Kd.C_below HR286.out HS.out.fr.below) x293 (of_decide_eq_true c295b0) (of_decide_eq_true c294b0); cases hx297e
          go_wp2_with fail
          clear hx297
          obtain ⟨t298, HA299, AL289⟩ := bind_some AL289
          refine (ratio_counts.calls (rd l283 x293) t298 _ ⟨HS.out.begin (l := []) (rest := [])⟩ HA299).mono ?_
          rintro e_ w300 ⟨rfl, hS⟩
          have HS_ : Aside0 (Sep (fps []) w [] w300) := ⟨HS.out.call (l := []) (rest := []) hS⟩
          clear HS hS
          have HS := HS_
          clear HS_
          by_cases c301 : 1125899906842624 < (wrap64 (x292 + t298))
          · have AL289 := if_yes c301 AL289
            have c301b0 : decide (1125899906842624 < (wrap64 (x292 + t298))) = true := decide_eq_true c301
            skip
            go_wp2_with fail
            clear c301
            go_roundg k291
            case measure => exact Nat.lt_succ_self _
            case rel => exact ⟨(1125899906842624), (wrap64 (x293 + 1)), (by first | rfl | (simp [IntKind.wrap_u32]; done)), (by first | rfl | (simp [IntKind.wrap_u32]; done)), Aside0.mk AL289.out, ⟨(HS.out).keep (l := []) (rest := [])⟩⟩
          · have AL289 := if_no c301 AL289
            have c301b0 : decide (1125899906842624 < (wrap64 (x292 + t298))) = false := decide_eq_false c301
            skip
            go_wp2_with fail
            clear c301
            go_roundg k291
            case measure => exact Nat.lt_succ_self _
            case rel => exact ⟨(wrap64 (x292 + t298)), (wrap64 (x293 + 1)), (by first | rfl | (simp [IntKind.wrap_u32]; done)), (by first | rfl | (simp [IntKind.wrap_u32]; done)), Aside0.mk AL289.out, ⟨(HS.out).keep (l := []) (rest := [])⟩⟩
        · have AL289 := if_no c295 AL289
          have c295b0 : decide (0 ≤ x293) = false := decide_eq_false c295
          clear c295
          exact (none_no AL289).elim
      · have AL289 := if_no c294 AL289
        have c294b0 : decide (x293 < (l283.length : Int)) = false := decide_eq_false c294
        clear c294
        have ho := some_eq AL289
        subst ho
        clear AL289
        go_wp2_with fail
        go_ret
        rw [← some_eq H]
        exact ⟨(by first | rfl | (simp [IntKind.wrap_u32]; done)), (HS.out).keep (l := []) (rest := [])⟩

set_option maxHeartbeats 4000000 in
set_option maxRecDepth 100000 in
theorem ratio_by.calls (a512 : Int) (r : Int) (w : World)  (HS : Aside0 (Sep (fps []) w [] w)) (H : Aside0 (ratio_by.f a512 = some r)) :
    Calls Try.prog 58 #[.int .i64 a512] w fun e w' => e = .returned (.int .i64 r) ∧ Sep (fps []) w [] w' := by
  unfold ratio_by.f at H
  go_enter Try.func58, Try.ntmps58
  go_wp2_with fail
  obtain ⟨t513, HA514, H⟩ := bind_some H
  refine (ratio_counts.calls a512 t513 _ ⟨HS.out.begin (l := []) (rest := [])⟩ HA514).mono ?_
  rintro e_ w515 ⟨rfl, hS⟩
  have HS_ : Aside0 (Sep (fps []) w [] w515) := ⟨HS.out.call (l := []) (rest := []) hS⟩
  clear HS hS
  have HS := HS_
  clear HS_
  by_cases c516 : t513 < 1
  · have H := if_yes c516 H
    have c516b0 : decide (t513 < 1) = true := decide_eq_true c516
    skip
    go_wp2_with fail
    clear c516
    go_ret
    rw [← some_eq H]
    exact ⟨(by first | rfl | (simp [IntKind.wrap_u32]; done)), (HS.out).keep (l := []) (rest := [])⟩
  · have H := if_no c516 H
    have c516b0 : decide (t513 < 1) = false := decide_eq_false c516
    skip
    go_wp2_with fail
    clear c516
    go_ret
    rw [← some_eq H]
    exact ⟨(by first | rfl | (simp [IntKind.wrap_u32]; done)), (HS.out).keep (l := []) (rest := [])⟩

set_option maxHeartbeats 4000000 in
set_option maxRecDepth 100000 in
theorem ratio_Up.calls (a507 : Int) (a508 : Int) (r : Int) (w : World)  (HS : Aside0 (Sep (fps []) w [] w)) (H : Aside0 (ratio_Up.f a507 a508 = some r)) :
    Calls Try.prog 45 #[.int .i64 a507, .int .i64 a508] w fun e w' => e = .returned (.int .i64 r) ∧ Sep (fps []) w [] w' := by
  unfold ratio_Up.f at H
  go_enter Try.func45, Try.ntmps45
  go_wp2_with fail
  obtain ⟨t509, HA510, H⟩ := bind_some H
  refine (ratio_counts.calls a507 t509 _ ⟨HS.out.begin (l := []) (rest := [])⟩ HA510).mono ?_
  rintro e_ w511 ⟨rfl, hS⟩
  have HS_ : Aside0 (Sep (fps []) w [] w511) := ⟨HS.out.call (l := []) (rest := []) hS⟩
  clear HS hS
  have HS := HS_
  clear HS_
  go_wp2_with fail
  obtain ⟨t517, HA518, H⟩ := bind_some H
  refine (ratio_by.calls a508 t517 _ ⟨HS.out.begin (l := []) (rest := [])⟩ HA518).mono ?_
  rintro e_ w519 ⟨rfl, hS⟩
  have HS_ : Aside0 (Sep (fps []) w [] w519) := ⟨HS.out.call (l := []) (rest := []) hS⟩
  clear HS hS
  have HS := HS_
  clear HS_
  go_wp2_with fail
  obtain ⟨t520, HA521, H⟩ := bind_some H
  refine (ratio_by.calls a508 t520 _ ⟨HS.out.begin (l := []) (rest := [])⟩ HA521).mono ?_
  rintro e_ w522 ⟨rfl, hS⟩
  have HS_ : Aside0 (Sep (fps []) w [] w522) := ⟨HS.out.call (l := []) (rest := []) hS⟩
  clear HS hS
  have HS := HS_
  clear HS_
  by_cases c523 : t520 = 0
  · have H := if_yes c523 H
    have c523b0 : (t520 == 0) = true := beq_iff_eq.mpr c523
    have c523b1 : (t520 != 0) = false := bne_eq_false_iff_eq.mpr c523
    exact (none_no H).elim
  · have H := if_no c523 H
    have c523b0 : (t520 == 0) = false := beq_eq_false_iff_ne.mpr c523
    have c523b1 : (t520 != 0) = true := bne_iff_ne.mpr c523
    skip
    go_wp2_with fail
    clear c523
    go_ret
    rw [← some_eq H]
    exact ⟨(by first | rfl | (simp [IntKind.wrap_u32]; done)), (HS.out).keep (l := []) (rest := [])⟩
end Go.Proofs.Ytgkpcboaiaiahab.C

/- Each function of the group Ch does what its plain function says, and changes nothing that was there; proved by walking its code. No condition. -/
import Derived.Test.YtobeonkddamnoaaQw
import Derived.Test.YtobeonkddamnoaaMCh
import Derived.Test.YtobeonkddamnoaaGCh0
namespace Go.Proofs.Ytobeonkddamnoaa.C
open Go.RowKit Go.Proofs.YtobeonkddamnoaaW.PrintWords Go.Proofs.YtobeonkddamnoaaW.PrintLast Go.Proofs.YtobeonkddamnoaaW.PrintMore Go.Proofs.Ytobeonkddamnoaa.Q Go.Proofs.Ytobeonkddamnoaa.M
set_option linter.unusedVariables false
set_option linter.unusedSimpArgs false
set_option maxHeartbeats 30000000 in
set_option maxRecDepth 100000 in
theorem chain_put_nil_F90.calls (a996 : Int) (a997 : Int) (a1002 : Int) (g999 : Nat) (g1001 : Nat) (r : Bool) (w : World)   (HS : Aside0 (Sep (fps [b9 g999, b10 g1001 a1002]) w [b9 g999, b10 g1001 a1002] w)) (H : Aside0 (chain_put_nil_F90.f a996 a997 a1002 = some r)) :
    Calls Try.prog 88 #[.pointer none, .int .i64 a996, .int .i64 a997, .func (.func 90) #[] #[.pointer (some ⟨g999, 0, none⟩), .pointer (some ⟨g1001, 0, none⟩)]] w fun e w' => e = .returned (.bool r) ∧ Sep (fps [b9 g999, b10 g1001 a1002]) w [b9 g999, b10 g1001 a1002] w' := by
  generalize (fps [b9 g999, b10 g1001 a1002]) = FF at HS ⊢
  unfold chain_put_nil_F90.f at H
  go_enter Try.func88, Try.ntmps88
  go_wp2_with fail
  obtain ⟨t1003, HA1004, H⟩ := bind_some H
  refine (chain_of_nil.calls a996 t1003 _ ⟨HS.out.begin (l := []) (rest := [b9 g999, b10 g1001 a1002])⟩ HA1004).mono ?_
  rintro e_ w1005 ⟨rfl, hS⟩
  replace HS : Aside0 (Sep FF w [b9 g999, b10 g1001 a1002] w1005) := ⟨HS.out.call (l := []) (rest := [b9 g999, b10 g1001 a1002]) hS⟩
  clear hS
  by_cases c1016 : t1003.2.2.2 = true
  · have H := if_yes c1016 H
    have c1016b0 : t1003.2.2.2 = true := c1016
    have c1016b1 : (!t1003.2.2.2) = false := by rw [c1016b0]; rfl
    try rw [c1016b1]
    clear c1016
    by_cases c1017 : a997 < 0
    · have H := if_yes c1017 H
      have c1017b0 : decide (a997 < 0) = true := decide_eq_true c1017
      clear c1017
      go_wp2_with (first | ((with_reducible refine gate_dst (N := 9) rfl ?_); refine box_on ?hg (N := 9) ?hd (cs := #[.int .i64 0, .int .i64 0, .int .i64 0]) (t := 134) ?hr ?_; (case hd => rfl); (case hg => rfl); (case hr => first | (go_simp; done) | (go_simp; rfl)); intro g1006 hg w1007 hbox hb; replace HS : Aside0 (Sep FF w [b9 g999, b10 g1001 a1002, b8 g1006 0 0 0] w1007) := ⟨HS.out.box hg hbox hb⟩; clear hg hbox hb; have hc1009 : w1007.cell? ⟨g1006, 0, none⟩ = some (.int .i64 0) := blk_cellv (HS.out.at2) 0 rfl; have hz1010 : w1007.frozen? ⟨g1006, 0, none⟩ = false := blk_fz (HS.out.at2) 0; have hc1011 : w1007.cell? ⟨g1006, 1, none⟩ = some (.int .i64 0) := blk_cellv (HS.out.at2) 1 rfl; have hz1012 : w1007.frozen? ⟨g1006, 1, none⟩ = false := blk_fz (HS.out.at2) 1; have hc1013 : w1007.cell? ⟨g1006, 2, none⟩ = some (.int .i64 0) := blk_cellv (HS.out.at2) 2 rfl; have hz1014 : w1007.frozen? ⟨g1006, 2, none⟩ = false := blk_fz (HS.out.at2) 2) | ((with_reducible refine gate_store (t := 134) (p := 9) rfl ?_); refine store_event (w1 := (World.setCell (World.setCell (World.setCell w1007 ⟨g1006, 0, none⟩ (.int .i64 t1003.1)) ⟨g1006, 1, none⟩ (.int .i64 t1003.2.1)) ⟨g1006, 2, none⟩ (.int .i64 t1003.2.2.1))) rfl (t := 134) (p := 9) rfl rfl ?hr ?_; (case hr => first | (go_simp; done) | (go_simp; rfl)); intro w1015 hst; clear hc1009 hz1010 hc1011 hz1012 hc1013 hz1014; replace HS : Aside0 (Sep FF w [b9 g999, b10 g1001 a1002, b8 g1006 t1003.1 t1003.2.1 t1003.2.2.1] w1015) := ⟨by rw [hst]; exact HS.out.setAll (l1 := [b9 g999, b10 g1001 a1002]) (l2 := []) [.int .i64 t1003.1, .int .i64 t1003.2.1, .int .i64 t1003.2.2.1] rfl⟩; clear hst; replace HS : Aside0 (Sep FF w [b9 g999, b10 g1001 a1002] w1015) := ⟨HS.out.sub (.cons_cons _ (.cons_cons _ (.cons _ .slnil)))⟩))
      go_ret
      rw [← some_eq H]
      exact ⟨(by first | rfl | (simp [IntKind.wrap_u32]; done)), (((HS.out).front 1 (by simp)).front 1 (by simp)).keep (l := [b9 g999, b10 g1001 a1002]) (rest := [])⟩
    · have H := if_no c1017 H
      have c1017b0 : decide (a997 < 0) = false := decide_eq_false c1017
      clear c1017
      go_wp2_with (first | ((with_reducible refine gate_dst (N := 9) rfl ?_); refine box_on ?hg (N := 9) ?hd (cs := #[.int .i64 0, .int .i64 0, .int .i64 0]) (t := 134) ?hr ?_; (case hd => rfl); (case hg => rfl); (case hr => first | (go_simp; done) | (go_simp; rfl)); intro g1006 hg w1007 hbox hb; replace HS : Aside0 (Sep FF w [b9 g999, b10 g1001 a1002, b8 g1006 0 0 0] w1007) := ⟨HS.out.box hg hbox hb⟩; clear hg hbox hb; have hc1009 : w1007.cell? ⟨g1006, 0, none⟩ = some (.int .i64 0) := blk_cellv (HS.out.at2) 0 rfl; have hz1010 : w1007.frozen? ⟨g1006, 0, none⟩ = false := blk_fz (HS.out.at2) 0; have hc1011 : w1007.cell? ⟨g1006, 1, none⟩ = some (.int .i64 0) := blk_cellv (HS.out.at2) 1 rfl; have hz1012 : w1007.frozen? ⟨g1006, 1, none⟩ = false := blk_fz (HS.out.at2) 1; have hc1013 : w1007.cell? ⟨g1006, 2, none⟩ = some (.int .i64 0) := blk_cellv (HS.out.at2) 2 rfl; have hz1014 : w1007.frozen? ⟨g1006, 2, none⟩ = false := blk_fz (HS.out.at2) 2) | ((with_reducible refine gate_store (t := 134) (p := 9) rfl ?_); refine store_event (w1 := (World.setCell (World.setCell (World.setCell w1007 ⟨g1006, 0, none⟩ (.int .i64 t1003.1)) ⟨g1006, 1, none⟩ (.int .i64 t1003.2.1)) ⟨g1006, 2, none⟩ (.int .i64 t1003.2.2.1))) rfl (t := 134) (p := 9) rfl rfl ?hr ?_; (case hr => first | (go_simp; done) | (go_simp; rfl)); intro w1015 hst; clear hc1009 hz1010 hc1011 hz1012 hc1013 hz1014; replace HS : Aside0 (Sep FF w [b9 g999, b10 g1001 a1002, b8 g1006 t1003.1 t1003.2.1 t1003.2.2.1] w1015) := ⟨by rw [hst]; exact HS.out.setAll (l1 := [b9 g999, b10 g1001 a1002]) (l2 := []) [.int .i64 t1003.1, .int .i64 t1003.2.1, .int .i64 t1003.2.2.1] rfl⟩; clear hst))
      obtain ⟨t1018, HA1019, H⟩ := bind_some H
      refine (ground_Ground_Conf_nil.calls t1018 _ ⟨HS.out.begin (l := []) (rest := [b9 g999, b10 g1001 a1002, b8 g1006 t1003.1 t1003.2.1 t1003.2.2.1])⟩ HA1019).mono ?_
      rintro e_ w1020 ⟨rfl, hS⟩
      replace HS : Aside0 (Sep FF w [b9 g999, b10 g1001 a1002, b8 g1006 t1003.1 t1003.2.1 t1003.2.2.1] w1020) := ⟨HS.out.call (l := []) (rest := [b9 g999, b10 g1001 a1002, b8 g1006 t1003.1 t1003.2.1 t1003.2.2.1]) hS⟩
      clear hS
      by_cases c1022 : a997 ≥ t1018.1
      · have H := if_yes c1022 H
        have c1022b0 : decide (t1018.1 ≤ a997) = true := decide_eq_true c1022
        clear c1022
        have fl1021 : ∀ w, (Instr.field 49 (.agg #[.int .i64 t1018.1, .int .i64 t1018.2.1, .int .i64 t1018.2.2.1, .int .i64 t1018.2.2.2]) 0).run Try.prog w = .ok (.int .i64 t1018.1) w := fun _ => by kernel_rfl
        replace HS : Aside0 (Sep FF w [b9 g999, b10 g1001 a1002] w1020) := ⟨HS.out.sub (.cons_cons _ (.cons_cons _ (.cons _ .slnil)))⟩
        go_wp2_with fail
        clear fl1021
        go_ret
        rw [← some_eq H]
        exact ⟨(by first | rfl | (simp [IntKind.wrap_u32]; done)), (((HS.out).front 1 (by simp)).front 1 (by simp)).keep (l := [b9 g999, b10 g1001 a1002]) (rest := [])⟩
      · have H := if_no c1022 H
        have c1022b0 : decide (t1018.1 ≤ a997) = false := decide_eq_false c1022
        clear c1022
        have fl1021 : ∀ w, (Instr.field 49 (.agg #[.int .i64 t1018.1, .int .i64 t1018.2.1, .int .i64 t1018.2.2.1, .int .i64 t1018.2.2.2]) 0).run Try.prog w = .ok (.int .i64 t1018.1) w := fun _ => by kernel_rfl
        have hc1023 : w1020.cell? ⟨g1006, 2, none⟩ = some (.int .i64 t1003.2.2.1) := blk_cellv (HS.out.at2) 2 rfl
        go_wp2_with fail
        clear fl1021 hc1023
        obtain ⟨t1024, HA1025, H⟩ := bind_some H
        refine (ground_Ground_Reg_nil.calls t1003.2.2.1 t1024 _ ⟨HS.out.begin (l := []) (rest := [b9 g999, b10 g1001 a1002, b8 g1006 t1003.1 t1003.2.1 t1003.2.2.1])⟩ HA1025).mono ?_
        rintro e_ w1026 ⟨rfl, hS⟩
        replace HS : Aside0 (Sep FF w [b9 g999, b10 g1001 a1002, b8 g1006 t1003.1 t1003.2.1 t1003.2.2.1] w1026) := ⟨HS.out.call (l := []) (rest := [b9 g999, b10 g1001 a1002, b8 g1006 t1003.1 t1003.2.1 t1003.2.2.1]) hS⟩
        clear hS
        have hc1027 : w1026.cell? ⟨g1006, 0, none⟩ = some (.int .i64 t1003.1) := blk_cellv (HS.out.at2) 0 rfl
        have hc1028 : w1026.cell? ⟨g1006, 1, none⟩ = some (.int .i64 t1003.2.1) := blk_cellv (HS.out.at2) 1 rfl
        have hc1029 : w1026.cell? ⟨g1006, 2, none⟩ = some (.int .i64 t1003.2.2.1) := blk_cellv (HS.out.at2) 2 rfl
        go_wp2_with fail
        clear hc1027 hc1028 hc1029
        obtain ⟨t1062, HA1063, H⟩ := bind_some H
        refine (chain_Push_1.calls t1003.1 t1003.2.1 t1003.2.2.1 (wrap64 (a997 + 1)) t1024 a1002 g999 g1001 t1062 _ ⟨HS.out.begin (l := [b9 g999, b10 g1001 a1002]) (rest := [b8 g1006 t1003.1 t1003.2.1 t1003.2.2.1])⟩ HA1063).mono ?_
        rintro e_ w1064 ⟨rfl, hS⟩
        replace HS : Aside0 (Sep FF w [b9 g999, b10 g1001 a1002, b8 g1006 t1003.1 t1003.2.1 t1003.2.2.1] w1064) := ⟨HS.out.call (l := [b9 g999, b10 g1001 a1002]) (rest := [b8 g1006 t1003.1 t1003.2.1 t1003.2.2.1]) hS⟩
        clear hS
        have hc1065 : w1064.cell? ⟨g1006, 2, none⟩ = some (.int .i64 t1003.2.2.1) := blk_cellv (HS.out.at2) 2 rfl
        go_wp2_with fail
        clear hc1065
        obtain ⟨t1066, HA1067, H⟩ := bind_some H
        refine (ground_Ground_SetReg_nil.calls t1003.2.2.1 (wrap64 (t1024 + 1)) t1066 _ ⟨HS.out.begin (l := []) (rest := [b9 g999, b10 g1001 a1002, b8 g1006 t1003.1 t1003.2.1 t1003.2.2.1])⟩ HA1067).mono ?_
        rintro e_ w1068 ⟨rfl, hS⟩
        replace HS : Aside0 (Sep FF w [b9 g999, b10 g1001 a1002, b8 g1006 t1003.1 t1003.2.1 t1003.2.2.1] w1068) := ⟨HS.out.call (l := []) (rest := [b9 g999, b10 g1001 a1002, b8 g1006 t1003.1 t1003.2.1 t1003.2.2.1]) hS⟩
        clear hS
        replace HS : Aside0 (Sep FF w [b9 g999, b10 g1001 a1002] w1068) := ⟨HS.out.sub (.cons_cons _ (.cons_cons _ (.cons _ .slnil)))⟩
        go_wp2_with fail
        go_ret
        rw [← some_eq H]
        exact ⟨(by first | rfl | (simp [IntKind.wrap_u32]; done)), (((HS.out).front 1 (by simp)).front 1 (by simp)).keep (l := [b9 g999, b10 g1001 a1002]) (rest := [])⟩
  · have H := if_no c1016 H
    have c1016b0 : t1003.2.2.2 = false := by simpa using c1016
    have c1016b1 : (!t1003.2.2.2) = true := by rw [c1016b0]; rfl
    try rw [c1016b1]
    clear c1016
    go_wp2_with (first | ((with_reducible refine gate_dst (N := 9) rfl ?_); refine box_on ?hg (N := 9) ?hd (cs := #[.int .i64 0, .int .i64 0, .int .i64 0]) (t := 134) ?hr ?_; (case hd => rfl); (case hg => rfl); (case hr => first | (go_simp; done) | (go_simp; rfl)); intro g1006 hg w1007 hbox hb; replace HS : Aside0 (Sep FF w [b9 g999, b10 g1001 a1002, b8 g1006 0 0 0] w1007) := ⟨HS.out.box hg hbox hb⟩; clear hg hbox hb; have hc1009 : w1007.cell? ⟨g1006, 0, none⟩ = some (.int .i64 0) := blk_cellv (HS.out.at2) 0 rfl; have hz1010 : w1007.frozen? ⟨g1006, 0, none⟩ = false := blk_fz (HS.out.at2) 0; have hc1011 : w1007.cell? ⟨g1006, 1, none⟩ = some (.int .i64 0) := blk_cellv (HS.out.at2) 1 rfl; have hz1012 : w1007.frozen? ⟨g1006, 1, none⟩ = false := blk_fz (HS.out.at2) 1; have hc1013 : w1007.cell? ⟨g1006, 2, none⟩ = some (.int .i64 0) := blk_cellv (HS.out.at2) 2 rfl; have hz1014 : w1007.frozen? ⟨g1006, 2, none⟩ = false := blk_fz (HS.out.at2) 2) | ((with_reducible refine gate_store (t := 134) (p := 9) rfl ?_); refine store_event (w1 := (World.setCell (World.setCell (World.setCell w1007 ⟨g1006, 0, none⟩ (.int .i64 t1003.1)) ⟨g1006, 1, none⟩ (.int .i64 t1003.2.1)) ⟨g1006, 2, none⟩ (.int .i64 t1003.2.2.1))) rfl (t := 134) (p := 9) rfl rfl ?hr ?_; (case hr => first | (go_simp; done) | (go_simp; rfl)); intro w1015 hst; clear hc1009 hz1010 hc1011 hz1012 hc1013 hz1014; replace HS : Aside0 (Sep FF w [b9 g999, b10 g1001 a1002, b8 g1006 t1003.1 t1003.2.1 t1003.2.2.1] w1015) := ⟨by rw [hst]; exact HS.out.setAll (l1 := [b9 g999, b10 g1001 a1002]) (l2 := []) [.int .i64 t1003.1, .int .i64 t1003.2.1, .int .i64 t1003.2.2.1] rfl⟩; clear hst; replace HS : Aside0 (Sep FF w [b9 g999, b10 g1001 a1002] w1015) := ⟨HS.out.sub (.cons_cons _ (.cons_cons _ (.cons _ .slnil)))⟩))
    go_ret
    rw [← some_eq H]
    exact ⟨(by first | rfl | (simp [IntKind.wrap_u32]; done)), (((HS.out).front 1 (by simp)).front 1 (by simp)).keep (l := [b9 g999, b10 g1001 a1002]) (rest := [])⟩

set_option maxHeartbeats 30000000 in
set_option maxRecDepth 100000 in
theorem chain_Push_nil.calls (a986 : Int) (a987 : Int) (r : Bool) (w : World)   (HS : Aside0 (Sep (fps []) w [] w)) (H : Aside0 (chain_Push_nil.f a986 a987 = some r)) :
    Calls Try.prog 53 #[.pointer none, .int .i64 a986, .int .i64 a987] w fun e w' => e = .returned (.bool r) ∧ Sep (fps []) w [] w' := by
  unfold chain_Push_nil.f at H
  go_enter Try.func53, Try.ntmps53
  go_wp2_with (first | ((with_reducible refine gate_dst (N := 3) rfl ?_); refine box_on ?hg (N := 3) ?hd (cs := #[.pointer none]) (t := 50) ?hr ?_; (case hd => rfl); (case hg => rfl); (case hr => first | (go_simp; done) | (go_simp; rfl)); intro g988 hg w989 hbox hb; replace HS : Aside0 (Sep (fps []) w [b9 g988] w989) := ⟨HS.out.box hg hbox hb⟩; clear hg hbox hb) | ((with_reducible refine gate_dst (N := 5) rfl ?_); refine box_on ?hg (N := 5) ?hd (cs := #[.int .i64 a987]) (t := 3) ?hr ?_; (case hd => rfl); (case hg => rfl); (case hr => first | (go_simp; done) | (go_simp; rfl)); intro g991 hg w992 hbox hb; replace HS : Aside0 (Sep (fps []) w [b9 g988, b10 g991 a987] w992) := ⟨HS.out.box hg hbox hb⟩; clear hg hbox hb; have hc994 : w992.cell? ⟨g988, 0, none⟩ = some (.pointer none) := blk_cellv (HS.out.at0) 0 rfl; have hc995 : w992.cell? ⟨g991, 0, none⟩ = some (.int .i64 a987) := blk_cellv (HS.out.at1) 0 rfl))
  clear hc994 hc995
  obtain ⟨t1069, HA1070, H⟩ := bind_some H
  refine (chain_put_nil_F90.calls a986 a987 a987 g988 g991 t1069 _ ⟨HS.out.begin (l := [b9 g988, b10 g991 a987]) (rest := [])⟩ HA1070).mono ?_
  rintro e_ w1071 ⟨rfl, hS⟩
  replace HS : Aside0 (Sep (fps []) w [b9 g988, b10 g991 a987] w1071) := ⟨HS.out.call (l := [b9 g988, b10 g991 a987]) (rest := []) hS⟩
  clear hS
  replace HS : Aside0 (Sep (fps []) w [] w1071) := ⟨HS.out.sub (.cons _ (.cons _ .slnil))⟩
  go_wp2_with fail
  go_ret
  rw [← some_eq H]
  exact ⟨(by first | rfl | (simp [IntKind.wrap_u32]; done)), (HS.out).keep (l := []) (rest := [])⟩

set_option maxHeartbeats 30000000 in
set_option maxRecDepth 100000 in
theorem chain_Add_1.calls (a1120 : Int) (a1121 : Int) (a1122 : Int) (a1123 : Int) (a1124 : Int) (a1129 : Int) (g1126 : Nat) (g1128 : Nat) (r : Unit) (w : World)   (HS : Aside0 (Sep (fps [b9 g1126, b10 g1128 a1129]) w [b9 g1126, b10 g1128 a1129] w)) (H : Aside0 (chain_Add_1.f a1120 a1121 a1122 a1123 a1124 a1129 = some r)) :
    Calls Try.prog 89 #[.agg #[.int .i64 a1120, .int .i64 a1121, .int .i64 a1122], .int .i64 a1123, .int .i64 a1124, .pointer (some ⟨g1126, 0, none⟩), .pointer (some ⟨g1128, 0, none⟩)] w fun e w' => e = .returned (.tuple #[]) ∧ Sep (fps [b9 g1126, b10 g1128 a1129]) w [b9 g1126, b10 g1128 a1129] w' := by
  generalize (fps [b9 g1126, b10 g1128 a1129]) = FF at HS ⊢
  unfold chain_Add_1.f at H
  go_enter Try.func89, Try.ntmps89
  go_wp2_with (first | ((with_reducible refine gate_dst (N := 5) rfl ?_); refine box_on ?hg (N := 5) ?hd (cs := #[.int .i64 a1120, .int .i64 a1121, .int .i64 a1122]) (t := 134) ?hr ?_; (case hd => rfl); (case hg => rfl); (case hr => first | (go_simp; done) | (go_simp; rfl)); intro g1130 hg w1131 hbox hb; replace HS : Aside0 (Sep FF w [b9 g1126, b10 g1128 a1129, b8 g1130 a1120 a1121 a1122] w1131) := ⟨HS.out.box hg hbox hb⟩; clear hg hbox hb; have hc1133 : w1131.cell? ⟨g1126, 0, none⟩ = some (.pointer none) := blk_cellv (HS.out.at0) 0 rfl; have hc1134 : w1131.cell? ⟨g1128, 0, none⟩ = some (.int .i64 a1129) := blk_cellv (HS.out.at1) 0 rfl))
  clear hc1133 hc1134
  obtain ⟨t1135, HA1136, H⟩ := bind_some H
  refine (ground_Ground_SetWord_nil.calls a1129 5 0 t1135 _ ⟨HS.out.begin (l := []) (rest := [b9 g1126, b10 g1128 a1129, b8 g1130 a1120 a1121 a1122])⟩ HA1136).mono ?_
  rintro e_ w1137 ⟨rfl, hS⟩
  replace HS : Aside0 (Sep FF w [b9 g1126, b10 g1128 a1129, b8 g1130 a1120 a1121 a1122] w1137) := ⟨HS.out.call (l := []) (rest := [b9 g1126, b10 g1128 a1129, b8 g1130 a1120 a1121 a1122]) hS⟩
  clear hS
  by_cases c1138 : a1124 = 0
  · have H := if_yes c1138 H
    have c1138b0 : (a1124 == 0) = true := beq_iff_eq.mpr c1138
    have c1138b1 : (a1124 != 0) = false := bne_eq_false_iff_eq.mpr c1138
    clear c1138
    have hc1139 : w1137.cell? ⟨g1126, 0, none⟩ = some (.pointer none) := blk_cellv (HS.out.at0) 0 rfl
    have hc1140 : w1137.cell? ⟨g1130, 0, none⟩ = some (.int .i64 a1120) := blk_cellv (HS.out.at2) 0 rfl
    go_wp2_with fail
    clear hc1139 hc1140
    obtain ⟨t1141, HA1142, H⟩ := bind_some H
    refine (ground_Ground_SetReg_nil.calls a1120 a1123 t1141 _ ⟨HS.out.begin (l := []) (rest := [b9 g1126, b10 g1128 a1129, b8 g1130 a1120 a1121 a1122])⟩ HA1142).mono ?_
    rintro e_ w1143 ⟨rfl, hS⟩
    replace HS : Aside0 (Sep FF w [b9 g1126, b10 g1128 a1129, b8 g1130 a1120 a1121 a1122] w1143) := ⟨HS.out.call (l := []) (rest := [b9 g1126, b10 g1128 a1129, b8 g1130 a1120 a1121 a1122]) hS⟩
    clear hS
    have hc1144 : w1143.cell? ⟨g1126, 0, none⟩ = some (.pointer none) := blk_cellv (HS.out.at0) 0 rfl
    have hc1145 : w1143.cell? ⟨g1130, 1, none⟩ = some (.int .i64 a1121) := blk_cellv (HS.out.at2) 1 rfl
    go_wp2_with fail
    clear hc1144 hc1145
    obtain ⟨t1146, HA1147, H⟩ := bind_some H
    refine (ground_Ground_SetReg_nil.calls a1121 a1123 t1146 _ ⟨HS.out.begin (l := []) (rest := [b9 g1126, b10 g1128 a1129, b8 g1130 a1120 a1121 a1122])⟩ HA1147).mono ?_
    rintro e_ w1148 ⟨rfl, hS⟩
    replace HS : Aside0 (Sep FF w [b9 g1126, b10 g1128 a1129, b8 g1130 a1120 a1121 a1122] w1148) := ⟨HS.out.call (l := []) (rest := [b9 g1126, b10 g1128 a1129, b8 g1130 a1120 a1121 a1122]) hS⟩
    clear hS
    replace HS : Aside0 (Sep FF w [b9 g1126, b10 g1128 a1129] w1148) := ⟨HS.out.sub (.cons_cons _ (.cons_cons _ (.cons _ .slnil)))⟩
    go_wp2_with fail
    first | go_end0 | refine bodyPost_ret (results_none rfl _ _ _) rfl ?_
    clear H
    exact ⟨rfl, (((HS.out).front 1 (by simp)).front 1 (by simp)).keep (l := [b9 g1126, b10 g1128 a1129]) (rest := [])⟩
  · have H := if_no c1138 H
    have c1138b0 : (a1124 == 0) = false := beq_eq_false_iff_ne.mpr c1138
    have c1138b1 : (a1124 != 0) = true := bne_iff_ne.mpr c1138
    clear c1138
    go_wp2_with fail
    refine start_ (n := 9) (S := (fun w' => w'.cell? ⟨g1126, 0, none⟩ = some (.pointer none) ∧ w'.cell? ⟨g1130, 1, none⟩ = some (.int .i64 a1121))) (ds := []) #[false, false, false, false, false, false, false, false, false] (by kernel_rfl) rfl rfl (⟨blk_cellv ((HS.out.drew).at0) 0 rfl, blk_cellv ((HS.out.drew).at2) 1 rfl⟩) (fun hHeld => ?_)
    have HS_ := Aside0.mk HS.out.drew
    clear HS
    generalize World.drew _ = w1150 at HS_ hHeld ⊢
    have HS := HS_
    clear HS_
    refine pure_ (i := 2) (N := some 20) (v := ?_) (a' := ?_) #[false, false, true, false, false, false, false, false, false] rfl rfl (by kernel_rfl) (fun _ _ _ h => h) (Or.inl ⟨by rfl, ?_⟩) ?_ ?_
    rotate_left
    · intro w'
      go_simp
      with_reducible rfl
    rotate_left
    · simp only [Act.put, List.setIfInBounds_toArray, List.set_cons_zero, List.set_cons_succ, i64_w, i32_w]
      rfl
    refine pure_ (i := 6) (N := some 24) (v := ?_) (a' := ?_) #[false, false, true, false, false, false, true, false, false] rfl rfl (by kernel_rfl) (fun _ _ _ h => h) (Or.inl ⟨by rfl, ?_⟩) ?_ ?_
    rotate_left
    · intro w'
      go_simp
      with_reducible rfl
    rotate_left
    · simp only [Act.put, List.setIfInBounds_toArray, List.set_cons_zero, List.set_cons_succ, i64_w, i32_w]
      rfl
    refine pure_ (i := 7) (N := some 25) (v := ?_) (a' := ?_) #[false, false, true, false, false, false, true, true, false] rfl rfl (by kernel_rfl) (fun _ _ _ h => h) (Or.inl ⟨by rfl, ?_⟩) ?_ ?_
    rotate_left
    · intro w'
      go_simp
      with_reducible rfl
    rotate_left
    · simp only [Act.put, List.setIfInBounds_toArray, List.set_cons_zero, List.set_cons_succ, i64_w, i32_w]
      rfl
    refine take_ (i := 0) (N := some 18) (v := ?_) (a' := ?_) #[true, false, true, false, false, false, true, true, false] rfl rfl (by kernel_rfl) (fun _ _ _ h => h) (Or.inl ⟨by rfl, ?_⟩) hHeld ?_ ?_
    rotate_left
    · rintro w' hS'
      obtain ⟨s0, s1⟩ := hS'
      go_simp
      with_reducible rfl
    rotate_left
    · simp only [Act.put, List.setIfInBounds_toArray, List.set_cons_zero, List.set_cons_succ, i64_w, i32_w]
      rfl
    refine take_ (i := 1) (N := some 19) (v := ?_) (a' := ?_) #[true, true, true, false, false, false, true, true, false] rfl rfl (by kernel_rfl) (fun _ _ _ h => h) (Or.inl ⟨by rfl, ?_⟩) hHeld ?_ ?_
    rotate_left
    · rintro w' hS'
      obtain ⟨s0, s1⟩ := hS'
      go_simp
      with_reducible rfl
    rotate_left
    · simp only [Act.put, List.setIfInBounds_toArray, List.set_cons_zero, List.set_cons_succ, i64_w, i32_w]
      rfl
    refine take_ (i := 3) (N := some 21) (v := ?_) (a' := ?_) #[true, true, true, true, false, false, true, true, false] rfl rfl (by kernel_rfl) (fun _ _ _ h => h) (Or.inl ⟨by rfl, ?_⟩) hHeld ?_ ?_
    rotate_left
    · rintro w' hS'
      obtain ⟨s0, s1⟩ := hS'
      go_simp
      with_reducible rfl
    rotate_left
    · simp only [Act.put, List.setIfInBounds_toArray, List.set_cons_zero, List.set_cons_succ, i64_w, i32_w]
      rfl
    refine one_ (i := 4) (N := some 22) #[true, true, true, true, true, false, true, true, false] rfl rfl (by kernel_rfl) (by decide) (fun K hK => ?_)
    obtain ⟨t1151, HA1152, H⟩ := bind_some H
    refine goes_ Try.func36 (by kernel_rfl) rfl #[.pointer none, .int .i64 a1121] (by rfl) rfl rfl (by (try simp only [List.map_toArray, List.map_cons, List.map_nil]); first | done | rfl) ?_
    refine (ground_Ground_Reg_nil.calls a1121 t1151 _ ⟨HS.out.begin (l := []) (rest := [b9 g1126, b10 g1128 a1129, b8 g1130 a1120 a1121 a1122])⟩ HA1152).mono ?_
    rintro e_ w1153 ⟨rfl, hS⟩
    replace HS : Aside0 (Sep FF w [b9 g1126, b10 g1128 a1129, b8 g1130 a1120 a1121 a1122] w1153) := ⟨HS.out.call (l := []) (rest := [b9 g1126, b10 g1128 a1129, b8 g1130 a1120 a1121 a1122]) hS⟩
    clear hS
    refine ⟨_, rfl, ?_⟩
    refine hK.out _ _ (⟨blk_cellv (HS.out.at0) 0 rfl, blk_cellv (HS.out.at2) 1 rfl⟩) (fun hHeld => ?_)
    clear hK K
    refine norm_ (a' := ?_) ?_ ?_
    rotate_left
    · show Act.put _ (some 22) _ = _
      simp only [Act.put, List.setIfInBounds_toArray, List.set_cons_zero, List.set_cons_succ, i64_w, i32_w]
      rfl
    refine pure_ (i := 5) (N := some 23) (v := ?_) (a' := ?_) #[true, true, true, true, true, true, true, true, false] rfl rfl (by kernel_rfl) (fun _ _ _ h => h) (Or.inl ⟨by rfl, ?_⟩) ?_ ?_
    rotate_left
    · intro w'
      go_simp
      with_reducible rfl
    rotate_left
    · simp only [Act.put, List.setIfInBounds_toArray, List.set_cons_zero, List.set_cons_succ, i64_w, i32_w]
      rfl
    refine one_ (i := 8) (N := some 26) #[true, true, true, true, true, true, true, true, true] rfl rfl (by kernel_rfl) (by decide) (fun K hK => ?_)
    obtain ⟨t1154, HA1155, H⟩ := bind_some H
    refine goes_ Try.func46 (by kernel_rfl) rfl #[.pointer none, .int .i64 (wrap64 (t1151 - 1)), .int .i64 5, .int .u32 ((a1123) % 4294967296)] (by rfl) rfl rfl (by (try simp only [List.map_toArray, List.map_cons, List.map_nil]); first | done | rfl) ?_
    refine (ground_Ground_SetWord_nil.calls (wrap64 (t1151 - 1)) 5 ((a1123) % 4294967296) t1154 _ ⟨HS.out.begin (l := []) (rest := [b9 g1126, b10 g1128 a1129, b8 g1130 a1120 a1121 a1122])⟩ HA1155).mono ?_
    rintro e_ w1156 ⟨rfl, hS⟩
    replace HS : Aside0 (Sep FF w [b9 g1126, b10 g1128 a1129, b8 g1130 a1120 a1121 a1122] w1156) := ⟨HS.out.call (l := []) (rest := [b9 g1126, b10 g1128 a1129, b8 g1130 a1120 a1121 a1122]) hS⟩
    clear hS
    refine ⟨_, rfl, ?_⟩
    refine hK.out _ _ (⟨blk_cellv (HS.out.at0) 0 rfl, blk_cellv (HS.out.at2) 1 rfl⟩) (fun hHeld => ?_)
    clear hK K
    refine norm_ (a' := ?_) ?_ ?_
    rotate_left
    · show Act.put _ (some 26) _ = _
      simp only [Act.put, List.setIfInBounds_toArray, List.set_cons_zero, List.set_cons_succ, i64_w, i32_w]
      rfl
    refine done_ (by kernel_rfl) ?_
    have hc1157 : w1156.cell? ⟨g1126, 0, none⟩ = some (.pointer none) := blk_cellv (HS.out.at0) 0 rfl
    have hc1158 : w1156.cell? ⟨g1130, 1, none⟩ = some (.int .i64 a1121) := blk_cellv (HS.out.at2) 1 rfl
    go_wp2_with fail
    clear hc1157 hc1158
    obtain ⟨t1146, HA1159, H⟩ := bind_some H
    refine (ground_Ground_SetReg_nil.calls a1121 a1123 t1146 _ ⟨HS.out.begin (l := []) (rest := [b9 g1126, b10 g1128 a1129, b8 g1130 a1120 a1121 a1122])⟩ HA1159).mono ?_
    rintro e_ w1160 ⟨rfl, hS⟩
    replace HS : Aside0 (Sep FF w [b9 g1126, b10 g1128 a1129, b8 g1130 a1120 a1121 a1122] w1160) := ⟨HS.out.call (l := []) (rest := [b9 g1126, b10 g1128 a1129, b8 g1130 a1120 a1121 a1122]) hS⟩
    clear hS
    replace HS : Aside0 (Sep FF w [b9 g1126, b10 g1128 a1129] w1160) := ⟨HS.out.sub (.cons_cons _ (.cons_cons _ (.cons _ .slnil)))⟩
    go_wp2_with fail
    first | go_end0 | refine bodyPost_ret (results_none rfl _ _ _) rfl ?_
    clear H
    exact ⟨rfl, (((HS.out).front 1 (by simp)).front 1 (by simp)).keep (l := [b9 g1126, b10 g1128 a1129]) (rest := [])⟩

set_option maxHeartbeats 30000000 in
set_option maxRecDepth 100000 in
theorem chain_put_nil_F89.calls (a1086 : Int) (a1087 : Int) (a1092 : Int) (g1089 : Nat) (g1091 : Nat) (r : Bool) (w : World)   (HS : Aside0 (Sep (fps [b9 g1089, b10 g1091 a1092]) w [b9 g1089, b10 g1091 a1092] w)) (H : Aside0 (chain_put_nil_F89.f a1086 a1087 a1092 = some r)) :
    Calls Try.prog 88 #[.pointer none, .int .i64 a1086, .int .i64 a1087, .func (.func 89) #[] #[.pointer (some ⟨g1089, 0, none⟩), .pointer (some ⟨g1091, 0, none⟩)]] w fun e w' => e = .returned (.bool r) ∧ Sep (fps [b9 g1089, b10 g1091 a1092]) w [b9 g1089, b10 g1091 a1092] w' := by
  generalize (fps [b9 g1089, b10 g1091 a1092]) = FF at HS ⊢
  unfold chain_put_nil_F89.f at H
  go_enter Try.func88, Try.ntmps88
  go_wp2_with fail
  obtain ⟨t1093, HA1094, H⟩ := bind_some H
  refine (chain_of_nil.calls a1086 t1093 _ ⟨HS.out.begin (l := []) (rest := [b9 g1089, b10 g1091 a1092])⟩ HA1094).mono ?_
  rintro e_ w1095 ⟨rfl, hS⟩
  replace HS : Aside0 (Sep FF w [b9 g1089, b10 g1091 a1092] w1095) := ⟨HS.out.call (l := []) (rest := [b9 g1089, b10 g1091 a1092]) hS⟩
  clear hS
  by_cases c1106 : t1093.2.2.2 = true
  · have H := if_yes c1106 H
    have c1106b0 : t1093.2.2.2 = true := c1106
    have c1106b1 : (!t1093.2.2.2) = false := by rw [c1106b0]; rfl
    try rw [c1106b1]
    clear c1106
    by_cases c1107 : a1087 < 0
    · have H := if_yes c1107 H
      have c1107b0 : decide (a1087 < 0) = true := decide_eq_true c1107
      clear c1107
      go_wp2_with (first | ((with_reducible refine gate_dst (N := 9) rfl ?_); refine box_on ?hg (N := 9) ?hd (cs := #[.int .i64 0, .int .i64 0, .int .i64 0]) (t := 134) ?hr ?_; (case hd => rfl); (case hg => rfl); (case hr => first | (go_simp; done) | (go_simp; rfl)); intro g1096 hg w1097 hbox hb; replace HS : Aside0 (Sep FF w [b9 g1089, b10 g1091 a1092, b8 g1096 0 0 0] w1097) := ⟨HS.out.box hg hbox hb⟩; clear hg hbox hb; have hc1099 : w1097.cell? ⟨g1096, 0, none⟩ = some (.int .i64 0) := blk_cellv (HS.out.at2) 0 rfl; have hz1100 : w1097.frozen? ⟨g1096, 0, none⟩ = false := blk_fz (HS.out.at2) 0; have hc1101 : w1097.cell? ⟨g1096, 1, none⟩ = some (.int .i64 0) := blk_cellv (HS.out.at2) 1 rfl; have hz1102 : w1097.frozen? ⟨g1096, 1, none⟩ = false := blk_fz (HS.out.at2) 1; have hc1103 : w1097.cell? ⟨g1096, 2, none⟩ = some (.int .i64 0) := blk_cellv (HS.out.at2) 2 rfl; have hz1104 : w1097.frozen? ⟨g1096, 2, none⟩ = false := blk_fz (HS.out.at2) 2) | ((with_reducible refine gate_store (t := 134) (p := 9) rfl ?_); refine store_event (w1 := (World.setCell (World.setCell (World.setCell w1097 ⟨g1096, 0, none⟩ (.int .i64 t1093.1)) ⟨g1096, 1, none⟩ (.int .i64 t1093.2.1)) ⟨g1096, 2, none⟩ (.int .i64 t1093.2.2.1))) rfl (t := 134) (p := 9) rfl rfl ?hr ?_; (case hr => first | (go_simp; done) | (go_simp; rfl)); intro w1105 hst; clear hc1099 hz1100 hc1101 hz1102 hc1103 hz1104; replace HS : Aside0 (Sep FF w [b9 g1089, b10 g1091 a1092, b8 g1096 t1093.1 t1093.2.1 t1093.2.2.1] w1105) := ⟨by rw [hst]; exact HS.out.setAll (l1 := [b9 g1089, b10 g1091 a1092]) (l2 := []) [.int .i64 t1093.1, .int .i64 t1093.2.1, .int .i64 t1093.2.2.1] rfl⟩; clear hst; replace HS : Aside0 (Sep FF w [b9 g1089, b10 g1091 a1092] w1105) := ⟨HS.out.sub (.cons_cons _ (.cons_cons _ (.cons _ .slnil)))⟩))
      go_ret
      rw [← some_eq H]
      exact ⟨(by first | rfl | (simp [IntKind.wrap_u32]; done)), (((HS.out).front 1 (by simp)).front 1 (by simp)).keep (l := [b9 g1089, b10 g1091 a1092]) (rest := [])⟩
    · have H := if_no c1107 H
      have c1107b0 : decide (a1087 < 0) = false := decide_eq_false c1107
      clear c1107
      go_wp2_with (first | ((with_reducible refine gate_dst (N := 9) rfl ?_); refine box_on ?hg (N := 9) ?hd (cs := #[.int .i64 0, .int .i64 0, .int .i64 0]) (t := 134) ?hr ?_; (case hd => rfl); (case hg => rfl); (case hr => first | (go_simp; done) | (go_simp; rfl)); intro g1096 hg w1097 hbox hb; replace HS : Aside0 (Sep FF w [b9 g1089, b10 g1091 a1092, b8 g1096 0 0 0] w1097) := ⟨HS.out.box hg hbox hb⟩; clear hg hbox hb; have hc1099 : w1097.cell? ⟨g1096, 0, none⟩ = some (.int .i64 0) := blk_cellv (HS.out.at2) 0 rfl; have hz1100 : w1097.frozen? ⟨g1096, 0, none⟩ = false := blk_fz (HS.out.at2) 0; have hc1101 : w1097.cell? ⟨g1096, 1, none⟩ = some (.int .i64 0) := blk_cellv (HS.out.at2) 1 rfl; have hz1102 : w1097.frozen? ⟨g1096, 1, none⟩ = false := blk_fz (HS.out.at2) 1; have hc1103 : w1097.cell? ⟨g1096, 2, none⟩ = some (.int .i64 0) := blk_cellv (HS.out.at2) 2 rfl; have hz1104 : w1097.frozen? ⟨g1096, 2, none⟩ = false := blk_fz (HS.out.at2) 2) | ((with_reducible refine gate_store (t := 134) (p := 9) rfl ?_); refine store_event (w1 := (World.setCell (World.setCell (World.setCell w1097 ⟨g1096, 0, none⟩ (.int .i64 t1093.1)) ⟨g1096, 1, none⟩ (.int .i64 t1093.2.1)) ⟨g1096, 2, none⟩ (.int .i64 t1093.2.2.1))) rfl (t := 134) (p := 9) rfl rfl ?hr ?_; (case hr => first | (go_simp; done) | (go_simp; rfl)); intro w1105 hst; clear hc1099 hz1100 hc1101 hz1102 hc1103 hz1104; replace HS : Aside0 (Sep FF w [b9 g1089, b10 g1091 a1092, b8 g1096 t1093.1 t1093.2.1 t1093.2.2.1] w1105) := ⟨by rw [hst]; exact HS.out.setAll (l1 := [b9 g1089, b10 g1091 a1092]) (l2 := []) [.int .i64 t1093.1, .int .i64 t1093.2.1, .int .i64 t1093.2.2.1] rfl⟩; clear hst))
      obtain ⟨t1108, HA1109, H⟩ := bind_some H
      refine (ground_Ground_Conf_nil.calls t1108 _ ⟨HS.out.begin (l := []) (rest := [b9 g1089, b10 g1091 a1092, b8 g1096 t1093.1 t1093.2.1 t1093.2.2.1])⟩ HA1109).mono ?_
      rintro e_ w1110 ⟨rfl, hS⟩
      replace HS : Aside0 (Sep FF w [b9 g1089, b10 g1091 a1092, b8 g1096 t1093.1 t1093.2.1 t1093.2.2.1] w1110) := ⟨HS.out.call (l := []) (rest := [b9 g1089, b10 g1091 a1092, b8 g1096 t1093.1 t1093.2.1 t1093.2.2.1]) hS⟩
      clear hS
      by_cases c1112 : a1087 ≥ t1108.1
      · have H := if_yes c1112 H
        have c1112b0 : decide (t1108.1 ≤ a1087) = true := decide_eq_true c1112
        clear c1112
        have fl1111 : ∀ w, (Instr.field 49 (.agg #[.int .i64 t1108.1, .int .i64 t1108.2.1, .int .i64 t1108.2.2.1, .int .i64 t1108.2.2.2]) 0).run Try.prog w = .ok (.int .i64 t1108.1) w := fun _ => by kernel_rfl
        replace HS : Aside0 (Sep FF w [b9 g1089, b10 g1091 a1092] w1110) := ⟨HS.out.sub (.cons_cons _ (.cons_cons _ (.cons _ .slnil)))⟩
        go_wp2_with fail
        clear fl1111
        go_ret
        rw [← some_eq H]
        exact ⟨(by first | rfl | (simp [IntKind.wrap_u32]; done)), (((HS.out).front 1 (by simp)).front 1 (by simp)).keep (l := [b9 g1089, b10 g1091 a1092]) (rest := [])⟩
      · have H := if_no c1112 H
        have c1112b0 : decide (t1108.1 ≤ a1087) = false := decide_eq_false c1112
        clear c1112
        have fl1111 : ∀ w, (Instr.field 49 (.agg #[.int .i64 t1108.1, .int .i64 t1108.2.1, .int .i64 t1108.2.2.1, .int .i64 t1108.2.2.2]) 0).run Try.prog w = .ok (.int .i64 t1108.1) w := fun _ => by kernel_rfl
        have hc1113 : w1110.cell? ⟨g1096, 2, none⟩ = some (.int .i64 t1093.2.2.1) := blk_cellv (HS.out.at2) 2 rfl
        go_wp2_with fail
        clear fl1111 hc1113
        obtain ⟨t1114, HA1115, H⟩ := bind_some H
        refine (ground_Ground_Reg_nil.calls t1093.2.2.1 t1114 _ ⟨HS.out.begin (l := []) (rest := [b9 g1089, b10 g1091 a1092, b8 g1096 t1093.1 t1093.2.1 t1093.2.2.1])⟩ HA1115).mono ?_
        rintro e_ w1116 ⟨rfl, hS⟩
        replace HS : Aside0 (Sep FF w [b9 g1089, b10 g1091 a1092, b8 g1096 t1093.1 t1093.2.1 t1093.2.2.1] w1116) := ⟨HS.out.call (l := []) (rest := [b9 g1089, b10 g1091 a1092, b8 g1096 t1093.1 t1093.2.1 t1093.2.2.1]) hS⟩
        clear hS
        have hc1117 : w1116.cell? ⟨g1096, 0, none⟩ = some (.int .i64 t1093.1) := blk_cellv (HS.out.at2) 0 rfl
        have hc1118 : w1116.cell? ⟨g1096, 1, none⟩ = some (.int .i64 t1093.2.1) := blk_cellv (HS.out.at2) 1 rfl
        have hc1119 : w1116.cell? ⟨g1096, 2, none⟩ = some (.int .i64 t1093.2.2.1) := blk_cellv (HS.out.at2) 2 rfl
        go_wp2_with fail
        clear hc1117 hc1118 hc1119
        obtain ⟨t1161, HA1162, H⟩ := bind_some H
        refine (chain_Add_1.calls t1093.1 t1093.2.1 t1093.2.2.1 (wrap64 (a1087 + 1)) t1114 a1092 g1089 g1091 t1161 _ ⟨HS.out.begin (l := [b9 g1089, b10 g1091 a1092]) (rest := [b8 g1096 t1093.1 t1093.2.1 t1093.2.2.1])⟩ HA1162).mono ?_
        rintro e_ w1163 ⟨rfl, hS⟩
        replace HS : Aside0 (Sep FF w [b9 g1089, b10 g1091 a1092, b8 g1096 t1093.1 t1093.2.1 t1093.2.2.1] w1163) := ⟨HS.out.call (l := [b9 g1089, b10 g1091 a1092]) (rest := [b8 g1096 t1093.1 t1093.2.1 t1093.2.2.1]) hS⟩
        clear hS
        have hc1164 : w1163.cell? ⟨g1096, 2, none⟩ = some (.int .i64 t1093.2.2.1) := blk_cellv (HS.out.at2) 2 rfl
        go_wp2_with fail
        clear hc1164
        obtain ⟨t1165, HA1166, H⟩ := bind_some H
        refine (ground_Ground_SetReg_nil.calls t1093.2.2.1 (wrap64 (t1114 + 1)) t1165 _ ⟨HS.out.begin (l := []) (rest := [b9 g1089, b10 g1091 a1092, b8 g1096 t1093.1 t1093.2.1 t1093.2.2.1])⟩ HA1166).mono ?_
        rintro e_ w1167 ⟨rfl, hS⟩
        replace HS : Aside0 (Sep FF w [b9 g1089, b10 g1091 a1092, b8 g1096 t1093.1 t1093.2.1 t1093.2.2.1] w1167) := ⟨HS.out.call (l := []) (rest := [b9 g1089, b10 g1091 a1092, b8 g1096 t1093.1 t1093.2.1 t1093.2.2.1]) hS⟩
        clear hS
        replace HS : Aside0 (Sep FF w [b9 g1089, b10 g1091 a1092] w1167) := ⟨HS.out.sub (.cons_cons _ (.cons_cons _ (.cons _ .slnil)))⟩
        go_wp2_with fail
        go_ret
        rw [← some_eq H]
        exact ⟨(by first | rfl | (simp [IntKind.wrap_u32]; done)), (((HS.out).front 1 (by simp)).front 1 (by simp)).keep (l := [b9 g1089, b10 g1091 a1092]) (rest := [])⟩
  · have H := if_no c1106 H
    have c1106b0 : t1093.2.2.2 = false := by simpa using c1106
    have c1106b1 : (!t1093.2.2.2) = true := by rw [c1106b0]; rfl
    try rw [c1106b1]
    clear c1106
    go_wp2_with (first | ((with_reducible refine gate_dst (N := 9) rfl ?_); refine box_on ?hg (N := 9) ?hd (cs := #[.int .i64 0, .int .i64 0, .int .i64 0]) (t := 134) ?hr ?_; (case hd => rfl); (case hg => rfl); (case hr => first | (go_simp; done) | (go_simp; rfl)); intro g1096 hg w1097 hbox hb; replace HS : Aside0 (Sep FF w [b9 g1089, b10 g1091 a1092, b8 g1096 0 0 0] w1097) := ⟨HS.out.box hg hbox hb⟩; clear hg hbox hb; have hc1099 : w1097.cell? ⟨g1096, 0, none⟩ = some (.int .i64 0) := blk_cellv (HS.out.at2) 0 rfl; have hz1100 : w1097.frozen? ⟨g1096, 0, none⟩ = false := blk_fz (HS.out.at2) 0; have hc1101 : w1097.cell? ⟨g1096, 1, none⟩ = some (.int .i64 0) := blk_cellv (HS.out.at2) 1 rfl; have hz1102 : w1097.frozen? ⟨g1096, 1, none⟩ = false := blk_fz (HS.out.at2) 1; have hc1103 : w1097.cell? ⟨g1096, 2, none⟩ = some (.int .i64 0) := blk_cellv (HS.out.at2) 2 rfl; have hz1104 : w1097.frozen? ⟨g1096, 2, none⟩ = false := blk_fz (HS.out.at2) 2) | ((with_reducible refine gate_store (t := 134) (p := 9) rfl ?_); refine store_event (w1 := (World.setCell (World.setCell (World.setCell w1097 ⟨g1096, 0, none⟩ (.int .i64 t1093.1)) ⟨g1096, 1, none⟩ (.int .i64 t1093.2.1)) ⟨g1096, 2, none⟩ (.int .i64 t1093.2.2.1))) rfl (t := 134) (p := 9) rfl rfl ?hr ?_; (case hr => first | (go_simp; done) | (go_simp; rfl)); intro w1105 hst; clear hc1099 hz1100 hc1101 hz1102 hc1103 hz1104; replace HS : Aside0 (Sep FF w [b9 g1089, b10 g1091 a1092, b8 g1096 t1093.1 t1093.2.1 t1093.2.2.1] w1105) := ⟨by rw [hst]; exact HS.out.setAll (l1 := [b9 g1089, b10 g1091 a1092]) (l2 := []) [.int .i64 t1093.1, .int .i64 t1093.2.1, .int .i64 t1093.2.2.1] rfl⟩; clear hst; replace HS : Aside0 (Sep FF w [b9 g1089, b10 g1091 a1092] w1105) := ⟨HS.out.sub (.cons_cons _ (.cons_cons _ (.cons _ .slnil)))⟩))
    go_ret
    rw [← some_eq H]
    exact ⟨(by first | rfl | (simp [IntKind.wrap_u32]; done)), (((HS.out).front 1 (by simp)).front 1 (by simp)).keep (l := [b9 g1089, b10 g1091 a1092]) (rest := [])⟩

set_option maxHeartbeats 30000000 in
set_option maxRecDepth 100000 in
theorem chain_Add_nil.calls (a1076 : Int) (a1077 : Int) (r : Bool) (w : World)   (HS : Aside0 (Sep (fps []) w [] w)) (H : Aside0 (chain_Add_nil.f a1076 a1077 = some r)) :
    Calls Try.prog 52 #[.pointer none, .int .i64 a1076, .int .i64 a1077] w fun e w' => e = .returned (.bool r) ∧ Sep (fps []) w [] w' := by
  unfold chain_Add_nil.f at H
  go_enter Try.func52, Try.ntmps52
  go_wp2_with (first | ((with_reducible refine gate_dst (N := 3) rfl ?_); refine box_on ?hg (N := 3) ?hd (cs := #[.pointer none]) (t := 50) ?hr ?_; (case hd => rfl); (case hg => rfl); (case hr => first | (go_simp; done) | (go_simp; rfl)); intro g1078 hg w1079 hbox hb; replace HS : Aside0 (Sep (fps []) w [b9 g1078] w1079) := ⟨HS.out.box hg hbox hb⟩; clear hg hbox hb) | ((with_reducible refine gate_dst (N := 5) rfl ?_); refine box_on ?hg (N := 5) ?hd (cs := #[.int .i64 a1077]) (t := 3) ?hr ?_; (case hd => rfl); (case hg => rfl); (case hr => first | (go_simp; done) | (go_simp; rfl)); intro g1081 hg w1082 hbox hb; replace HS : Aside0 (Sep (fps []) w [b9 g1078, b10 g1081 a1077] w1082) := ⟨HS.out.box hg hbox hb⟩; clear hg hbox hb; have hc1084 : w1082.cell? ⟨g1078, 0, none⟩ = some (.pointer none) := blk_cellv (HS.out.at0) 0 rfl; have hc1085 : w1082.cell? ⟨g1081, 0, none⟩ = some (.int .i64 a1077) := blk_cellv (HS.out.at1) 0 rfl))
  clear hc1084 hc1085
  obtain ⟨t1168, HA1169, H⟩ := bind_some H
  refine (chain_put_nil_F89.calls a1076 a1077 a1077 g1078 g1081 t1168 _ ⟨HS.out.begin (l := [b9 g1078, b10 g1081 a1077]) (rest := [])⟩ HA1169).mono ?_
  rintro e_ w1170 ⟨rfl, hS⟩
  replace HS : Aside0 (Sep (fps []) w [b9 g1078, b10 g1081 a1077] w1170) := ⟨HS.out.call (l := [b9 g1078, b10 g1081 a1077]) (rest := []) hS⟩
  clear hS
  replace HS : Aside0 (Sep (fps []) w [] w1170) := ⟨HS.out.sub (.cons _ (.cons _ .slnil))⟩
  go_wp2_with fail
  go_ret
  rw [← some_eq H]
  exact ⟨(by first | rfl | (simp [IntKind.wrap_u32]; done)), (HS.out).keep (l := []) (rest := [])⟩

set_option maxHeartbeats 30000000 in
set_option maxRecDepth 100000 in
theorem chain_Len_nil.calls (a1179 : Int) (r : Int) (w : World)   (HS : Aside0 (Sep (fps []) w [] w)) (H : Aside0 (chain_Len_nil.f a1179 = some r)) :
    Calls Try.prog 55 #[.pointer none, .int .i64 a1179] w fun e w' => e = .returned (.int .i64 r) ∧ Sep (fps []) w [] w' := by
  unfold chain_Len_nil.f at H
  go_enter Try.func55, Try.ntmps55
  go_wp2_with fail
  obtain ⟨t1180, HA1181, H⟩ := bind_some H
  refine (chain_of_nil.calls a1179 t1180 _ ⟨HS.out.begin (l := []) (rest := [])⟩ HA1181).mono ?_
  rintro e_ w1182 ⟨rfl, hS⟩
  replace HS : Aside0 (Sep (fps []) w [] w1182) := ⟨HS.out.call (l := []) (rest := []) hS⟩
  clear hS
  by_cases c1193 : t1180.2.2.2 = true
  · have H := if_yes c1193 H
    have c1193b0 : t1180.2.2.2 = true := c1193
    have c1193b1 : (!t1180.2.2.2) = false := by rw [c1193b0]; rfl
    try rw [c1193b1]
    clear c1193
    go_wp2_with (first | ((with_reducible refine gate_dst (N := 5) rfl ?_); refine box_on ?hg (N := 5) ?hd (cs := #[.int .i64 0, .int .i64 0, .int .i64 0]) (t := 134) ?hr ?_; (case hd => rfl); (case hg => rfl); (case hr => first | (go_simp; done) | (go_simp; rfl)); intro g1183 hg w1184 hbox hb; replace HS : Aside0 (Sep (fps []) w [b8 g1183 0 0 0] w1184) := ⟨HS.out.box hg hbox hb⟩; clear hg hbox hb; have hc1186 : w1184.cell? ⟨g1183, 0, none⟩ = some (.int .i64 0) := blk_cellv (HS.out.at0) 0 rfl; have hz1187 : w1184.frozen? ⟨g1183, 0, none⟩ = false := blk_fz (HS.out.at0) 0; have hc1188 : w1184.cell? ⟨g1183, 1, none⟩ = some (.int .i64 0) := blk_cellv (HS.out.at0) 1 rfl; have hz1189 : w1184.frozen? ⟨g1183, 1, none⟩ = false := blk_fz (HS.out.at0) 1; have hc1190 : w1184.cell? ⟨g1183, 2, none⟩ = some (.int .i64 0) := blk_cellv (HS.out.at0) 2 rfl; have hz1191 : w1184.frozen? ⟨g1183, 2, none⟩ = false := blk_fz (HS.out.at0) 2) | ((with_reducible refine gate_store (t := 134) (p := 5) rfl ?_); refine store_event (w1 := (World.setCell (World.setCell (World.setCell w1184 ⟨g1183, 0, none⟩ (.int .i64 t1180.1)) ⟨g1183, 1, none⟩ (.int .i64 t1180.2.1)) ⟨g1183, 2, none⟩ (.int .i64 t1180.2.2.1))) rfl (t := 134) (p := 5) rfl rfl ?hr ?_; (case hr => first | (go_simp; done) | (go_simp; rfl)); intro w1192 hst; clear hc1186 hz1187 hc1188 hz1189 hc1190 hz1191; replace HS : Aside0 (Sep (fps []) w [b8 g1183 t1180.1 t1180.2.1 t1180.2.2.1] w1192) := ⟨by rw [hst]; exact HS.out.setAll (l1 := []) (l2 := []) [.int .i64 t1180.1, .int .i64 t1180.2.1, .int .i64 t1180.2.2.1] rfl⟩; clear hst; have hc1194 : w1192.cell? ⟨g1183, 2, none⟩ = some (.int .i64 t1180.2.2.1) := blk_cellv (HS.out.at0) 2 rfl))
    clear hc1194
    obtain ⟨t1195, HA1196, H⟩ := bind_some H
    refine (ground_Ground_Reg_nil.calls t1180.2.2.1 t1195 _ ⟨HS.out.begin (l := []) (rest := [b8 g1183 t1180.1 t1180.2.1 t1180.2.2.1])⟩ HA1196).mono ?_
    rintro e_ w1197 ⟨rfl, hS⟩
    replace HS : Aside0 (Sep (fps []) w [b8 g1183 t1180.1 t1180.2.1 t1180.2.2.1] w1197) := ⟨HS.out.call (l := []) (rest := [b8 g1183 t1180.1 t1180.2.1 t1180.2.2.1]) hS⟩
    clear hS
    replace HS : Aside0 (Sep (fps []) w [] w1197) := ⟨HS.out.sub (.cons _ .slnil)⟩
    go_wp2_with fail
    go_ret
    rw [← some_eq H]
    exact ⟨(by first | rfl | (simp [IntKind.wrap_u32]; done)), (HS.out).keep (l := []) (rest := [])⟩
  · have H := if_no c1193 H
    have c1193b0 : t1180.2.2.2 = false := by simpa using c1193
    have c1193b1 : (!t1180.2.2.2) = true := by rw [c1193b0]; rfl
    try rw [c1193b1]
    clear c1193
    go_wp2_with (first | ((with_reducible refine gate_dst (N := 5) rfl ?_); refine box_on ?hg (N := 5) ?hd (cs := #[.int .i64 0, .int .i64 0, .int .i64 0]) (t := 134) ?hr ?_; (case hd => rfl); (case hg => rfl); (case hr => first | (go_simp; done) | (go_simp; rfl)); intro g1183 hg w1184 hbox hb; replace HS : Aside0 (Sep (fps []) w [b8 g1183 0 0 0] w1184) := ⟨HS.out.box hg hbox hb⟩; clear hg hbox hb; have hc1186 : w1184.cell? ⟨g1183, 0, none⟩ = some (.int .i64 0) := blk_cellv (HS.out.at0) 0 rfl; have hz1187 : w1184.frozen? ⟨g1183, 0, none⟩ = false := blk_fz (HS.out.at0) 0; have hc1188 : w1184.cell? ⟨g1183, 1, none⟩ = some (.int .i64 0) := blk_cellv (HS.out.at0) 1 rfl; have hz1189 : w1184.frozen? ⟨g1183, 1, none⟩ = false := blk_fz (HS.out.at0) 1; have hc1190 : w1184.cell? ⟨g1183, 2, none⟩ = some (.int .i64 0) := blk_cellv (HS.out.at0) 2 rfl; have hz1191 : w1184.frozen? ⟨g1183, 2, none⟩ = false := blk_fz (HS.out.at0) 2) | ((with_reducible refine gate_store (t := 134) (p := 5) rfl ?_); refine store_event (w1 := (World.setCell (World.setCell (World.setCell w1184 ⟨g1183, 0, none⟩ (.int .i64 t1180.1)) ⟨g1183, 1, none⟩ (.int .i64 t1180.2.1)) ⟨g1183, 2, none⟩ (.int .i64 t1180.2.2.1))) rfl (t := 134) (p := 5) rfl rfl ?hr ?_; (case hr => first | (go_simp; done) | (go_simp; rfl)); intro w1192 hst; clear hc1186 hz1187 hc1188 hz1189 hc1190 hz1191; replace HS : Aside0 (Sep (fps []) w [b8 g1183 t1180.1 t1180.2.1 t1180.2.2.1] w1192) := ⟨by rw [hst]; exact HS.out.setAll (l1 := []) (l2 := []) [.int .i64 t1180.1, .int .i64 t1180.2.1, .int .i64 t1180.2.2.1] rfl⟩; clear hst; replace HS : Aside0 (Sep (fps []) w [] w1192) := ⟨HS.out.sub (.cons _ .slnil)⟩))
    go_ret
    rw [← some_eq H]
    exact ⟨(by first | rfl | (simp [IntKind.wrap_u32]; done)), (HS.out).keep (l := []) (rest := [])⟩

set_option maxHeartbeats 30000000 in
set_option maxRecDepth 100000 in
theorem store_Store_Peek_nil.calls (a1225 : Int) (r : Int) (w : World)   (HS : Aside0 (Sep (fps []) w [] w)) (H : Aside0 (store_Store_Peek_nil.f a1225 = some r)) :
    Calls Try.prog 20 #[.pointer none, .int .i64 a1225] w fun e w' => e = .returned (.int .u32 r) ∧ Sep (fps []) w [] w' := by
  unfold store_Store_Peek_nil.f at H
  go_enter Try.func20, Try.ntmps20
  go_wp2_with fail
  obtain ⟨t1226, HA1227, H⟩ := bind_some H
  refine (store_Store_has_nil.calls a1225 t1226 _ ⟨HS.out.begin (l := []) (rest := [])⟩ HA1227).mono ?_
  rintro e_ w1228 ⟨rfl, hS⟩
  replace HS : Aside0 (Sep (fps []) w [] w1228) := ⟨HS.out.call (l := []) (rest := []) hS⟩
  clear hS
  by_cases c1229 : t1226 = true
  · have H := if_yes c1229 H
    have c1229b0 : t1226 = true := c1229
    have c1229b1 : (!t1226) = false := by rw [c1229b0]; rfl
    try rw [c1229b1]
    clear c1229
    exact (none_no H).elim
  · have H := if_no c1229 H
    have c1229b0 : t1226 = false := by simpa using c1229
    have c1229b1 : (!t1226) = true := by rw [c1229b0]; rfl
    try rw [c1229b1]
    clear c1229
    go_wp2_with fail
    go_ret
    rw [← some_eq H]
    exact ⟨(by first | rfl | (simp [IntKind.wrap_u32]; done)), (HS.out).keep (l := []) (rest := [])⟩

set_option maxHeartbeats 30000000 in
set_option maxRecDepth 100000 in
theorem ground_Ground_SeeReg_nil.calls (a1218 : Int) (r : Int) (w : World)   (HS : Aside0 (Sep (fps []) w [] w)) (H : Aside0 (ground_Ground_SeeReg_nil.f a1218 = some r)) :
    Calls Try.prog 48 #[.pointer none, .int .i64 a1218] w fun e w' => e = .returned (.int .i64 r) ∧ Sep (fps []) w [] w' := by
  unfold ground_Ground_SeeReg_nil.f at H
  go_enter Try.func48, Try.ntmps48
  go_wp2_with fail
  obtain ⟨t1219, HA1220, H⟩ := bind_some H
  refine (ground_Ground_all_nil.calls t1219 _ ⟨HS.out.begin (l := []) (rest := [])⟩ HA1220).mono ?_
  rintro e_ w1221 ⟨rfl, hS⟩
  replace HS : Aside0 (Sep (fps []) w [] w1221) := ⟨HS.out.call (l := []) (rest := []) hS⟩
  clear hS
  go_wp2_with fail
  obtain ⟨t1222, HA1223, H⟩ := bind_some H
  refine (ground_reg.calls a1218 t1222 _ ⟨HS.out.begin (l := []) (rest := [])⟩ HA1223).mono ?_
  rintro e_ w1224 ⟨rfl, hS⟩
  replace HS : Aside0 (Sep (fps []) w [] w1224) := ⟨HS.out.call (l := []) (rest := []) hS⟩
  clear hS
  go_wp2_with fail
  obtain ⟨t1230, HA1231, H⟩ := bind_some H
  refine (store_Store_Peek_nil.calls t1222 t1230 _ ⟨HS.out.begin (l := []) (rest := [])⟩ HA1231).mono ?_
  rintro e_ w1232 ⟨rfl, hS⟩
  replace HS : Aside0 (Sep (fps []) w [] w1232) := ⟨HS.out.call (l := []) (rest := []) hS⟩
  clear hS
  go_wp2_with fail
  go_ret
  rw [← some_eq H]
  exact ⟨(by first | rfl | (simp [IntKind.wrap_u32]; done)), (HS.out).keep (l := []) (rest := [])⟩

set_option maxHeartbeats 30000000 in
set_option maxRecDepth 100000 in
theorem ground_Ground_SeeWord_nil.calls (a1265 : Int) (a1266 : Int) (r : Int) (w : World)   (HS : Aside0 (Sep (fps []) w [] w)) (H : Aside0 (ground_Ground_SeeWord_nil.f a1265 a1266 = some r)) :
    Calls Try.prog 50 #[.pointer none, .int .i64 a1265, .int .i64 a1266] w fun e w' => e = .returned (.int .u32 r) ∧ Sep (fps []) w [] w' := by
  unfold ground_Ground_SeeWord_nil.f at H
  go_enter Try.func50, Try.ntmps50
  go_wp2_with fail
  obtain ⟨t1267, HA1268, H⟩ := bind_some H
  refine (ground_Ground_all_nil.calls t1267 _ ⟨HS.out.begin (l := []) (rest := [])⟩ HA1268).mono ?_
  rintro e_ w1269 ⟨rfl, hS⟩
  replace HS : Aside0 (Sep (fps []) w [] w1269) := ⟨HS.out.call (l := []) (rest := []) hS⟩
  clear hS
  go_wp2_with fail
  obtain ⟨t1270, HA1271, H⟩ := bind_some H
  refine (ground_Ground_word_nil.calls a1265 a1266 t1270 _ ⟨HS.out.begin (l := []) (rest := [])⟩ HA1271).mono ?_
  rintro e_ w1272 ⟨rfl, hS⟩
  replace HS : Aside0 (Sep (fps []) w [] w1272) := ⟨HS.out.call (l := []) (rest := []) hS⟩
  clear hS
  go_wp2_with fail
  obtain ⟨t1273, HA1274, H⟩ := bind_some H
  refine (store_Store_Peek_nil.calls t1270 t1273 _ ⟨HS.out.begin (l := []) (rest := [])⟩ HA1274).mono ?_
  rintro e_ w1275 ⟨rfl, hS⟩
  replace HS : Aside0 (Sep (fps []) w [] w1275) := ⟨HS.out.call (l := []) (rest := []) hS⟩
  clear hS
  go_wp2_with fail
  go_ret
  rw [← some_eq H]
  exact ⟨(by first | rfl | (simp [IntKind.wrap_u32]; done)), (HS.out).keep (l := []) (rest := [])⟩

set_option maxHeartbeats 30000000 in
set_option maxRecDepth 100000 in
theorem chain_List_nil.calls (k : Nat) (a1202 : Int) (r : List Int) (w : World)   (HS : Aside0 (Sep (fps []) w [] w)) (H : Aside0 (chain_List_nil.f k a1202 = some r)) :
    Calls Try.prog 56 #[.pointer none, .int .i64 a1202] w fun e w' => ∃ (A1286 : Option Addr) (m1287 : Nat) (n1288 : Nat), e = .returned (.slice A1286 m1287 n1288) ∧ Sep (fps []) w [r11 A1286 m1287 n1288 r] w' := by
  unfold chain_List_nil.f at H
  go_enter Try.func56, Try.ntmps56
  go_wp2_with fail
  obtain ⟨t1203, HA1204, H⟩ := bind_some H
  refine (chain_of_nil.calls a1202 t1203 _ ⟨HS.out.begin (l := []) (rest := [])⟩ HA1204).mono ?_
  rintro e_ w1205 ⟨rfl, hS⟩
  replace HS : Aside0 (Sep (fps []) w [] w1205) := ⟨HS.out.call (l := []) (rest := []) hS⟩
  clear hS
  by_cases c1216 : t1203.2.2.2 = true
  · have H := if_yes c1216 H
    have c1216b0 : t1203.2.2.2 = true := c1216
    have c1216b1 : (!t1203.2.2.2) = false := by rw [c1216b0]; rfl
    try rw [c1216b1]
    clear c1216
    go_wp2_with (first | ((with_reducible refine gate_dst (N := 5) rfl ?_); refine box_on ?hg (N := 5) ?hd (cs := #[.int .i64 0, .int .i64 0, .int .i64 0]) (t := 134) ?hr ?_; (case hd => rfl); (case hg => rfl); (case hr => first | (go_simp; done) | (go_simp; rfl)); intro g1206 hg w1207 hbox hb; replace HS : Aside0 (Sep (fps []) w [b8 g1206 0 0 0] w1207) := ⟨HS.out.box hg hbox hb⟩; clear hg hbox hb; have hc1209 : w1207.cell? ⟨g1206, 0, none⟩ = some (.int .i64 0) := blk_cellv (HS.out.at0) 0 rfl; have hz1210 : w1207.frozen? ⟨g1206, 0, none⟩ = false := blk_fz (HS.out.at0) 0; have hc1211 : w1207.cell? ⟨g1206, 1, none⟩ = some (.int .i64 0) := blk_cellv (HS.out.at0) 1 rfl; have hz1212 : w1207.frozen? ⟨g1206, 1, none⟩ = false := blk_fz (HS.out.at0) 1; have hc1213 : w1207.cell? ⟨g1206, 2, none⟩ = some (.int .i64 0) := blk_cellv (HS.out.at0) 2 rfl; have hz1214 : w1207.frozen? ⟨g1206, 2, none⟩ = false := blk_fz (HS.out.at0) 2) | ((with_reducible refine gate_store (t := 134) (p := 5) rfl ?_); refine store_event (w1 := (World.setCell (World.setCell (World.setCell w1207 ⟨g1206, 0, none⟩ (.int .i64 t1203.1)) ⟨g1206, 1, none⟩ (.int .i64 t1203.2.1)) ⟨g1206, 2, none⟩ (.int .i64 t1203.2.2.1))) rfl (t := 134) (p := 5) rfl rfl ?hr ?_; (case hr => first | (go_simp; done) | (go_simp; rfl)); intro w1215 hst; clear hc1209 hz1210 hc1211 hz1212 hc1213 hz1214; replace HS : Aside0 (Sep (fps []) w [b8 g1206 t1203.1 t1203.2.1 t1203.2.2.1] w1215) := ⟨by rw [hst]; exact HS.out.setAll (l1 := []) (l2 := []) [.int .i64 t1203.1, .int .i64 t1203.2.1, .int .i64 t1203.2.2.1] rfl⟩; clear hst; have hc1217 : w1215.cell? ⟨g1206, 0, none⟩ = some (.int .i64 t1203.1) := blk_cellv (HS.out.at0) 0 rfl))
    clear hc1217
    obtain ⟨t1233, HA1234, H⟩ := bind_some H
    refine (ground_Ground_SeeReg_nil.calls t1203.1 t1233 _ ⟨HS.out.begin (l := []) (rest := [b8 g1206 t1203.1 t1203.2.1 t1203.2.2.1])⟩ HA1234).mono ?_
    rintro e_ w1235 ⟨rfl, hS⟩
    replace HS : Aside0 (Sep (fps []) w [b8 g1206 t1203.1 t1203.2.1 t1203.2.2.1] w1235) := ⟨HS.out.call (l := []) (rest := [b8 g1206 t1203.1 t1203.2.1 t1203.2.2.1]) hS⟩
    clear hS
    replace HS : Aside0 (Sep (fps []) w [] w1235) := ⟨HS.out.sub (.cons _ .slnil)⟩
    go_wp2_with fail
    replace HS : Aside0 (Sep (fps []) w [r11 none 0 0 []] w1235) := ⟨HS.out.nilrow 3 (Value.int .i64)⟩
    obtain ⟨o1237, AL1238, H⟩ := bind_some H
    go_loopg [7, 8] k (fun kq v7 v8 wc => ∃ (x1243 : Int) (x1244 : List Int) (A1245 : Option Addr) (m1246 : Nat) (n1247 : Nat), v7 = .slice A1245 m1246 n1247 ∧ v8 = .int .i64 x1243 ∧ Aside0 (chain_List_nil.lo0 kq x1243 x1244 = some o1237) ∧ Aside0 (Sep (fps []) w [r11 A1245 m1246 n1247 x1244] wc))
    case atStart => exact ⟨(t1233), (([] : List Int)), (none), (0), (0), (by first | rfl | (simp [IntKind.wrap_u32]; done)), (by first | rfl | (simp [IntKind.wrap_u32]; done)), AL1238, ⟨HS.out⟩⟩
    case round =>
      clear AL1238 HS
      obtain ⟨x1243, x1244, A1245, m1246, n1247, rfl, rfl, AL1238, HS⟩ := hrel
      obtain ⟨w1239, rfl⟩ : ∃ x : World, x = wr := ⟨_, rfl⟩
      obtain rfl := (row_len (HS.out.at0)).symm
      cases gk with
      | zero => exact absurd AL1238.out (by simp [chain_List_nil.lo0])
      | succ k1240 =>
        have AL0 := AL1238.out
        rw [chain_List_nil.lo0] at AL0
        clear AL1238
        have AL1238 := Aside0.mk AL0
        clear AL0
        by_cases c1249 : x1243 > 0
        · have AL1238 := if_yes c1249 AL1238
          have c1249b0 : decide (0 < x1243) = true := decide_eq_true c1249
          clear c1249
          go_wp2_with fail
          obtain ⟨t1250, HA1251, AL1238⟩ := bind_some AL1238
          refine (ground_Ground_Conf_nil.calls t1250 _ ⟨HS.out.begin (l := []) (rest := [r11 A1245 x1244.length n1247 x1244])⟩ HA1251).mono ?_
          rintro e_ w1252 ⟨rfl, hS⟩
          replace HS : Aside0 (Sep (fps []) w [r11 A1245 x1244.length n1247 x1244] w1252) := ⟨HS.out.call (l := []) (rest := [r11 A1245 x1244.length n1247 x1244]) hS⟩
          clear hS
          by_cases c1254 : (x1244.length : Int) < t1250.1
          · have AL1238 := if_yes c1254 AL1238
            have c1254b0 : decide ((x1244.length : Int) < t1250.1) = true := decide_eq_true c1254
            clear c1254
            by_cases c1258 : x1244.length < 17592186044416
            · have AL1238 := if_yes c1258 AL1238
              have c1258b0 : decide (x1244.length < 17592186044416) = true := decide_eq_true c1258
              clear c1258
              obtain ⟨y1262, HA1263, AL1238⟩ := bind_some AL1238
              have fl1253 : ∀ w, (Instr.field 49 (.agg #[.int .i64 t1250.1, .int .i64 t1250.2.1, .int .i64 t1250.2.2.1, .int .i64 t1250.2.2.2]) 0).run Try.prog w = .ok (.int .i64 t1250.1) w := fun _ => by kernel_rfl
              go_wp2_with (first | ((with_reducible refine gate_dst (N := 39) rfl ?_); refine slice_on (n := 1) ?hg (N := 39) ?hd (cs := #[.int .i64 (wrap64 (x1243 - 1))]) (t := 3) ?hr ?_; (case hd => rfl); (case hg => rfl); (case hr => first | (go_simp; done) | (go_simp; rfl)); intro g1255 hg w1256 hbox hb; clear fl1253; replace HS : Aside0 (Sep (fps []) w [r11 A1245 x1244.length n1247 x1244, b10 g1255 (wrap64 (x1243 - 1))] w1256) := ⟨HS.out.box hg hbox hb⟩; clear hg hbox hb) | ((with_reducible refine gate_dst (N := 40) rfl ?_); refine append_event (l1 := []) (l2 := [b10 g1255 (wrap64 (x1243 - 1))]) rfl (.tmp 36) (.tmp 39) 78 3 (.int .i64 0) 8 rfl Try.underlying78 (by kernel_rfl) rfl (by decide) (Value.int .i64) (fun _ => rfl) (.slice A1245 x1244.length n1247) (x1244 : List Int) [wrap64 (x1243 - 1)] ⟨g1255, 0, none⟩ 1 rfl rfl (blk_news (xs := [wrap64 (x1243 - 1)]) (HS.out.at1)) HS.out (by have := of_decide_eq_true c1258b0; simp only [List.length_cons, List.length_nil]; omega) HA1263 ?_; intro A1259 n1260 w1261 HS1; replace HS : Aside0 (Sep (fps []) w [r11 A1259 y1262.length n1260 y1262, b10 g1255 (wrap64 (x1243 - 1))] w1261) := ⟨HS1⟩; clear HS1; replace HS : Aside0 (Sep (fps []) w [r11 A1259 y1262.length n1260 y1262] w1261) := ⟨HS.out.sub (.cons_cons _ (.cons _ .slnil))⟩))
              obtain ⟨t1276, HA1277, AL1238⟩ := bind_some AL1238
              refine (ground_Ground_SeeWord_nil.calls (wrap64 (x1243 - 1)) 5 t1276 _ ⟨HS.out.begin (l := []) (rest := [r11 A1259 y1262.length n1260 y1262])⟩ HA1277).mono ?_
              rintro e_ w1278 ⟨rfl, hS⟩
              replace HS : Aside0 (Sep (fps []) w [r11 A1259 y1262.length n1260 y1262] w1278) := ⟨HS.out.call (l := []) (rest := [r11 A1259 y1262.length n1260 y1262]) hS⟩
              clear hS
              go_wp2_with fail
              go_roundg k1240
              case measure => exact Nat.lt_succ_self _
              case rel => exact ⟨(wrap64 (t1276)), (y1262), (A1259), (y1262.length), (n1260), (by first | rfl | (simp [IntKind.wrap_u32]; done)), (by first | rfl | (simp [IntKind.wrap_u32]; done)), Aside0.mk AL1238.out, ⟨(HS.out).keep (l := [r11 A1259 y1262.length n1260 y1262]) (rest := [])⟩⟩
            · have AL1238 := if_no c1258 AL1238
              have c1258b0 : decide (x1244.length < 17592186044416) = false := decide_eq_false c1258
              clear c1258
              exact (none_no AL1238).elim
          · have AL1238 := if_no c1254 AL1238
            have c1254b0 : decide ((x1244.length : Int) < t1250.1) = false := decide_eq_false c1254
            clear c1254
            have ho := some_eq AL1238
            subst ho
            clear AL1238
            have fl1253 : ∀ w, (Instr.field 49 (.agg #[.int .i64 t1250.1, .int .i64 t1250.2.1, .int .i64 t1250.2.2.1, .int .i64 t1250.2.2.2]) 0).run Try.prog w = .ok (.int .i64 t1250.1) w := fun _ => by kernel_rfl
            go_wp2_with fail
            clear fl1253
            go_ret
            rw [← some_eq H]
            exact ⟨A1245, x1244.length, n1247, (by first | rfl | (simp [IntKind.wrap_u32]; done)), (HS.out).keep (l := [r11 A1245 x1244.length n1247 x1244]) (rest := [])⟩
        · have AL1238 := if_no c1249 AL1238
          have c1249b0 : decide (0 < x1243) = false := decide_eq_false c1249
          clear c1249
          have ho := some_eq AL1238
          subst ho
          clear AL1238
          go_wp2_with fail
          go_ret
          rw [← some_eq H]
          exact ⟨A1245, x1244.length, n1247, (by first | rfl | (simp [IntKind.wrap_u32]; done)), (HS.out).keep (l := [r11 A1245 x1244.length n1247 x1244]) (rest := [])⟩
  · have H := if_no c1216 H
    have c1216b0 : t1203.2.2.2 = false := by simpa using c1216
    have c1216b1 : (!t1203.2.2.2) = true := by rw [c1216b0]; rfl
    try rw [c1216b1]
    clear c1216
    go_wp2_with (first | ((with_reducible refine gate_dst (N := 5) rfl ?_); refine box_on ?hg (N := 5) ?hd (cs := #[.int .i64 0, .int .i64 0, .int .i64 0]) (t := 134) ?hr ?_; (case hd => rfl); (case hg => rfl); (case hr => first | (go_simp; done) | (go_simp; rfl)); intro g1206 hg w1207 hbox hb; replace HS : Aside0 (Sep (fps []) w [b8 g1206 0 0 0] w1207) := ⟨HS.out.box hg hbox hb⟩; clear hg hbox hb; have hc1209 : w1207.cell? ⟨g1206, 0, none⟩ = some (.int .i64 0) := blk_cellv (HS.out.at0) 0 rfl; have hz1210 : w1207.frozen? ⟨g1206, 0, none⟩ = false := blk_fz (HS.out.at0) 0; have hc1211 : w1207.cell? ⟨g1206, 1, none⟩ = some (.int .i64 0) := blk_cellv (HS.out.at0) 1 rfl; have hz1212 : w1207.frozen? ⟨g1206, 1, none⟩ = false := blk_fz (HS.out.at0) 1; have hc1213 : w1207.cell? ⟨g1206, 2, none⟩ = some (.int .i64 0) := blk_cellv (HS.out.at0) 2 rfl; have hz1214 : w1207.frozen? ⟨g1206, 2, none⟩ = false := blk_fz (HS.out.at0) 2) | ((with_reducible refine gate_store (t := 134) (p := 5) rfl ?_); refine store_event (w1 := (World.setCell (World.setCell (World.setCell w1207 ⟨g1206, 0, none⟩ (.int .i64 t1203.1)) ⟨g1206, 1, none⟩ (.int .i64 t1203.2.1)) ⟨g1206, 2, none⟩ (.int .i64 t1203.2.2.1))) rfl (t := 134) (p := 5) rfl rfl ?hr ?_; (case hr => first | (go_simp; done) | (go_simp; rfl)); intro w1215 hst; clear hc1209 hz1210 hc1211 hz1212 hc1213 hz1214; replace HS : Aside0 (Sep (fps []) w [b8 g1206 t1203.1 t1203.2.1 t1203.2.2.1] w1215) := ⟨by rw [hst]; exact HS.out.setAll (l1 := []) (l2 := []) [.int .i64 t1203.1, .int .i64 t1203.2.1, .int .i64 t1203.2.2.1] rfl⟩; clear hst; replace HS : Aside0 (Sep (fps []) w [] w1215) := ⟨HS.out.sub (.cons _ .slnil)⟩))
    replace HS : Aside0 (Sep (fps []) w [r11 none 0 0 []] w1215) := ⟨HS.out.nilrow 3 (Value.int .i64)⟩
    go_ret
    rw [← some_eq H]
    exact ⟨none, 0, 0, (by first | rfl | (simp [IntKind.wrap_u32]; done)), (HS.out).keep (l := [r11 none 0 0 []]) (rest := [])⟩

set_option maxHeartbeats 30000000 in
set_option maxRecDepth 100000 in
theorem chain_of.calls (l1368 : List Int) (a1373 : Int) (a1374 : Int) (a1375 : Int) (a1376 : Int) (a1377 : Int) (a1378 : Int) (g1364 : Nat) (g1366 : Nat) (A1369 : Option Addr) (m1370 : Nat) (n1371 : Nat) (r : Int × Int × Int × Bool) (w : World)   (HS : Aside0 (Sep (fps [b7 g1364 g1366 a1374 a1375 a1376 a1377, b6 g1366 A1369 m1370 n1371 a1373, r5 A1369 m1370 n1371 l1368]) w [b7 g1364 g1366 a1374 a1375 a1376 a1377, b6 g1366 A1369 m1370 n1371 a1373, r5 A1369 m1370 n1371 l1368] w)) (H : Aside0 (chain_of.f l1368 a1373 a1374 a1375 a1376 a1377 a1378 = some r)) :
    Calls Try.prog 91 #[.pointer (some ⟨g1364, 0, none⟩), .int .i64 a1378] w fun e w' => e = .returned (.tuple #[.agg #[.int .i64 r.1, .int .i64 r.2.1, .int .i64 r.2.2.1], .bool r.2.2.2]) ∧ Sep (fps [b7 g1364 g1366 a1374 a1375 a1376 a1377, b6 g1366 A1369 m1370 n1371 a1373, r5 A1369 m1370 n1371 l1368]) w [b7 g1364 g1366 a1374 a1375 a1376 a1377, b6 g1366 A1369 m1370 n1371 a1373, r5 A1369 m1370 n1371 l1368] w' := by
  generalize (fps [b7 g1364 g1366 a1374 a1375 a1376 a1377, b6 g1366 A1369 m1370 n1371 a1373, r5 A1369 m1370 n1371 l1368]) = FF at HS ⊢
  obtain rfl := (row_len (HS.out.at2)).symm
  unfold chain_of.f at H
  go_enter Try.func91, Try.ntmps91
  by_cases c1382 : a1378 < 0
  · have H := if_yes c1382 H
    have c1382b0 : decide (a1378 < 0) = true := decide_eq_true c1382
    clear c1382
    go_wp2_with (first | ((with_reducible refine gate_dst (N := 4) rfl ?_); refine box_on ?hg (N := 4) ?hd (cs := #[.int .i64 0, .int .i64 0, .int .i64 0]) (t := 134) ?hr ?_; (case hd => rfl); (case hg => rfl); (case hr => first | (go_simp; done) | (go_simp; rfl)); intro g1379 hg w1380 hbox hb; replace HS : Aside0 (Sep FF w [b7 g1364 g1366 a1374 a1375 a1376 a1377, b6 g1366 A1369 l1368.length n1371 a1373, r5 A1369 l1368.length n1371 l1368, b8 g1379 0 0 0] w1380) := ⟨HS.out.box hg hbox hb⟩; clear hg hbox hb; have hc1383 : w1380.cell? ⟨g1379, 0, none⟩ = some (.int .i64 0) := blk_cellv (HS.out.at3) 0 rfl; have hz1384 : w1380.frozen? ⟨g1379, 0, none⟩ = false := blk_fz (HS.out.at3) 0; have hc1385 : w1380.cell? ⟨g1379, 1, none⟩ = some (.int .i64 0) := blk_cellv (HS.out.at3) 1 rfl; have hz1386 : w1380.frozen? ⟨g1379, 1, none⟩ = false := blk_fz (HS.out.at3) 1; have hc1387 : w1380.cell? ⟨g1379, 2, none⟩ = some (.int .i64 0) := blk_cellv (HS.out.at3) 2 rfl; have hz1388 : w1380.frozen? ⟨g1379, 2, none⟩ = false := blk_fz (HS.out.at3) 2) | ((with_reducible refine gate_store (t := 134) (p := 4) rfl ?_); refine store_event (w1 := (World.setCell (World.setCell (World.setCell w1380 ⟨g1379, 0, none⟩ (.int .i64 0)) ⟨g1379, 1, none⟩ (.int .i64 0)) ⟨g1379, 2, none⟩ (.int .i64 0))) rfl (t := 134) (p := 4) rfl rfl ?hr ?_; (case hr => first | (go_simp; done) | (go_simp; rfl)); intro w1389 hst; clear hc1383 hz1384 hc1385 hz1386 hc1387 hz1388; replace HS : Aside0 (Sep FF w [b7 g1364 g1366 a1374 a1375 a1376 a1377, b6 g1366 A1369 l1368.length n1371 a1373, r5 A1369 l1368.length n1371 l1368, b8 g1379 0 0 0] w1389) := ⟨by rw [hst]; exact HS.out.setAll (l1 := [b7 g1364 g1366 a1374 a1375 a1376 a1377, b6 g1366 A1369 l1368.length n1371 a1373, r5 A1369 l1368.length n1371 l1368]) (l2 := []) [.int .i64 0, .int .i64 0, .int .i64 0] rfl⟩; clear hst))
    have hc1390 : w1389.cell? ⟨g1379, 0, none⟩ = some (.int .i64 0) := blk_cellv (HS.out.at3) 0 rfl
    have hc1391 : w1389.cell? ⟨g1379, 1, none⟩ = some (.int .i64 0) := blk_cellv (HS.out.at3) 1 rfl
    have hc1392 : w1389.cell? ⟨g1379, 2, none⟩ = some (.int .i64 0) := blk_cellv (HS.out.at3) 2 rfl
    refine bodyPost_ret (v := .tuple #[.agg #[.int .i64 0, .int .i64 0, .int .i64 0], .bool false]) (by simp [results, Try.results91, go_sem, hc1390, hc1391, hc1392]) rfl ?_
    rw [← some_eq H]
    exact ⟨(by first | rfl | (simp [IntKind.wrap_u32]; done)), ((((HS.out).front 2 (by simp)).front 2 (by simp)).front 2 (by simp)).keep (l := [b7 g1364 g1366 a1374 a1375 a1376 a1377, b6 g1366 A1369 l1368.length n1371 a1373, r5 A1369 l1368.length n1371 l1368]) (rest := [b8 g1379 0 0 0])⟩
  · have H := if_no c1382 H
    have c1382b0 : decide (a1378 < 0) = false := decide_eq_false c1382
    clear c1382
    by_cases c1393 : a1378 > 1
    · have H := if_yes c1393 H
      have c1393b0 : decide (1 < a1378) = true := decide_eq_true c1393
      clear c1393
      go_wp2_with (first | ((with_reducible refine gate_dst (N := 4) rfl ?_); refine box_on ?hg (N := 4) ?hd (cs := #[.int .i64 0, .int .i64 0, .int .i64 0]) (t := 134) ?hr ?_; (case hd => rfl); (case hg => rfl); (case hr => first | (go_simp; done) | (go_simp; rfl)); intro g1379 hg w1380 hbox hb; replace HS : Aside0 (Sep FF w [b7 g1364 g1366 a1374 a1375 a1376 a1377, b6 g1366 A1369 l1368.length n1371 a1373, r5 A1369 l1368.length n1371 l1368, b8 g1379 0 0 0] w1380) := ⟨HS.out.box hg hbox hb⟩; clear hg hbox hb; have hc1394 : w1380.cell? ⟨g1379, 0, none⟩ = some (.int .i64 0) := blk_cellv (HS.out.at3) 0 rfl; have hz1395 : w1380.frozen? ⟨g1379, 0, none⟩ = false := blk_fz (HS.out.at3) 0; have hc1396 : w1380.cell? ⟨g1379, 1, none⟩ = some (.int .i64 0) := blk_cellv (HS.out.at3) 1 rfl; have hz1397 : w1380.frozen? ⟨g1379, 1, none⟩ = false := blk_fz (HS.out.at3) 1; have hc1398 : w1380.cell? ⟨g1379, 2, none⟩ = some (.int .i64 0) := blk_cellv (HS.out.at3) 2 rfl; have hz1399 : w1380.frozen? ⟨g1379, 2, none⟩ = false := blk_fz (HS.out.at3) 2) | ((with_reducible refine gate_store (t := 134) (p := 4) rfl ?_); refine store_event (w1 := (World.setCell (World.setCell (World.setCell w1380 ⟨g1379, 0, none⟩ (.int .i64 0)) ⟨g1379, 1, none⟩ (.int .i64 0)) ⟨g1379, 2, none⟩ (.int .i64 0))) rfl (t := 134) (p := 4) rfl rfl ?hr ?_; (case hr => first | (go_simp; done) | (go_simp; rfl)); intro w1400 hst; clear hc1394 hz1395 hc1396 hz1397 hc1398 hz1399; replace HS : Aside0 (Sep FF w [b7 g1364 g1366 a1374 a1375 a1376 a1377, b6 g1366 A1369 l1368.length n1371 a1373, r5 A1369 l1368.length n1371 l1368, b8 g1379 0 0 0] w1400) := ⟨by rw [hst]; exact HS.out.setAll (l1 := [b7 g1364 g1366 a1374 a1375 a1376 a1377, b6 g1366 A1369 l1368.length n1371 a1373, r5 A1369 l1368.length n1371 l1368]) (l2 := []) [.int .i64 0, .int .i64 0, .int .i64 0] rfl⟩; clear hst))
      have hc1401 : w1400.cell? ⟨g1379, 0, none⟩ = some (.int .i64 0) := blk_cellv (HS.out.at3) 0 rfl
      have hc1402 : w1400.cell? ⟨g1379, 1, none⟩ = some (.int .i64 0) := blk_cellv (HS.out.at3) 1 rfl
      have hc1403 : w1400.cell? ⟨g1379, 2, none⟩ = some (.int .i64 0) := blk_cellv (HS.out.at3) 2 rfl
      refine bodyPost_ret (v := .tuple #[.agg #[.int .i64 0, .int .i64 0, .int .i64 0], .bool false]) (by simp [results, Try.results91, go_sem, hc1401, hc1402, hc1403]) rfl ?_
      rw [← some_eq H]
      exact ⟨(by first | rfl | (simp [IntKind.wrap_u32]; done)), ((((HS.out).front 2 (by simp)).front 2 (by simp)).front 2 (by simp)).keep (l := [b7 g1364 g1366 a1374 a1375 a1376 a1377, b6 g1366 A1369 l1368.length n1371 a1373, r5 A1369 l1368.length n1371 l1368]) (rest := [b8 g1379 0 0 0])⟩
    · have H := if_no c1393 H
      have c1393b0 : decide (1 < a1378) = false := decide_eq_false c1393
      clear c1393
      go_wp2_with (first | ((with_reducible refine gate_dst (N := 4) rfl ?_); refine box_on ?hg (N := 4) ?hd (cs := #[.int .i64 0, .int .i64 0, .int .i64 0]) (t := 134) ?hr ?_; (case hd => rfl); (case hg => rfl); (case hr => first | (go_simp; done) | (go_simp; rfl)); intro g1379 hg w1380 hbox hb; replace HS : Aside0 (Sep FF w [b7 g1364 g1366 a1374 a1375 a1376 a1377, b6 g1366 A1369 l1368.length n1371 a1373, r5 A1369 l1368.length n1371 l1368, b8 g1379 0 0 0] w1380) := ⟨HS.out.box hg hbox hb⟩; clear hg hbox hb; have hc1404 : w1380.cell? ⟨g1379, 0, none⟩ = some (.int .i64 0) := blk_cellv (HS.out.at3) 0 rfl; have hz1405 : w1380.frozen? ⟨g1379, 0, none⟩ = false := blk_fz (HS.out.at3) 0; have hc1406 : w1380.cell? ⟨g1379, 1, none⟩ = some (.int .i64 0) := blk_cellv (HS.out.at3) 1 rfl; have hz1407 : w1380.frozen? ⟨g1379, 1, none⟩ = false := blk_fz (HS.out.at3) 1; have hc1408 : w1380.cell? ⟨g1379, 2, none⟩ = some (.int .i64 0) := blk_cellv (HS.out.at3) 2 rfl; have hz1409 : w1380.frozen? ⟨g1379, 2, none⟩ = false := blk_fz (HS.out.at3) 2) | ((with_reducible refine gate_store (t := 134) (p := 4) rfl ?_); refine store_event (w1 := (World.setCell (World.setCell (World.setCell w1380 ⟨g1379, 0, none⟩ (.int .i64 (wrap64 (3 * a1378)))) ⟨g1379, 1, none⟩ (.int .i64 (wrap64 ((wrap64 (3 * a1378)) + 1)))) ⟨g1379, 2, none⟩ (.int .i64 (wrap64 ((wrap64 (3 * a1378)) + 2))))) rfl (t := 134) (p := 4) rfl rfl ?hr ?_; (case hr => first | (go_simp; done) | (go_simp; rfl)); intro w1410 hst; clear hc1404 hz1405 hc1406 hz1407 hc1408 hz1409; replace HS : Aside0 (Sep FF w [b7 g1364 g1366 a1374 a1375 a1376 a1377, b6 g1366 A1369 l1368.length n1371 a1373, r5 A1369 l1368.length n1371 l1368, b8 g1379 (wrap64 (3 * a1378)) (wrap64 ((wrap64 (3 * a1378)) + 1)) (wrap64 ((wrap64 (3 * a1378)) + 2))] w1410) := ⟨by rw [hst]; exact HS.out.setAll (l1 := [b7 g1364 g1366 a1374 a1375 a1376 a1377, b6 g1366 A1369 l1368.length n1371 a1373, r5 A1369 l1368.length n1371 l1368]) (l2 := []) [.int .i64 (wrap64 (3 * a1378)), .int .i64 (wrap64 ((wrap64 (3 * a1378)) + 1)), .int .i64 (wrap64 ((wrap64 (3 * a1378)) + 2))] rfl⟩; clear hst))
      have hc1411 : w1410.cell? ⟨g1379, 0, none⟩ = some (.int .i64 (wrap64 (3 * a1378))) := blk_cellv (HS.out.at3) 0 rfl
      have hc1412 : w1410.cell? ⟨g1379, 1, none⟩ = some (.int .i64 (wrap64 ((wrap64 (3 * a1378)) + 1))) := blk_cellv (HS.out.at3) 1 rfl
      have hc1413 : w1410.cell? ⟨g1379, 2, none⟩ = some (.int .i64 (wrap64 ((wrap64 (3 * a1378)) + 2))) := blk_cellv (HS.out.at3) 2 rfl
      refine bodyPost_ret (v := .tuple #[.agg #[.int .i64 (wrap64 (3 * a1378)), .int .i64 (wrap64 ((wrap64 (3 * a1378)) + 1)), .int .i64 (wrap64 ((wrap64 (3 * a1378)) + 2))], .bool true]) (by simp [results, Try.results91, go_sem, hc1411, hc1412, hc1413]) rfl ?_
      rw [← some_eq H]
      exact ⟨(by first | rfl | (simp [IntKind.wrap_u32]; done)), ((((HS.out).front 2 (by simp)).front 2 (by simp)).front 2 (by simp)).keep (l := [b7 g1364 g1366 a1374 a1375 a1376 a1377, b6 g1366 A1369 l1368.length n1371 a1373, r5 A1369 l1368.length n1371 l1368]) (rest := [b8 g1379 (wrap64 (3 * a1378)) (wrap64 ((wrap64 (3 * a1378)) + 1)) (wrap64 ((wrap64 (3 * a1378)) + 2))])⟩

set_option maxHeartbeats 30000000 in
set_option maxRecDepth 100000 in
theorem ground_Ground_Conf.calls (l1434 : List Int) (a1439 : Int) (a1440 : Int) (a1441 : Int) (a1442 : Int) (a1443 : Int) (g1430 : Nat) (g1432 : Nat) (A1435 : Option Addr) (m1436 : Nat) (n1437 : Nat) (r : Int × Int × Int × Int) (w : World)   (HS : Aside0 (Sep (fps [b7 g1430 g1432 a1440 a1441 a1442 a1443, b6 g1432 A1435 m1436 n1437 a1439, r5 A1435 m1436 n1437 l1434]) w [b7 g1430 g1432 a1440 a1441 a1442 a1443, b6 g1432 A1435 m1436 n1437 a1439, r5 A1435 m1436 n1437 l1434] w)) (H : Aside0 (ground_Ground_Conf.f l1434 a1439 a1440 a1441 a1442 a1443 = some r)) :
    Calls Try.prog 39 #[.pointer (some ⟨g1430, 0, none⟩)] w fun e w' => e = .returned (.agg #[.int .i64 r.1, .int .i64 r.2.1, .int .i64 r.2.2.1, .int .i64 r.2.2.2]) ∧ Sep (fps [b7 g1430 g1432 a1440 a1441 a1442 a1443, b6 g1432 A1435 m1436 n1437 a1439, r5 A1435 m1436 n1437 l1434]) w [b7 g1430 g1432 a1440 a1441 a1442 a1443, b6 g1432 A1435 m1436 n1437 a1439, r5 A1435 m1436 n1437 l1434] w' := by
  generalize (fps [b7 g1430 g1432 a1440 a1441 a1442 a1443, b6 g1432 A1435 m1436 n1437 a1439, r5 A1435 m1436 n1437 l1434]) = FF at HS ⊢
  obtain rfl := (row_len (HS.out.at2)).symm
  unfold ground_Ground_Conf.f at H
  go_enter Try.func39, Try.ntmps39
  go_wp2_with (first | ((with_reducible refine gate_dst (N := 2) rfl ?_); refine box_on ?hg (N := 2) ?hd (cs := #[.int .i64 0, .int .i64 0, .int .i64 0, .int .i64 0]) (t := 49) ?hr ?_; (case hd => rfl); (case hg => rfl); (case hr => first | (go_simp; done) | (go_simp; rfl)); intro g1444 hg w1445 hbox hb; replace HS : Aside0 (Sep FF w [b7 g1430 g1432 a1440 a1441 a1442 a1443, b6 g1432 A1435 l1434.length n1437 a1439, r5 A1435 l1434.length n1437 l1434, b1 g1444 0 0 0 0] w1445) := ⟨HS.out.box hg hbox hb⟩; clear hg hbox hb; have hc1447 : w1445.cell? ⟨g1430, 1, none⟩ = some (.int .i64 a1440) := blk_cellv (HS.out.at0) 1 rfl; have hc1448 : w1445.cell? ⟨g1430, 2, none⟩ = some (.int .i64 a1441) := blk_cellv (HS.out.at0) 2 rfl; have hc1449 : w1445.cell? ⟨g1430, 3, none⟩ = some (.int .i64 a1442) := blk_cellv (HS.out.at0) 3 rfl; have hc1450 : w1445.cell? ⟨g1430, 4, none⟩ = some (.int .i64 a1443) := blk_cellv (HS.out.at0) 4 rfl; have hc1451 : w1445.cell? ⟨g1444, 0, none⟩ = some (.int .i64 0) := blk_cellv (HS.out.at3) 0 rfl; have hz1452 : w1445.frozen? ⟨g1444, 0, none⟩ = false := blk_fz (HS.out.at3) 0; have hc1453 : w1445.cell? ⟨g1444, 1, none⟩ = some (.int .i64 0) := blk_cellv (HS.out.at3) 1 rfl; have hz1454 : w1445.frozen? ⟨g1444, 1, none⟩ = false := blk_fz (HS.out.at3) 1; have hc1455 : w1445.cell? ⟨g1444, 2, none⟩ = some (.int .i64 0) := blk_cellv (HS.out.at3) 2 rfl; have hz1456 : w1445.frozen? ⟨g1444, 2, none⟩ = false := blk_fz (HS.out.at3) 2; have hc1457 : w1445.cell? ⟨g1444, 3, none⟩ = some (.int .i64 0) := blk_cellv (HS.out.at3) 3 rfl; have hz1458 : w1445.frozen? ⟨g1444, 3, none⟩ = false := blk_fz (HS.out.at3) 3) | ((with_reducible refine gate_store (t := 49) (p := 2) rfl ?_); refine store_event (w1 := (World.setCell (World.setCell (World.setCell (World.setCell w1445 ⟨g1444, 0, none⟩ (.int .i64 a1440)) ⟨g1444, 1, none⟩ (.int .i64 a1441)) ⟨g1444, 2, none⟩ (.int .i64 a1442)) ⟨g1444, 3, none⟩ (.int .i64 a1443))) rfl (t := 49) (p := 2) rfl rfl ?hr ?_; (case hr => first | (go_simp; done) | (go_simp; rfl)); intro w1459 hst; clear hc1447 hc1448 hc1449 hc1450 hc1451 hz1452 hc1453 hz1454 hc1455 hz1456 hc1457 hz1458; replace HS : Aside0 (Sep FF w [b7 g1430 g1432 a1440 a1441 a1442 a1443, b6 g1432 A1435 l1434.length n1437 a1439, r5 A1435 l1434.length n1437 l1434, b1 g1444 a1440 a1441 a1442 a1443] w1459) := ⟨by rw [hst]; exact HS.out.setAll (l1 := [b7 g1430 g1432 a1440 a1441 a1442 a1443, b6 g1432 A1435 l1434.length n1437 a1439, r5 A1435 l1434.length n1437 l1434]) (l2 := []) [.int .i64 a1440, .int .i64 a1441, .int .i64 a1442, .int .i64 a1443] rfl⟩; clear hst))
  have hc1460 : w1459.cell? ⟨g1444, 0, none⟩ = some (.int .i64 a1440) := blk_cellv (HS.out.at3) 0 rfl
  have hc1461 : w1459.cell? ⟨g1444, 1, none⟩ = some (.int .i64 a1441) := blk_cellv (HS.out.at3) 1 rfl
  have hc1462 : w1459.cell? ⟨g1444, 2, none⟩ = some (.int .i64 a1442) := blk_cellv (HS.out.at3) 2 rfl
  have hc1463 : w1459.cell? ⟨g1444, 3, none⟩ = some (.int .i64 a1443) := blk_cellv (HS.out.at3) 3 rfl
  refine bodyPost_ret (v := .agg #[.int .i64 a1440, .int .i64 a1441, .int .i64 a1442, .int .i64 a1443]) (by simp [results, Try.results39, go_sem, hc1460, hc1461, hc1462, hc1463]) rfl ?_
  rw [← some_eq H]
  exact ⟨(by first | rfl | (simp [IntKind.wrap_u32]; done)), ((((HS.out).front 2 (by simp)).front 2 (by simp)).front 2 (by simp)).keep (l := [b7 g1430 g1432 a1440 a1441 a1442 a1443, b6 g1432 A1435 l1434.length n1437 a1439, r5 A1435 l1434.length n1437 l1434]) (rest := [b1 g1444 a1440 a1441 a1442 a1443])⟩

set_option maxHeartbeats 30000000 in
set_option maxRecDepth 100000 in
theorem ground_Ground_all.calls (l1491 : List Int) (a1496 : Int) (a1497 : Int) (a1498 : Int) (a1499 : Int) (a1500 : Int) (g1487 : Nat) (g1489 : Nat) (A1492 : Option Addr) (m1493 : Nat) (n1494 : Nat) (r : Unit) (w : World)   (HS : Aside0 (Sep (fps [b7 g1487 g1489 a1497 a1498 a1499 a1500, b6 g1489 A1492 m1493 n1494 a1496, r5 A1492 m1493 n1494 l1491]) w [b7 g1487 g1489 a1497 a1498 a1499 a1500, b6 g1489 A1492 m1493 n1494 a1496, r5 A1492 m1493 n1494 l1491] w)) (H : Aside0 (ground_Ground_all.f l1491 a1496 a1497 a1498 a1499 a1500 = some r)) :
    Calls Try.prog 77 #[.pointer (some ⟨g1487, 0, none⟩)] w fun e w' => e = .returned (.pointer (some ⟨g1489, 0, none⟩)) ∧ Sep (fps [b7 g1487 g1489 a1497 a1498 a1499 a1500, b6 g1489 A1492 m1493 n1494 a1496, r5 A1492 m1493 n1494 l1491]) w [b7 g1487 g1489 a1497 a1498 a1499 a1500, b6 g1489 A1492 m1493 n1494 a1496, r5 A1492 m1493 n1494 l1491] w' := by
  generalize (fps [b7 g1487 g1489 a1497 a1498 a1499 a1500, b6 g1489 A1492 m1493 n1494 a1496, r5 A1492 m1493 n1494 l1491]) = FF at HS ⊢
  obtain rfl := (row_len (HS.out.at2)).symm
  unfold ground_Ground_all.f at H
  go_enter Try.func77, Try.ntmps77
  have hc1501 : w.cell? ⟨g1487, 0, none⟩ = some (.pointer (some ⟨g1489, 0, none⟩)) := blk_cellv (HS.out.at0) 0 rfl
  go_wp2_with fail
  clear hc1501
  go_ret
  clear H
  exact ⟨(by first | rfl | (simp [IntKind.wrap_u32]; done)), ((((HS.out).front 2 (by simp)).front 2 (by simp)).front 2 (by simp)).keep (l := [b7 g1487 g1489 a1497 a1498 a1499 a1500, b6 g1489 A1492 l1491.length n1494 a1496, r5 A1492 l1491.length n1494 l1491]) (rest := [])⟩

set_option maxHeartbeats 30000000 in
set_option maxRecDepth 100000 in
theorem store_Store_has.calls (l1521 : List Int) (a1526 : Int) (a1527 : Int) (g1519 : Nat) (A1522 : Option Addr) (m1523 : Nat) (n1524 : Nat) (r : Bool) (w : World)   (HS : Aside0 (Sep (fps [b6 g1519 A1522 m1523 n1524 a1526, r5 A1522 m1523 n1524 l1521]) w [b6 g1519 A1522 m1523 n1524 a1526, r5 A1522 m1523 n1524 l1521] w)) (H : Aside0 (store_Store_has.f l1521 a1526 a1527 = some r)) :
    Calls Try.prog 69 #[.pointer (some ⟨g1519, 0, none⟩), .int .i64 a1527] w fun e w' => e = .returned (.bool r) ∧ Sep (fps [b6 g1519 A1522 m1523 n1524 a1526, r5 A1522 m1523 n1524 l1521]) w [b6 g1519 A1522 m1523 n1524 a1526, r5 A1522 m1523 n1524 l1521] w' := by
  generalize (fps [b6 g1519 A1522 m1523 n1524 a1526, r5 A1522 m1523 n1524 l1521]) = FF at HS ⊢
  obtain rfl := (row_len (HS.out.at1)).symm
  unfold store_Store_has.f at H
  go_enter Try.func69, Try.ntmps69
  by_cases c1528 : a1527 ≥ 0
  · have H := if_yes c1528 H
    have c1528b0 : decide (0 ≤ a1527) = true := decide_eq_true c1528
    clear c1528
    have hc1529 : w.cell? ⟨g1519, 0, none⟩ = some (.slice A1522 l1521.length n1524) := blk_cellv (HS.out.at0) 0 rfl
    go_wp2_with fail
    clear hc1529
    go_ret
    rw [← some_eq H]
    exact ⟨(by first | rfl | (simp [IntKind.wrap_u32]; done)), (((HS.out).front 1 (by simp)).front 1 (by simp)).keep (l := [b6 g1519 A1522 l1521.length n1524 a1526, r5 A1522 l1521.length n1524 l1521]) (rest := [])⟩
  · have H := if_no c1528 H
    have c1528b0 : decide (0 ≤ a1527) = false := decide_eq_false c1528
    clear c1528
    go_wp2_with fail
    go_ret
    rw [← some_eq H]
    exact ⟨(by first | rfl | (simp [IntKind.wrap_u32]; done)), (((HS.out).front 1 (by simp)).front 1 (by simp)).keep (l := [b6 g1519 A1522 l1521.length n1524 a1526, r5 A1522 l1521.length n1524 l1521]) (rest := [])⟩

set_option maxHeartbeats 30000000 in
set_option maxRecDepth 100000 in
theorem atomic_Uint64_Add.calls (l1537 : List Int) (a1542 : Int) (a1543 : Int) (g1535 : Nat) (A1538 : Option Addr) (m1539 : Nat) (n1540 : Nat) (r : Int × Int) (w : World)   (HS : Aside0 (Sep (fps [b6 g1535 A1538 m1539 n1540 a1542, r5 A1538 m1539 n1540 l1537]) w [b6 g1535 A1538 m1539 n1540 a1542, r5 A1538 m1539 n1540 l1537] w)) (H : Aside0 (atomic_Uint64_Add.f l1537 a1542 a1543 = some r)) :
    Calls Try.prog 71 #[.pointer (some ⟨g1535, 1, none⟩), .int .u64 a1543] w fun e w' => e = .returned (.int .u64 r.1) ∧ Sep (fps [b6 g1535 A1538 m1539 n1540 a1542, r5 A1538 m1539 n1540 l1537]) w [b6 g1535 A1538 m1539 n1540 r.2, r5 A1538 m1539 n1540 l1537] w' := by
  generalize (fps [b6 g1535 A1538 m1539 n1540 a1542, r5 A1538 m1539 n1540 l1537]) = FF at HS ⊢
  obtain rfl := (row_len (HS.out.at1)).symm
  unfold atomic_Uint64_Add.f at H
  go_enter Try.func71, Try.ntmps71
  obtain ⟨y1553, HA1554, H⟩ := bind_some H
  have hc1550 : w.cell? ⟨g1535, 1, none⟩ = some (.int .u64 a1542) := blk_cellv (HS.out.at0) 1 rfl
  have hz1552 : w.frozen? ⟨g1535, 1, none⟩ = false := blk_fz (HS.out.at0) 1
  have hn1551 : (callFunc 104 #[.pointer (some ⟨g1535, 1, none⟩), .int .u64 a1543]).run Try.prog w = .ok (.value (.int .u64 y1553)) ((World.setCell w ⟨g1535, 1, none⟩ (.int .u64 y1553))) := (some_eq HA1554) ▸ run_call_add Try.func104 (by kernel_rfl) (by kernel_rfl) (by kernel_rfl) .u64 (by kernel_rfl) hc1550 hz1552 (by rfl)
  go_wp2_with (first | ((with_reducible refine gate_dst (N := 9) rfl ?_); refine run_on2 (by rfl) (w1 := (World.setCell w ⟨g1535, 1, none⟩ (.int .u64 y1553))) (v := .int .u64 y1553) ?hr ?_; (case hr => first | (go_simp; done) | (go_simp; rfl)); intro w1555 hst; clear hc1550 hz1552; have hq0 : Sep FF w [b6 g1535 A1538 l1537.length n1540 y1553, r5 A1538 l1537.length n1540 l1537] (World.setCell w ⟨g1535, 1, none⟩ (.int .u64 y1553)) := (HS.out).set1 (l1 := []) (l2 := [r5 A1538 l1537.length n1540 l1537]) 1 (.int .u64 y1553); replace HS : Aside0 (Sep FF w [b6 g1535 A1538 l1537.length n1540 y1553, r5 A1538 l1537.length n1540 l1537] w1555) := ⟨by rw [hst]; exact hq0⟩; clear hst hn1551 hq0))
  go_ret
  rw [← some_eq H]
  exact ⟨(by first | rfl | (simp [IntKind.wrap_u32]; done)), (((HS.out).front 1 (by simp)).front 1 (by simp)).keep (l := [b6 g1535 A1538 l1537.length n1540 y1553, r5 A1538 l1537.length n1540 l1537]) (rest := [])⟩

set_option maxHeartbeats 30000000 in
set_option maxRecDepth 100000 in
theorem store_Store_Get.calls (l1511 : List Int) (a1516 : Int) (a1517 : Int) (g1509 : Nat) (A1512 : Option Addr) (m1513 : Nat) (n1514 : Nat) (r : Int × Int) (w : World)   (HS : Aside0 (Sep (fps [b6 g1509 A1512 m1513 n1514 a1516, r5 A1512 m1513 n1514 l1511]) w [b6 g1509 A1512 m1513 n1514 a1516, r5 A1512 m1513 n1514 l1511] w)) (H : Aside0 (store_Store_Get.f l1511 a1516 a1517 = some r)) :
    Calls Try.prog 25 #[.pointer (some ⟨g1509, 0, none⟩), .int .i64 a1517] w fun e w' => e = .returned (.int .u32 r.1) ∧ Sep (fps [b6 g1509 A1512 m1513 n1514 a1516, r5 A1512 m1513 n1514 l1511]) w [b6 g1509 A1512 m1513 n1514 r.2, r5 A1512 m1513 n1514 l1511] w' := by
  generalize (fps [b6 g1509 A1512 m1513 n1514 a1516, r5 A1512 m1513 n1514 l1511]) = FF at HS ⊢
  obtain rfl := (row_len (HS.out.at1)).symm
  unfold store_Store_Get.f at H
  go_enter Try.func25, Try.ntmps25
  go_wp2_with fail
  obtain ⟨t1565, HA1566, H⟩ := bind_some H
  refine (store_Store_has.calls l1511 a1516 a1517 g1509 A1512 l1511.length n1514 t1565 _ ⟨HS.out.begin (l := [b6 g1509 A1512 l1511.length n1514 a1516, r5 A1512 l1511.length n1514 l1511]) (rest := [])⟩ HA1566).mono ?_
  rintro e_ w1567 ⟨rfl, hS⟩
  replace HS : Aside0 (Sep FF w [b6 g1509 A1512 l1511.length n1514 a1516, r5 A1512 l1511.length n1514 l1511] w1567) := ⟨HS.out.call (l := [b6 g1509 A1512 l1511.length n1514 a1516, r5 A1512 l1511.length n1514 l1511]) (rest := []) hS⟩
  clear hS
  by_cases c1568 : t1565 = true
  · have H := if_yes c1568 H
    have c1568b0 : t1565 = true := c1568
    have c1568b1 : (!t1565) = false := by rw [c1568b0]; rfl
    try rw [c1568b1]
    clear c1568
    go_wp2_with fail
    obtain ⟨t1569, HA1570, H⟩ := bind_some H
    refine (atomic_Uint64_Add.calls l1511 a1516 1 g1509 A1512 l1511.length n1514 t1569 _ ⟨HS.out.begin (l := [b6 g1509 A1512 l1511.length n1514 a1516, r5 A1512 l1511.length n1514 l1511]) (rest := [])⟩ HA1570).mono ?_
    rintro e_ w1571 ⟨rfl, hS⟩
    replace HS : Aside0 (Sep FF w [b6 g1509 A1512 l1511.length n1514 t1569.2, r5 A1512 l1511.length n1514 l1511] w1571) := ⟨HS.out.call (l := [b6 g1509 A1512 l1511.length n1514 a1516, r5 A1512 l1511.length n1514 l1511]) (rest := []) hS⟩
    clear hS
    by_cases c1573 : 0 ≤ a1517
    · have H := if_yes c1573 H
      have c1573b0 : decide (0 ≤ a1517) = true := decide_eq_true c1573
      have c1573p : (0 ≤ a1517) = True := eq_true c1573
      clear c1573
      by_cases c1574 : a1517 < (l1511.length : Int)
      · have H := if_yes c1574 H
        have c1574b0 : decide (a1517 < (l1511.length : Int)) = true := decide_eq_true c1574
        have c1574p : (a1517 < (l1511.length : Int)) = True := eq_true c1574
        clear c1574
        have hc1572 : w1571.cell? ⟨g1509, 0, none⟩ = some (.slice A1512 l1511.length n1514) := blk_cellv (HS.out.at0) 0 rfl
        obtain ⟨g1575, ea⟩ := row_at (HS.out.at1) (by have := (of_decide_eq_true c1573b0); have := (of_decide_eq_true c1574b0); omega); cases ea
        have hx1576 := C_at_int (row_Ci (HS.out.at1)) a1517 (of_decide_eq_true c1573b0) (of_decide_eq_true c1574b0)
        have hx1577 : w1571.cell? ⟨g1575, (a1517).toNat, none⟩ = some (.int .u32 (rd l1511 a1517)) := (row_get 0 (HS.out.at1) a1517 (of_decide_eq_true c1573b0) (of_decide_eq_true c1574b0)).1
        go_wp2_with fail
        clear hc1572 hx1576 hx1577
        go_ret
        rw [← some_eq H]
        exact ⟨(by first | rfl | (simp [IntKind.wrap_u32]; done)), (((HS.out).front 1 (by simp)).front 1 (by simp)).keep (l := [b6 g1509 (some ⟨g1575, 0, none⟩) l1511.length n1514 t1569.2, r5 (some ⟨g1575, 0, none⟩) l1511.length n1514 l1511]) (rest := [])⟩
      · have H := if_no c1574 H
        have c1574b0 : decide (a1517 < (l1511.length : Int)) = false := decide_eq_false c1574
        clear c1574
        exact (none_no H).elim
    · have H := if_no c1573 H
      have c1573b0 : decide (0 ≤ a1517) = false := decide_eq_false c1573
      clear c1573
      exact (none_no H).elim
  · have H := if_no c1568 H
    have c1568b0 : t1565 = false := by simpa using c1568
    have c1568b1 : (!t1565) = true := by rw [c1568b0]; rfl
    try rw [c1568b1]
    clear c1568
    go_wp2_with fail
    go_ret
    rw [← some_eq H]
    exact ⟨(by first | rfl | (simp [IntKind.wrap_u32]; done)), (((HS.out).front 1 (by simp)).front 1 (by simp)).keep (l := [b6 g1509 A1512 l1511.length n1514 a1516, r5 A1512 l1511.length n1514 l1511]) (rest := [])⟩

set_option maxHeartbeats 30000000 in
set_option maxRecDepth 100000 in
theorem ground_Ground_Reg.calls (l1475 : List Int) (a1480 : Int) (a1481 : Int) (a1482 : Int) (a1483 : Int) (a1484 : Int) (a1485 : Int) (g1471 : Nat) (g1473 : Nat) (A1476 : Option Addr) (m1477 : Nat) (n1478 : Nat) (r : Int × Int) (w : World)   (HS : Aside0 (Sep (fps [b7 g1471 g1473 a1481 a1482 a1483 a1484, b6 g1473 A1476 m1477 n1478 a1480, r5 A1476 m1477 n1478 l1475]) w [b7 g1471 g1473 a1481 a1482 a1483 a1484, b6 g1473 A1476 m1477 n1478 a1480, r5 A1476 m1477 n1478 l1475] w)) (H : Aside0 (ground_Ground_Reg.f l1475 a1480 a1481 a1482 a1483 a1484 a1485 = some r)) :
    Calls Try.prog 36 #[.pointer (some ⟨g1471, 0, none⟩), .int .i64 a1485] w fun e w' => e = .returned (.int .i64 r.1) ∧ Sep (fps [b7 g1471 g1473 a1481 a1482 a1483 a1484, b6 g1473 A1476 m1477 n1478 a1480, r5 A1476 m1477 n1478 l1475]) w [b7 g1471 g1473 a1481 a1482 a1483 a1484, b6 g1473 A1476 m1477 n1478 r.2, r5 A1476 m1477 n1478 l1475] w' := by
  generalize (fps [b7 g1471 g1473 a1481 a1482 a1483 a1484, b6 g1473 A1476 m1477 n1478 a1480, r5 A1476 m1477 n1478 l1475]) = FF at HS ⊢
  obtain rfl := (row_len (HS.out.at2)).symm
  unfold ground_Ground_Reg.f at H
  go_enter Try.func36, Try.ntmps36
  go_wp2_with fail
  obtain ⟨t1581, HA1582, H⟩ := bind_some H
  refine (ground_Ground_all.calls l1475 a1480 a1481 a1482 a1483 a1484 g1471 g1473 A1476 l1475.length n1478 t1581 _ ⟨HS.out.begin (l := [b7 g1471 g1473 a1481 a1482 a1483 a1484, b6 g1473 A1476 l1475.length n1478 a1480, r5 A1476 l1475.length n1478 l1475]) (rest := [])⟩ HA1582).mono ?_
  rintro e_ w1583 ⟨rfl, hS⟩
  replace HS : Aside0 (Sep FF w [b7 g1471 g1473 a1481 a1482 a1483 a1484, b6 g1473 A1476 l1475.length n1478 a1480, r5 A1476 l1475.length n1478 l1475] w1583) := ⟨HS.out.call (l := [b7 g1471 g1473 a1481 a1482 a1483 a1484, b6 g1473 A1476 l1475.length n1478 a1480, r5 A1476 l1475.length n1478 l1475]) (rest := []) hS⟩
  clear hS
  go_wp2_with fail
  obtain ⟨t1584, HA1585, H⟩ := bind_some H
  refine (ground_reg.calls a1485 t1584 _ ⟨HS.out.begin (l := []) (rest := [b7 g1471 g1473 a1481 a1482 a1483 a1484, b6 g1473 A1476 l1475.length n1478 a1480, r5 A1476 l1475.length n1478 l1475])⟩ HA1585).mono ?_
  rintro e_ w1586 ⟨rfl, hS⟩
  replace HS : Aside0 (Sep FF w [b7 g1471 g1473 a1481 a1482 a1483 a1484, b6 g1473 A1476 l1475.length n1478 a1480, r5 A1476 l1475.length n1478 l1475] w1586) := ⟨HS.out.call (l := []) (rest := [b7 g1471 g1473 a1481 a1482 a1483 a1484, b6 g1473 A1476 l1475.length n1478 a1480, r5 A1476 l1475.length n1478 l1475]) hS⟩
  clear hS
  go_wp2_with fail
  replace HS : Aside0 (Sep FF w [r5 A1476 l1475.length n1478 l1475, b7 g1471 g1473 a1481 a1482 a1483 a1484, b6 g1473 A1476 l1475.length n1478 a1480] w1586) := ⟨HS.out.front 2 (by simp)⟩
  replace HS : Aside0 (Sep FF w [b6 g1473 A1476 l1475.length n1478 a1480, r5 A1476 l1475.length n1478 l1475, b7 g1471 g1473 a1481 a1482 a1483 a1484] w1586) := ⟨HS.out.front 2 (by simp)⟩
  obtain ⟨t1587, HA1588, H⟩ := bind_some H
  refine (store_Store_Get.calls l1475 a1480 t1584 g1473 A1476 l1475.length n1478 t1587 _ ⟨HS.out.begin (l := [b6 g1473 A1476 l1475.length n1478 a1480, r5 A1476 l1475.length n1478 l1475]) (rest := [b7 g1471 g1473 a1481 a1482 a1483 a1484])⟩ HA1588).mono ?_
  rintro e_ w1589 ⟨rfl, hS⟩
  replace HS : Aside0 (Sep FF w [b6 g1473 A1476 l1475.length n1478 t1587.2, r5 A1476 l1475.length n1478 l1475, b7 g1471 g1473 a1481 a1482 a1483 a1484] w1589) := ⟨HS.out.call (l := [b6 g1473 A1476 l1475.length n1478 a1480, r5 A1476 l1475.length n1478 l1475]) (rest := [b7 g1471 g1473 a1481 a1482 a1483 a1484]) hS⟩
  clear hS
  go_wp2_with fail
  go_ret
  rw [← some_eq H]
  exact ⟨(by first | rfl | (simp [IntKind.wrap_u32]; done)), ((((HS.out).front 1 (by simp)).front 1 (by simp)).front 2 (by simp)).keep (l := [b7 g1471 g1473 a1481 a1482 a1483 a1484, b6 g1473 A1476 l1475.length n1478 t1587.2, r5 A1476 l1475.length n1478 l1475]) (rest := [])⟩

set_option maxHeartbeats 30000000 in
set_option maxRecDepth 100000 in
theorem ground_Ground_word.calls (l1652 : List Int) (a1657 : Int) (a1658 : Int) (a1659 : Int) (a1660 : Int) (a1661 : Int) (a1662 : Int) (a1663 : Int) (g1648 : Nat) (g1650 : Nat) (A1653 : Option Addr) (m1654 : Nat) (n1655 : Nat) (r : Int) (w : World)   (HS : Aside0 (Sep (fps [b7 g1648 g1650 a1658 a1659 a1660 a1661, b6 g1650 A1653 m1654 n1655 a1657, r5 A1653 m1654 n1655 l1652]) w [b7 g1648 g1650 a1658 a1659 a1660 a1661, b6 g1650 A1653 m1654 n1655 a1657, r5 A1653 m1654 n1655 l1652] w)) (H : Aside0 (ground_Ground_word.f l1652 a1657 a1658 a1659 a1660 a1661 a1662 a1663 = some r)) :
    Calls Try.prog 87 #[.pointer (some ⟨g1648, 0, none⟩), .int .i64 a1662, .int .i64 a1663] w fun e w' => e = .returned (.int .i64 r) ∧ Sep (fps [b7 g1648 g1650 a1658 a1659 a1660 a1661, b6 g1650 A1653 m1654 n1655 a1657, r5 A1653 m1654 n1655 l1652]) w [b7 g1648 g1650 a1658 a1659 a1660 a1661, b6 g1650 A1653 m1654 n1655 a1657, r5 A1653 m1654 n1655 l1652] w' := by
  generalize (fps [b7 g1648 g1650 a1658 a1659 a1660 a1661, b6 g1650 A1653 m1654 n1655 a1657, r5 A1653 m1654 n1655 l1652]) = FF at HS ⊢
  obtain rfl := (row_len (HS.out.at2)).symm
  unfold ground_Ground_word.f at H
  go_enter Try.func87, Try.ntmps87
  go_wp2_with fail
  obtain ⟨t1664, HA1665, H⟩ := bind_some H
  refine (ground_Ground_Conf.calls l1652 a1657 a1658 a1659 a1660 a1661 g1648 g1650 A1653 l1652.length n1655 t1664 _ ⟨HS.out.begin (l := [b7 g1648 g1650 a1658 a1659 a1660 a1661, b6 g1650 A1653 l1652.length n1655 a1657, r5 A1653 l1652.length n1655 l1652]) (rest := [])⟩ HA1665).mono ?_
  rintro e_ w1666 ⟨rfl, hS⟩
  replace HS : Aside0 (Sep FF w [b7 g1648 g1650 a1658 a1659 a1660 a1661, b6 g1650 A1653 l1652.length n1655 a1657, r5 A1653 l1652.length n1655 l1652] w1666) := ⟨HS.out.call (l := [b7 g1648 g1650 a1658 a1659 a1660 a1661, b6 g1650 A1653 l1652.length n1655 a1657, r5 A1653 l1652.length n1655 l1652]) (rest := []) hS⟩
  clear hS
  go_wp2_with (first | ((with_reducible refine gate_dst (N := 7) rfl ?_); refine box_on ?hg (N := 7) ?hd (cs := #[.int .i64 0, .int .i64 0, .int .i64 0, .int .i64 0]) (t := 49) ?hr ?_; (case hd => rfl); (case hg => rfl); (case hr => first | (go_simp; done) | (go_simp; rfl)); intro g1667 hg w1668 hbox hb; replace HS : Aside0 (Sep FF w [b7 g1648 g1650 a1658 a1659 a1660 a1661, b6 g1650 A1653 l1652.length n1655 a1657, r5 A1653 l1652.length n1655 l1652, b1 g1667 0 0 0 0] w1668) := ⟨HS.out.box hg hbox hb⟩; clear hg hbox hb; have hc1670 : w1668.cell? ⟨g1667, 0, none⟩ = some (.int .i64 0) := blk_cellv (HS.out.at3) 0 rfl; have hz1671 : w1668.frozen? ⟨g1667, 0, none⟩ = false := blk_fz (HS.out.at3) 0; have hc1672 : w1668.cell? ⟨g1667, 1, none⟩ = some (.int .i64 0) := blk_cellv (HS.out.at3) 1 rfl; have hz1673 : w1668.frozen? ⟨g1667, 1, none⟩ = false := blk_fz (HS.out.at3) 1; have hc1674 : w1668.cell? ⟨g1667, 2, none⟩ = some (.int .i64 0) := blk_cellv (HS.out.at3) 2 rfl; have hz1675 : w1668.frozen? ⟨g1667, 2, none⟩ = false := blk_fz (HS.out.at3) 2; have hc1676 : w1668.cell? ⟨g1667, 3, none⟩ = some (.int .i64 0) := blk_cellv (HS.out.at3) 3 rfl; have hz1677 : w1668.frozen? ⟨g1667, 3, none⟩ = false := blk_fz (HS.out.at3) 3) | ((with_reducible refine gate_store (t := 49) (p := 7) rfl ?_); refine store_event (w1 := (World.setCell (World.setCell (World.setCell (World.setCell w1668 ⟨g1667, 0, none⟩ (.int .i64 t1664.1)) ⟨g1667, 1, none⟩ (.int .i64 t1664.2.1)) ⟨g1667, 2, none⟩ (.int .i64 t1664.2.2.1)) ⟨g1667, 3, none⟩ (.int .i64 t1664.2.2.2))) rfl (t := 49) (p := 7) rfl rfl ?hr ?_; (case hr => first | (go_simp; done) | (go_simp; rfl)); intro w1678 hst; clear hc1670 hz1671 hc1672 hz1673 hc1674 hz1675 hc1676 hz1677; replace HS : Aside0 (Sep FF w [b7 g1648 g1650 a1658 a1659 a1660 a1661, b6 g1650 A1653 l1652.length n1655 a1657, r5 A1653 l1652.length n1655 l1652, b1 g1667 t1664.1 t1664.2.1 t1664.2.2.1 t1664.2.2.2] w1678) := ⟨by rw [hst]; exact HS.out.setAll (l1 := [b7 g1648 g1650 a1658 a1659 a1660 a1661, b6 g1650 A1653 l1652.length n1655 a1657, r5 A1653 l1652.length n1655 l1652]) (l2 := []) [.int .i64 t1664.1, .int .i64 t1664.2.1, .int .i64 t1664.2.2.1, .int .i64 t1664.2.2.2] rfl⟩; clear hst; have hc1679 : w1678.cell? ⟨g1667, 0, none⟩ = some (.int .i64 t1664.1) := blk_cellv (HS.out.at3) 0 rfl))
  clear hc1679
  obtain ⟨t1680, HA1681, H⟩ := bind_some H
  refine (ground_within.calls a1662 t1664.1 0 t1680 _ ⟨HS.out.begin (l := []) (rest := [b7 g1648 g1650 a1658 a1659 a1660 a1661, b6 g1650 A1653 l1652.length n1655 a1657, r5 A1653 l1652.length n1655 l1652, b1 g1667 t1664.1 t1664.2.1 t1664.2.2.1 t1664.2.2.2])⟩ HA1681).mono ?_
  rintro e_ w1682 ⟨rfl, hS⟩
  replace HS : Aside0 (Sep FF w [b7 g1648 g1650 a1658 a1659 a1660 a1661, b6 g1650 A1653 l1652.length n1655 a1657, r5 A1653 l1652.length n1655 l1652, b1 g1667 t1664.1 t1664.2.1 t1664.2.2.1 t1664.2.2.2] w1682) := ⟨HS.out.call (l := []) (rest := [b7 g1648 g1650 a1658 a1659 a1660 a1661, b6 g1650 A1653 l1652.length n1655 a1657, r5 A1653 l1652.length n1655 l1652, b1 g1667 t1664.1 t1664.2.1 t1664.2.2.1 t1664.2.2.2]) hS⟩
  clear hS
  by_cases c1683 : t1680 = (-1)
  · have H := if_yes c1683 H
    have c1683b0 : (t1680 == (-1)) = true := beq_iff_eq.mpr c1683
    have c1683b1 : (t1680 != (-1)) = false := bne_eq_false_iff_eq.mpr c1683
    clear c1683
    replace HS : Aside0 (Sep FF w [b7 g1648 g1650 a1658 a1659 a1660 a1661, b6 g1650 A1653 l1652.length n1655 a1657, r5 A1653 l1652.length n1655 l1652] w1682) := ⟨HS.out.sub (.cons_cons _ (.cons_cons _ (.cons_cons _ (.cons _ .slnil))))⟩
    go_wp2_with fail
    go_ret
    rw [← some_eq H]
    exact ⟨(by first | rfl | (simp [IntKind.wrap_u32]; done)), ((((HS.out).front 2 (by simp)).front 2 (by simp)).front 2 (by simp)).keep (l := [b7 g1648 g1650 a1658 a1659 a1660 a1661, b6 g1650 A1653 l1652.length n1655 a1657, r5 A1653 l1652.length n1655 l1652]) (rest := [])⟩
  · have H := if_no c1683 H
    have c1683b0 : (t1680 == (-1)) = false := beq_eq_false_iff_ne.mpr c1683
    have c1683b1 : (t1680 != (-1)) = true := bne_iff_ne.mpr c1683
    clear c1683
    have hc1684 : w1682.cell? ⟨g1667, 1, none⟩ = some (.int .i64 t1664.2.1) := blk_cellv (HS.out.at3) 1 rfl
    have hc1685 : w1682.cell? ⟨g1667, 2, none⟩ = some (.int .i64 t1664.2.2.1) := blk_cellv (HS.out.at3) 2 rfl
    go_wp2_with fail
    clear hc1684 hc1685
    obtain ⟨t1686, HA1687, H⟩ := bind_some H
    refine (ground_within.calls a1663 t1664.2.1 (wrap64 ((wrap64 (24 + t1664.2.2.1)) + (wrap64 (a1662 * t1664.2.1)))) t1686 _ ⟨HS.out.begin (l := []) (rest := [b7 g1648 g1650 a1658 a1659 a1660 a1661, b6 g1650 A1653 l1652.length n1655 a1657, r5 A1653 l1652.length n1655 l1652, b1 g1667 t1664.1 t1664.2.1 t1664.2.2.1 t1664.2.2.2])⟩ HA1687).mono ?_
    rintro e_ w1688 ⟨rfl, hS⟩
    replace HS : Aside0 (Sep FF w [b7 g1648 g1650 a1658 a1659 a1660 a1661, b6 g1650 A1653 l1652.length n1655 a1657, r5 A1653 l1652.length n1655 l1652, b1 g1667 t1664.1 t1664.2.1 t1664.2.2.1 t1664.2.2.2] w1688) := ⟨HS.out.call (l := []) (rest := [b7 g1648 g1650 a1658 a1659 a1660 a1661, b6 g1650 A1653 l1652.length n1655 a1657, r5 A1653 l1652.length n1655 l1652, b1 g1667 t1664.1 t1664.2.1 t1664.2.2.1 t1664.2.2.2]) hS⟩
    clear hS
    replace HS : Aside0 (Sep FF w [b7 g1648 g1650 a1658 a1659 a1660 a1661, b6 g1650 A1653 l1652.length n1655 a1657, r5 A1653 l1652.length n1655 l1652] w1688) := ⟨HS.out.sub (.cons_cons _ (.cons_cons _ (.cons_cons _ (.cons _ .slnil))))⟩
    go_wp2_with fail
    go_ret
    rw [← some_eq H]
    exact ⟨(by first | rfl | (simp [IntKind.wrap_u32]; done)), ((((HS.out).front 2 (by simp)).front 2 (by simp)).front 2 (by simp)).keep (l := [b7 g1648 g1650 a1658 a1659 a1660 a1661, b6 g1650 A1653 l1652.length n1655 a1657, r5 A1653 l1652.length n1655 l1652]) (rest := [])⟩

set_option maxHeartbeats 30000000 in
set_option maxRecDepth 100000 in
theorem store_Store_Put.calls (l1695 : List Int) (a1700 : Int) (a1701 : Int) (a1702 : Int) (g1693 : Nat) (A1696 : Option Addr) (m1697 : Nat) (n1698 : Nat) (r : Bool × Int × List Int) (w : World)   (HS : Aside0 (Sep (fps [b6 g1693 A1696 m1697 n1698 a1700, r5 A1696 m1697 n1698 l1695]) w [b6 g1693 A1696 m1697 n1698 a1700, r5 A1696 m1697 n1698 l1695] w)) (H : Aside0 (store_Store_Put.f l1695 a1700 a1701 a1702 = some r)) :
    Calls Try.prog 22 #[.pointer (some ⟨g1693, 0, none⟩), .int .i64 a1701, .int .u32 a1702] w fun e w' => e = .returned (.bool r.1) ∧ Sep (fps [b6 g1693 A1696 m1697 n1698 a1700, r5 A1696 m1697 n1698 l1695]) w [b6 g1693 A1696 m1697 n1698 r.2.1, r5 A1696 m1697 n1698 r.2.2] w' := by
  generalize (fps [b6 g1693 A1696 m1697 n1698 a1700, r5 A1696 m1697 n1698 l1695]) = FF at HS ⊢
  obtain rfl := (row_len (HS.out.at1)).symm
  unfold store_Store_Put.f at H
  go_enter Try.func22, Try.ntmps22
  go_wp2_with fail
  obtain ⟨t1719, HA1720, H⟩ := bind_some H
  refine (store_Store_has.calls l1695 a1700 a1701 g1693 A1696 l1695.length n1698 t1719 _ ⟨HS.out.begin (l := [b6 g1693 A1696 l1695.length n1698 a1700, r5 A1696 l1695.length n1698 l1695]) (rest := [])⟩ HA1720).mono ?_
  rintro e_ w1721 ⟨rfl, hS⟩
  replace HS : Aside0 (Sep FF w [b6 g1693 A1696 l1695.length n1698 a1700, r5 A1696 l1695.length n1698 l1695] w1721) := ⟨HS.out.call (l := [b6 g1693 A1696 l1695.length n1698 a1700, r5 A1696 l1695.length n1698 l1695]) (rest := []) hS⟩
  clear hS
  by_cases c1722 : t1719 = true
  · have H := if_yes c1722 H
    have c1722b0 : t1719 = true := c1722
    have c1722b1 : (!t1719) = false := by rw [c1722b0]; rfl
    try rw [c1722b1]
    clear c1722
    go_wp2_with fail
    obtain ⟨t1723, HA1724, H⟩ := bind_some H
    refine (atomic_Uint64_Add.calls l1695 a1700 1 g1693 A1696 l1695.length n1698 t1723 _ ⟨HS.out.begin (l := [b6 g1693 A1696 l1695.length n1698 a1700, r5 A1696 l1695.length n1698 l1695]) (rest := [])⟩ HA1724).mono ?_
    rintro e_ w1725 ⟨rfl, hS⟩
    replace HS : Aside0 (Sep FF w [b6 g1693 A1696 l1695.length n1698 t1723.2, r5 A1696 l1695.length n1698 l1695] w1725) := ⟨HS.out.call (l := [b6 g1693 A1696 l1695.length n1698 a1700, r5 A1696 l1695.length n1698 l1695]) (rest := []) hS⟩
    clear hS
    by_cases c1727 : 0 ≤ a1701
    · have H := if_yes c1727 H
      have c1727b0 : decide (0 ≤ a1701) = true := decide_eq_true c1727
      have c1727p : (0 ≤ a1701) = True := eq_true c1727
      clear c1727
      by_cases c1728 : a1701 < (l1695.length : Int)
      · have H := if_yes c1728 H
        have c1728b0 : decide (a1701 < (l1695.length : Int)) = true := decide_eq_true c1728
        have c1728p : (a1701 < (l1695.length : Int)) = True := eq_true c1728
        clear c1728
        obtain ⟨y1731, HA1732, H⟩ := bind_some H
        have hc1726 : w1725.cell? ⟨g1693, 0, none⟩ = some (.slice A1696 l1695.length n1698) := blk_cellv (HS.out.at0) 0 rfl
        obtain ⟨g1729, ea⟩ := row_at (HS.out.at1) (by have := (of_decide_eq_true c1727b0); have := (of_decide_eq_true c1728b0); omega); cases ea
        have hx1733 := (row_get 0 (HS.out.at1) a1701 (of_decide_eq_true c1727b0) (of_decide_eq_true c1728b0)).1
        have hz1734 := (row_get 0 (HS.out.at1) a1701 (of_decide_eq_true c1727b0) (of_decide_eq_true c1728b0)).2
        go_wp2_with (first | ((with_reducible refine gate_store (t := 23) (p := 21) rfl ?_); refine store_event (w1 := World.setCell w1725 ⟨g1729, (a1701).toNat, none⟩ (.int .u32 a1702)) rfl (t := 23) (p := 21) rfl rfl ?hr ?_; (case hr => first | (go_simp; done) | (go_simp; rfl)); intro w1730 hst; clear hc1726 hx1733 hz1734; have hq := Sep.rowset (l1 := [b6 g1693 (some ⟨g1729, 0, none⟩) l1695.length n1698 t1723.2]) (l2 := []) HS.out a1701 a1702; rw [← hst, some_eq HA1732] at hq; replace HS : Aside0 (Sep FF w [b6 g1693 (some ⟨g1729, 0, none⟩) l1695.length n1698 t1723.2, r5 (some ⟨g1729, 0, none⟩) l1695.length n1698 y1731] w1730) := ⟨hq⟩; clear hst hq))
        go_ret
        rw [← some_eq H]
        exact ⟨(by first | rfl | (simp [IntKind.wrap_u32]; done)), (((HS.out).front 1 (by simp)).front 1 (by simp)).keep (l := [b6 g1693 (some ⟨g1729, 0, none⟩) l1695.length n1698 t1723.2, r5 (some ⟨g1729, 0, none⟩) l1695.length n1698 y1731]) (rest := [])⟩
      · have H := if_no c1728 H
        have c1728b0 : decide (a1701 < (l1695.length : Int)) = false := decide_eq_false c1728
        clear c1728
        exact (none_no H).elim
    · have H := if_no c1727 H
      have c1727b0 : decide (0 ≤ a1701) = false := decide_eq_false c1727
      clear c1727
      exact (none_no H).elim
  · have H := if_no c1722 H
    have c1722b0 : t1719 = false := by simpa using c1722
    have c1722b1 : (!t1719) = true := by rw [c1722b0]; rfl
    try rw [c1722b1]
    clear c1722
    go_wp2_with fail
    go_ret
    rw [← some_eq H]
    exact ⟨(by first | rfl | (simp [IntKind.wrap_u32]; done)), (((HS.out).front 1 (by simp)).front 1 (by simp)).keep (l := [b6 g1693 A1696 l1695.length n1698 a1700, r5 A1696 l1695.length n1698 l1695]) (rest := [])⟩

set_option maxHeartbeats 30000000 in
set_option maxRecDepth 100000 in
theorem ground_Ground_SetWord.calls (l1631 : List Int) (a1636 : Int) (a1637 : Int) (a1638 : Int) (a1639 : Int) (a1640 : Int) (a1641 : Int) (a1642 : Int) (a1643 : Int) (g1627 : Nat) (g1629 : Nat) (A1632 : Option Addr) (m1633 : Nat) (n1634 : Nat) (r : Bool × Int × List Int) (w : World)   (HS : Aside0 (Sep (fps [b7 g1627 g1629 a1637 a1638 a1639 a1640, b6 g1629 A1632 m1633 n1634 a1636, r5 A1632 m1633 n1634 l1631]) w [b7 g1627 g1629 a1637 a1638 a1639 a1640, b6 g1629 A1632 m1633 n1634 a1636, r5 A1632 m1633 n1634 l1631] w)) (H : Aside0 (ground_Ground_SetWord.f l1631 a1636 a1637 a1638 a1639 a1640 a1641 a1642 a1643 = some r)) :
    Calls Try.prog 46 #[.pointer (some ⟨g1627, 0, none⟩), .int .i64 a1641, .int .i64 a1642, .int .u32 a1643] w fun e w' => e = .returned (.bool r.1) ∧ Sep (fps [b7 g1627 g1629 a1637 a1638 a1639 a1640, b6 g1629 A1632 m1633 n1634 a1636, r5 A1632 m1633 n1634 l1631]) w [b7 g1627 g1629 a1637 a1638 a1639 a1640, b6 g1629 A1632 m1633 n1634 r.2.1, r5 A1632 m1633 n1634 r.2.2] w' := by
  generalize (fps [b7 g1627 g1629 a1637 a1638 a1639 a1640, b6 g1629 A1632 m1633 n1634 a1636, r5 A1632 m1633 n1634 l1631]) = FF at HS ⊢
  obtain rfl := (row_len (HS.out.at2)).symm
  unfold ground_Ground_SetWord.f at H
  go_enter Try.func46, Try.ntmps46
  go_wp2_with fail
  obtain ⟨t1738, HA1739, H⟩ := bind_some H
  refine (ground_Ground_all.calls l1631 a1636 a1637 a1638 a1639 a1640 g1627 g1629 A1632 l1631.length n1634 t1738 _ ⟨HS.out.begin (l := [b7 g1627 g1629 a1637 a1638 a1639 a1640, b6 g1629 A1632 l1631.length n1634 a1636, r5 A1632 l1631.length n1634 l1631]) (rest := [])⟩ HA1739).mono ?_
  rintro e_ w1740 ⟨rfl, hS⟩
  replace HS : Aside0 (Sep FF w [b7 g1627 g1629 a1637 a1638 a1639 a1640, b6 g1629 A1632 l1631.length n1634 a1636, r5 A1632 l1631.length n1634 l1631] w1740) := ⟨HS.out.call (l := [b7 g1627 g1629 a1637 a1638 a1639 a1640, b6 g1629 A1632 l1631.length n1634 a1636, r5 A1632 l1631.length n1634 l1631]) (rest := []) hS⟩
  clear hS
  go_wp2_with fail
  obtain ⟨t1741, HA1742, H⟩ := bind_some H
  refine (ground_Ground_word.calls l1631 a1636 a1637 a1638 a1639 a1640 a1641 a1642 g1627 g1629 A1632 l1631.length n1634 t1741 _ ⟨HS.out.begin (l := [b7 g1627 g1629 a1637 a1638 a1639 a1640, b6 g1629 A1632 l1631.length n1634 a1636, r5 A1632 l1631.length n1634 l1631]) (rest := [])⟩ HA1742).mono ?_
  rintro e_ w1743 ⟨rfl, hS⟩
  replace HS : Aside0 (Sep FF w [b7 g1627 g1629 a1637 a1638 a1639 a1640, b6 g1629 A1632 l1631.length n1634 a1636, r5 A1632 l1631.length n1634 l1631] w1743) := ⟨HS.out.call (l := [b7 g1627 g1629 a1637 a1638 a1639 a1640, b6 g1629 A1632 l1631.length n1634 a1636, r5 A1632 l1631.length n1634 l1631]) (rest := []) hS⟩
  clear hS
  go_wp2_with fail
  replace HS : Aside0 (Sep FF w [r5 A1632 l1631.length n1634 l1631, b7 g1627 g1629 a1637 a1638 a1639 a1640, b6 g1629 A1632 l1631.length n1634 a1636] w1743) := ⟨HS.out.front 2 (by simp)⟩
  replace HS : Aside0 (Sep FF w [b6 g1629 A1632 l1631.length n1634 a1636, r5 A1632 l1631.length n1634 l1631, b7 g1627 g1629 a1637 a1638 a1639 a1640] w1743) := ⟨HS.out.front 2 (by simp)⟩
  obtain ⟨t1744, HA1745, H⟩ := bind_some H
  refine (store_Store_Put.calls l1631 a1636 t1741 a1643 g1629 A1632 l1631.length n1634 t1744 _ ⟨HS.out.begin (l := [b6 g1629 A1632 l1631.length n1634 a1636, r5 A1632 l1631.length n1634 l1631]) (rest := [b7 g1627 g1629 a1637 a1638 a1639 a1640])⟩ HA1745).mono ?_
  rintro e_ w1746 ⟨rfl, hS⟩
  replace HS : Aside0 (Sep FF w [b6 g1629 A1632 l1631.length n1634 t1744.2.1, r5 A1632 l1631.length n1634 t1744.2.2, b7 g1627 g1629 a1637 a1638 a1639 a1640] w1746) := ⟨HS.out.call (l := [b6 g1629 A1632 l1631.length n1634 a1636, r5 A1632 l1631.length n1634 l1631]) (rest := [b7 g1627 g1629 a1637 a1638 a1639 a1640]) hS⟩
  clear hS
  go_wp2_with fail
  go_ret
  rw [← some_eq H]
  exact ⟨(by first | rfl | (simp [IntKind.wrap_u32]; done)), ((((HS.out).front 1 (by simp)).front 1 (by simp)).front 2 (by simp)).keep (l := [b7 g1627 g1629 a1637 a1638 a1639 a1640, b6 g1629 A1632 l1631.length n1634 t1744.2.1, r5 A1632 l1631.length n1634 t1744.2.2]) (rest := [])⟩

set_option maxHeartbeats 30000000 in
set_option maxRecDepth 100000 in
theorem ground_Ground_set.calls (l1778 : List Int) (a1783 : Int) (a1784 : Int) (a1785 : Int) (a1786 : Int) (a1787 : Int) (a1788 : Int) (a1789 : Int) (g1774 : Nat) (g1776 : Nat) (A1779 : Option Addr) (m1780 : Nat) (n1781 : Nat) (r : Bool × Int × List Int) (w : World)   (HS : Aside0 (Sep (fps [b7 g1774 g1776 a1784 a1785 a1786 a1787, b6 g1776 A1779 m1780 n1781 a1783, r5 A1779 m1780 n1781 l1778]) w [b7 g1774 g1776 a1784 a1785 a1786 a1787, b6 g1776 A1779 m1780 n1781 a1783, r5 A1779 m1780 n1781 l1778] w)) (H : Aside0 (ground_Ground_set.f l1778 a1783 a1784 a1785 a1786 a1787 a1788 a1789 = some r)) :
    Calls Try.prog 85 #[.pointer (some ⟨g1774, 0, none⟩), .int .i64 a1788, .int .i64 a1789] w fun e w' => e = .returned (.bool r.1) ∧ Sep (fps [b7 g1774 g1776 a1784 a1785 a1786 a1787, b6 g1776 A1779 m1780 n1781 a1783, r5 A1779 m1780 n1781 l1778]) w [b7 g1774 g1776 a1784 a1785 a1786 a1787, b6 g1776 A1779 m1780 n1781 r.2.1, r5 A1779 m1780 n1781 r.2.2] w' := by
  generalize (fps [b7 g1774 g1776 a1784 a1785 a1786 a1787, b6 g1776 A1779 m1780 n1781 a1783, r5 A1779 m1780 n1781 l1778]) = FF at HS ⊢
  obtain rfl := (row_len (HS.out.at2)).symm
  unfold ground_Ground_set.f at H
  go_enter Try.func85, Try.ntmps85
  by_cases c1798 : a1789 < 0
  · have H := if_yes c1798 H
    have c1798b0 : decide (a1789 < 0) = true := decide_eq_true c1798
    clear c1798
    go_wp2_with fail
    go_ret
    rw [← some_eq H]
    exact ⟨(by first | rfl | (simp [IntKind.wrap_u32]; done)), ((((HS.out).front 2 (by simp)).front 2 (by simp)).front 2 (by simp)).keep (l := [b7 g1774 g1776 a1784 a1785 a1786 a1787, b6 g1776 A1779 l1778.length n1781 a1783, r5 A1779 l1778.length n1781 l1778]) (rest := [])⟩
  · have H := if_no c1798 H
    have c1798b0 : decide (a1789 < 0) = false := decide_eq_false c1798
    clear c1798
    by_cases c1799 : a1789 > 4294967295
    · have H := if_yes c1799 H
      have c1799b0 : decide (4294967295 < a1789) = true := decide_eq_true c1799
      clear c1799
      go_wp2_with fail
      go_ret
      rw [← some_eq H]
      exact ⟨(by first | rfl | (simp [IntKind.wrap_u32]; done)), ((((HS.out).front 2 (by simp)).front 2 (by simp)).front 2 (by simp)).keep (l := [b7 g1774 g1776 a1784 a1785 a1786 a1787, b6 g1776 A1779 l1778.length n1781 a1783, r5 A1779 l1778.length n1781 l1778]) (rest := [])⟩
    · have H := if_no c1799 H
      have c1799b0 : decide (4294967295 < a1789) = false := decide_eq_false c1799
      clear c1799
      go_wp2_with fail
      obtain ⟨t1800, HA1801, H⟩ := bind_some H
      refine (ground_Ground_all.calls l1778 a1783 a1784 a1785 a1786 a1787 g1774 g1776 A1779 l1778.length n1781 t1800 _ ⟨HS.out.begin (l := [b7 g1774 g1776 a1784 a1785 a1786 a1787, b6 g1776 A1779 l1778.length n1781 a1783, r5 A1779 l1778.length n1781 l1778]) (rest := [])⟩ HA1801).mono ?_
      rintro e_ w1802 ⟨rfl, hS⟩
      replace HS : Aside0 (Sep FF w [b7 g1774 g1776 a1784 a1785 a1786 a1787, b6 g1776 A1779 l1778.length n1781 a1783, r5 A1779 l1778.length n1781 l1778] w1802) := ⟨HS.out.call (l := [b7 g1774 g1776 a1784 a1785 a1786 a1787, b6 g1776 A1779 l1778.length n1781 a1783, r5 A1779 l1778.length n1781 l1778]) (rest := []) hS⟩
      clear hS
      go_wp2_with fail
      replace HS : Aside0 (Sep FF w [r5 A1779 l1778.length n1781 l1778, b7 g1774 g1776 a1784 a1785 a1786 a1787, b6 g1776 A1779 l1778.length n1781 a1783] w1802) := ⟨HS.out.front 2 (by simp)⟩
      replace HS : Aside0 (Sep FF w [b6 g1776 A1779 l1778.length n1781 a1783, r5 A1779 l1778.length n1781 l1778, b7 g1774 g1776 a1784 a1785 a1786 a1787] w1802) := ⟨HS.out.front 2 (by simp)⟩
      obtain ⟨t1803, HA1804, H⟩ := bind_some H
      refine (store_Store_Put.calls l1778 a1783 a1788 ((a1789) % 4294967296) g1776 A1779 l1778.length n1781 t1803 _ ⟨HS.out.begin (l := [b6 g1776 A1779 l1778.length n1781 a1783, r5 A1779 l1778.length n1781 l1778]) (rest := [b7 g1774 g1776 a1784 a1785 a1786 a1787])⟩ HA1804).mono ?_
      rintro e_ w1805 ⟨rfl, hS⟩
      replace HS : Aside0 (Sep FF w [b6 g1776 A1779 l1778.length n1781 t1803.2.1, r5 A1779 l1778.length n1781 t1803.2.2, b7 g1774 g1776 a1784 a1785 a1786 a1787] w1805) := ⟨HS.out.call (l := [b6 g1776 A1779 l1778.length n1781 a1783, r5 A1779 l1778.length n1781 l1778]) (rest := [b7 g1774 g1776 a1784 a1785 a1786 a1787]) hS⟩
      clear hS
      go_wp2_with fail
      go_ret
      rw [← some_eq H]
      exact ⟨(by first | rfl | (simp [IntKind.wrap_u32]; done)), ((((HS.out).front 1 (by simp)).front 1 (by simp)).front 2 (by simp)).keep (l := [b7 g1774 g1776 a1784 a1785 a1786 a1787, b6 g1776 A1779 l1778.length n1781 t1803.2.1, r5 A1779 l1778.length n1781 t1803.2.2]) (rest := [])⟩

set_option maxHeartbeats 30000000 in
set_option maxRecDepth 100000 in
theorem ground_Ground_SetReg.calls (l1758 : List Int) (a1763 : Int) (a1764 : Int) (a1765 : Int) (a1766 : Int) (a1767 : Int) (a1768 : Int) (a1769 : Int) (g1754 : Nat) (g1756 : Nat) (A1759 : Option Addr) (m1760 : Nat) (n1761 : Nat) (r : Bool × Int × List Int) (w : World)   (HS : Aside0 (Sep (fps [b7 g1754 g1756 a1764 a1765 a1766 a1767, b6 g1756 A1759 m1760 n1761 a1763, r5 A1759 m1760 n1761 l1758]) w [b7 g1754 g1756 a1764 a1765 a1766 a1767, b6 g1756 A1759 m1760 n1761 a1763, r5 A1759 m1760 n1761 l1758] w)) (H : Aside0 (ground_Ground_SetReg.f l1758 a1763 a1764 a1765 a1766 a1767 a1768 a1769 = some r)) :
    Calls Try.prog 42 #[.pointer (some ⟨g1754, 0, none⟩), .int .i64 a1768, .int .i64 a1769] w fun e w' => e = .returned (.bool r.1) ∧ Sep (fps [b7 g1754 g1756 a1764 a1765 a1766 a1767, b6 g1756 A1759 m1760 n1761 a1763, r5 A1759 m1760 n1761 l1758]) w [b7 g1754 g1756 a1764 a1765 a1766 a1767, b6 g1756 A1759 m1760 n1761 r.2.1, r5 A1759 m1760 n1761 r.2.2] w' := by
  generalize (fps [b7 g1754 g1756 a1764 a1765 a1766 a1767, b6 g1756 A1759 m1760 n1761 a1763, r5 A1759 m1760 n1761 l1758]) = FF at HS ⊢
  obtain rfl := (row_len (HS.out.at2)).symm
  unfold ground_Ground_SetReg.f at H
  go_enter Try.func42, Try.ntmps42
  go_wp2_with fail
  obtain ⟨t1809, HA1810, H⟩ := bind_some H
  refine (ground_reg.calls a1768 t1809 _ ⟨HS.out.begin (l := []) (rest := [b7 g1754 g1756 a1764 a1765 a1766 a1767, b6 g1756 A1759 l1758.length n1761 a1763, r5 A1759 l1758.length n1761 l1758])⟩ HA1810).mono ?_
  rintro e_ w1811 ⟨rfl, hS⟩
  replace HS : Aside0 (Sep FF w [b7 g1754 g1756 a1764 a1765 a1766 a1767, b6 g1756 A1759 l1758.length n1761 a1763, r5 A1759 l1758.length n1761 l1758] w1811) := ⟨HS.out.call (l := []) (rest := [b7 g1754 g1756 a1764 a1765 a1766 a1767, b6 g1756 A1759 l1758.length n1761 a1763, r5 A1759 l1758.length n1761 l1758]) hS⟩
  clear hS
  go_wp2_with fail
  obtain ⟨t1812, HA1813, H⟩ := bind_some H
  refine (ground_Ground_set.calls l1758 a1763 a1764 a1765 a1766 a1767 t1809 a1769 g1754 g1756 A1759 l1758.length n1761 t1812 _ ⟨HS.out.begin (l := [b7 g1754 g1756 a1764 a1765 a1766 a1767, b6 g1756 A1759 l1758.length n1761 a1763, r5 A1759 l1758.length n1761 l1758]) (rest := [])⟩ HA1813).mono ?_
  rintro e_ w1814 ⟨rfl, hS⟩
  replace HS : Aside0 (Sep FF w [b7 g1754 g1756 a1764 a1765 a1766 a1767, b6 g1756 A1759 l1758.length n1761 t1812.2.1, r5 A1759 l1758.length n1761 t1812.2.2] w1814) := ⟨HS.out.call (l := [b7 g1754 g1756 a1764 a1765 a1766 a1767, b6 g1756 A1759 l1758.length n1761 a1763, r5 A1759 l1758.length n1761 l1758]) (rest := []) hS⟩
  clear hS
  go_wp2_with fail
  go_ret
  rw [← some_eq H]
  exact ⟨(by first | rfl | (simp [IntKind.wrap_u32]; done)), ((((HS.out).front 2 (by simp)).front 2 (by simp)).front 2 (by simp)).keep (l := [b7 g1754 g1756 a1764 a1765 a1766 a1767, b6 g1756 A1759 l1758.length n1761 t1812.2.1, r5 A1759 l1758.length n1761 t1812.2.2]) (rest := [])⟩

set_option maxHeartbeats 30000000 in
set_option maxRecDepth 100000 in
theorem chain_Add_1_1.calls (a1596 : Int) (a1597 : Int) (a1598 : Int) (a1599 : Int) (a1600 : Int) (l1608 : List Int) (a1613 : Int) (a1614 : Int) (a1615 : Int) (a1616 : Int) (a1617 : Int) (a1620 : Int) (g1602 : Nat) (g1604 : Nat) (g1606 : Nat) (A1609 : Option Addr) (m1610 : Nat) (n1611 : Nat) (g1619 : Nat) (r : Int × List Int) (w : World)   (HS : Aside0 (Sep (fps [b12 g1602 g1604, b7 g1604 g1606 a1614 a1615 a1616 a1617, b6 g1606 A1609 m1610 n1611 a1613, r5 A1609 m1610 n1611 l1608, b10 g1619 a1620]) w [b12 g1602 g1604, b7 g1604 g1606 a1614 a1615 a1616 a1617, b6 g1606 A1609 m1610 n1611 a1613, r5 A1609 m1610 n1611 l1608, b10 g1619 a1620] w)) (H : Aside0 (chain_Add_1_1.f a1596 a1597 a1598 a1599 a1600 l1608 a1613 a1614 a1615 a1616 a1617 a1620 = some r)) :
    Calls Try.prog 89 #[.agg #[.int .i64 a1596, .int .i64 a1597, .int .i64 a1598], .int .i64 a1599, .int .i64 a1600, .pointer (some ⟨g1602, 0, none⟩), .pointer (some ⟨g1619, 0, none⟩)] w fun e w' => e = .returned (.tuple #[]) ∧ Sep (fps [b12 g1602 g1604, b7 g1604 g1606 a1614 a1615 a1616 a1617, b6 g1606 A1609 m1610 n1611 a1613, r5 A1609 m1610 n1611 l1608, b10 g1619 a1620]) w [b12 g1602 g1604, b7 g1604 g1606 a1614 a1615 a1616 a1617, b6 g1606 A1609 m1610 n1611 r.1, r5 A1609 m1610 n1611 r.2, b10 g1619 a1620] w' := by
  generalize (fps [b12 g1602 g1604, b7 g1604 g1606 a1614 a1615 a1616 a1617, b6 g1606 A1609 m1610 n1611 a1613, r5 A1609 m1610 n1611 l1608, b10 g1619 a1620]) = FF at HS ⊢
  obtain rfl := (row_len (HS.out.at3)).symm
  unfold chain_Add_1_1.f at H
  go_enter Try.func89, Try.ntmps89
  go_wp2_with (first | ((with_reducible refine gate_dst (N := 5) rfl ?_); refine box_on ?hg (N := 5) ?hd (cs := #[.int .i64 a1596, .int .i64 a1597, .int .i64 a1598]) (t := 134) ?hr ?_; (case hd => rfl); (case hg => rfl); (case hr => first | (go_simp; done) | (go_simp; rfl)); intro g1823 hg w1824 hbox hb; replace HS : Aside0 (Sep FF w [b12 g1602 g1604, b7 g1604 g1606 a1614 a1615 a1616 a1617, b6 g1606 A1609 l1608.length n1611 a1613, r5 A1609 l1608.length n1611 l1608, b10 g1619 a1620, b8 g1823 a1596 a1597 a1598] w1824) := ⟨HS.out.box hg hbox hb⟩; clear hg hbox hb; have hc1826 : w1824.cell? ⟨g1602, 0, none⟩ = some (.pointer (some ⟨g1604, 0, none⟩)) := blk_cellv (HS.out.at0) 0 rfl; have hc1827 : w1824.cell? ⟨g1619, 0, none⟩ = some (.int .i64 a1620) := blk_cellv (HS.out.at4) 0 rfl))
  clear hc1826 hc1827
  replace HS : Aside0 (Sep FF w [r5 A1609 l1608.length n1611 l1608, b12 g1602 g1604, b7 g1604 g1606 a1614 a1615 a1616 a1617, b6 g1606 A1609 l1608.length n1611 a1613, b10 g1619 a1620, b8 g1823 a1596 a1597 a1598] w1824) := ⟨HS.out.front 3 (by simp)⟩
  replace HS : Aside0 (Sep FF w [b6 g1606 A1609 l1608.length n1611 a1613, r5 A1609 l1608.length n1611 l1608, b12 g1602 g1604, b7 g1604 g1606 a1614 a1615 a1616 a1617, b10 g1619 a1620, b8 g1823 a1596 a1597 a1598] w1824) := ⟨HS.out.front 3 (by simp)⟩
  replace HS : Aside0 (Sep FF w [b7 g1604 g1606 a1614 a1615 a1616 a1617, b6 g1606 A1609 l1608.length n1611 a1613, r5 A1609 l1608.length n1611 l1608, b12 g1602 g1604, b10 g1619 a1620, b8 g1823 a1596 a1597 a1598] w1824) := ⟨HS.out.front 3 (by simp)⟩
  obtain ⟨t1828, HA1829, H⟩ := bind_some H
  refine (ground_Ground_SetWord.calls l1608 a1613 a1614 a1615 a1616 a1617 a1620 5 0 g1604 g1606 A1609 l1608.length n1611 t1828 _ ⟨HS.out.begin (l := [b7 g1604 g1606 a1614 a1615 a1616 a1617, b6 g1606 A1609 l1608.length n1611 a1613, r5 A1609 l1608.length n1611 l1608]) (rest := [b12 g1602 g1604, b10 g1619 a1620, b8 g1823 a1596 a1597 a1598])⟩ HA1829).mono ?_
  rintro e_ w1830 ⟨rfl, hS⟩
  replace HS : Aside0 (Sep FF w [b7 g1604 g1606 a1614 a1615 a1616 a1617, b6 g1606 A1609 l1608.length n1611 t1828.2.1, r5 A1609 l1608.length n1611 t1828.2.2, b12 g1602 g1604, b10 g1619 a1620, b8 g1823 a1596 a1597 a1598] w1830) := ⟨HS.out.call (l := [b7 g1604 g1606 a1614 a1615 a1616 a1617, b6 g1606 A1609 l1608.length n1611 a1613, r5 A1609 l1608.length n1611 l1608]) (rest := [b12 g1602 g1604, b10 g1619 a1620, b8 g1823 a1596 a1597 a1598]) hS⟩
  clear hS
  by_cases c1831 : a1600 = 0
  · have H := if_yes c1831 H
    have c1831b0 : (a1600 == 0) = true := beq_iff_eq.mpr c1831
    have c1831b1 : (a1600 != 0) = false := bne_eq_false_iff_eq.mpr c1831
    clear c1831
    have hc1832 : w1830.cell? ⟨g1602, 0, none⟩ = some (.pointer (some ⟨g1604, 0, none⟩)) := blk_cellv (HS.out.at3) 0 rfl
    have hc1833 : w1830.cell? ⟨g1823, 0, none⟩ = some (.int .i64 a1596) := blk_cellv (HS.out.at5) 0 rfl
    go_wp2_with fail
    clear hc1832 hc1833
    obtain ⟨t1834, HA1835, H⟩ := bind_some H
    refine (ground_Ground_SetReg.calls t1828.2.2 t1828.2.1 a1614 a1615 a1616 a1617 a1596 a1599 g1604 g1606 A1609 l1608.length n1611 t1834 _ ⟨HS.out.begin (l := [b7 g1604 g1606 a1614 a1615 a1616 a1617, b6 g1606 A1609 l1608.length n1611 t1828.2.1, r5 A1609 l1608.length n1611 t1828.2.2]) (rest := [b12 g1602 g1604, b10 g1619 a1620, b8 g1823 a1596 a1597 a1598])⟩ HA1835).mono ?_
    rintro e_ w1836 ⟨rfl, hS⟩
    replace HS : Aside0 (Sep FF w [b7 g1604 g1606 a1614 a1615 a1616 a1617, b6 g1606 A1609 l1608.length n1611 t1834.2.1, r5 A1609 l1608.length n1611 t1834.2.2, b12 g1602 g1604, b10 g1619 a1620, b8 g1823 a1596 a1597 a1598] w1836) := ⟨HS.out.call (l := [b7 g1604 g1606 a1614 a1615 a1616 a1617, b6 g1606 A1609 l1608.length n1611 t1828.2.1, r5 A1609 l1608.length n1611 t1828.2.2]) (rest := [b12 g1602 g1604, b10 g1619 a1620, b8 g1823 a1596 a1597 a1598]) hS⟩
    clear hS
    have hc1837 : w1836.cell? ⟨g1602, 0, none⟩ = some (.pointer (some ⟨g1604, 0, none⟩)) := blk_cellv (HS.out.at3) 0 rfl
    have hc1838 : w1836.cell? ⟨g1823, 1, none⟩ = some (.int .i64 a1597) := blk_cellv (HS.out.at5) 1 rfl
    go_wp2_with fail
    clear hc1837 hc1838
    obtain ⟨t1839, HA1840, H⟩ := bind_some H
    refine (ground_Ground_SetReg.calls t1834.2.2 t1834.2.1 a1614 a1615 a1616 a1617 a1597 a1599 g1604 g1606 A1609 l1608.length n1611 t1839 _ ⟨HS.out.begin (l := [b7 g1604 g1606 a1614 a1615 a1616 a1617, b6 g1606 A1609 l1608.length n1611 t1834.2.1, r5 A1609 l1608.length n1611 t1834.2.2]) (rest := [b12 g1602 g1604, b10 g1619 a1620, b8 g1823 a1596 a1597 a1598])⟩ HA1840).mono ?_
    rintro e_ w1841 ⟨rfl, hS⟩
    replace HS : Aside0 (Sep FF w [b7 g1604 g1606 a1614 a1615 a1616 a1617, b6 g1606 A1609 l1608.length n1611 t1839.2.1, r5 A1609 l1608.length n1611 t1839.2.2, b12 g1602 g1604, b10 g1619 a1620, b8 g1823 a1596 a1597 a1598] w1841) := ⟨HS.out.call (l := [b7 g1604 g1606 a1614 a1615 a1616 a1617, b6 g1606 A1609 l1608.length n1611 t1834.2.1, r5 A1609 l1608.length n1611 t1834.2.2]) (rest := [b12 g1602 g1604, b10 g1619 a1620, b8 g1823 a1596 a1597 a1598]) hS⟩
    clear hS
    replace HS : Aside0 (Sep FF w [b7 g1604 g1606 a1614 a1615 a1616 a1617, b6 g1606 A1609 l1608.length n1611 t1839.2.1, r5 A1609 l1608.length n1611 t1839.2.2, b12 g1602 g1604, b10 g1619 a1620] w1841) := ⟨HS.out.sub (.cons_cons _ (.cons_cons _ (.cons_cons _ (.cons_cons _ (.cons_cons _ (.cons _ .slnil))))))⟩
    go_wp2_with fail
    first | go_end0 | refine bodyPost_ret (results_none rfl _ _ _) rfl ?_
    rw [← some_eq H]
    exact ⟨rfl, ((((((HS.out).front 4 (by simp)).front 3 (by simp)).front 3 (by simp)).front 3 (by simp)).front 4 (by simp)).keep (l := [b12 g1602 g1604, b7 g1604 g1606 a1614 a1615 a1616 a1617, b6 g1606 A1609 l1608.length n1611 t1839.2.1, r5 A1609 l1608.length n1611 t1839.2.2, b10 g1619 a1620]) (rest := [])⟩
  · have H := if_no c1831 H
    have c1831b0 : (a1600 == 0) = false := beq_eq_false_iff_ne.mpr c1831
    have c1831b1 : (a1600 != 0) = true := bne_iff_ne.mpr c1831
    clear c1831
    go_wp2_with fail
    refine start_ (n := 9) (S := (fun w' => w'.cell? ⟨g1602, 0, none⟩ = some (.pointer (some ⟨g1604, 0, none⟩)) ∧ w'.cell? ⟨g1823, 1, none⟩ = some (.int .i64 a1597))) (ds := []) #[false, false, false, false, false, false, false, false, false] (by kernel_rfl) rfl rfl (⟨blk_cellv ((HS.out.drew).at3) 0 rfl, blk_cellv ((HS.out.drew).at5) 1 rfl⟩) (fun hHeld => ?_)
    have HS_ := Aside0.mk HS.out.drew
    clear HS
    generalize World.drew _ = w1843 at HS_ hHeld ⊢
    have HS := HS_
    clear HS_
    refine pure_ (i := 2) (N := some 20) (v := ?_) (a' := ?_) #[false, false, true, false, false, false, false, false, false] rfl rfl (by kernel_rfl) (fun _ _ _ h => h) (Or.inl ⟨by rfl, ?_⟩) ?_ ?_
    rotate_left
    · intro w'
      go_simp
      with_reducible rfl
    rotate_left
    · simp only [Act.put, List.setIfInBounds_toArray, List.set_cons_zero, List.set_cons_succ, i64_w, i32_w]
      rfl
    refine pure_ (i := 6) (N := some 24) (v := ?_) (a' := ?_) #[false, false, true, false, false, false, true, false, false] rfl rfl (by kernel_rfl) (fun _ _ _ h => h) (Or.inl ⟨by rfl, ?_⟩) ?_ ?_
    rotate_left
    · intro w'
      go_simp
      with_reducible rfl
    rotate_left
    · simp only [Act.put, List.setIfInBounds_toArray, List.set_cons_zero, List.set_cons_succ, i64_w, i32_w]
      rfl
    refine pure_ (i := 7) (N := some 25) (v := ?_) (a' := ?_) #[false, false, true, false, false, false, true, true, false] rfl rfl (by kernel_rfl) (fun _ _ _ h => h) (Or.inl ⟨by rfl, ?_⟩) ?_ ?_
    rotate_left
    · intro w'
      go_simp
      with_reducible rfl
    rotate_left
    · simp only [Act.put, List.setIfInBounds_toArray, List.set_cons_zero, List.set_cons_succ, i64_w, i32_w]
      rfl
    refine take_ (i := 0) (N := some 18) (v := ?_) (a' := ?_) #[true, false, true, false, false, false, true, true, false] rfl rfl (by kernel_rfl) (fun _ _ _ h => h) (Or.inl ⟨by rfl, ?_⟩) hHeld ?_ ?_
    rotate_left
    · rintro w' hS'
      obtain ⟨s0, s1⟩ := hS'
      go_simp
      with_reducible rfl
    rotate_left
    · simp only [Act.put, List.setIfInBounds_toArray, List.set_cons_zero, List.set_cons_succ, i64_w, i32_w]
      rfl
    refine take_ (i := 1) (N := some 19) (v := ?_) (a' := ?_) #[true, true, true, false, false, false, true, true, false] rfl rfl (by kernel_rfl) (fun _ _ _ h => h) (Or.inl ⟨by rfl, ?_⟩) hHeld ?_ ?_
    rotate_left
    · rintro w' hS'
      obtain ⟨s0, s1⟩ := hS'
      go_simp
      with_reducible rfl
    rotate_left
    · simp only [Act.put, List.setIfInBounds_toArray, List.set_cons_zero, List.set_cons_succ, i64_w, i32_w]
      rfl
    refine take_ (i := 3) (N := some 21) (v := ?_) (a' := ?_) #[true, true, true, true, false, false, true, true, false] rfl rfl (by kernel_rfl) (fun _ _ _ h => h) (Or.inl ⟨by rfl, ?_⟩) hHeld ?_ ?_
    rotate_left
    · rintro w' hS'
      obtain ⟨s0, s1⟩ := hS'
      go_simp
      with_reducible rfl
    rotate_left
    · simp only [Act.put, List.setIfInBounds_toArray, List.set_cons_zero, List.set_cons_succ, i64_w, i32_w]
      rfl
    refine one_ (i := 4) (N := some 22) #[true, true, true, true, true, false, true, true, false] rfl rfl (by kernel_rfl) (by decide) (fun K hK => ?_)
    obtain ⟨t1844, HA1845, H⟩ := bind_some H
    refine goes_ Try.func36 (by kernel_rfl) rfl #[.pointer (some ⟨g1604, 0, none⟩), .int .i64 a1597] (by rfl) rfl rfl (by (try simp only [List.map_toArray, List.map_cons, List.map_nil]); first | done | rfl) ?_
    refine (ground_Ground_Reg.calls t1828.2.2 t1828.2.1 a1614 a1615 a1616 a1617 a1597 g1604 g1606 A1609 l1608.length n1611 t1844 _ ⟨HS.out.begin (l := [b7 g1604 g1606 a1614 a1615 a1616 a1617, b6 g1606 A1609 l1608.length n1611 t1828.2.1, r5 A1609 l1608.length n1611 t1828.2.2]) (rest := [b12 g1602 g1604, b10 g1619 a1620, b8 g1823 a1596 a1597 a1598])⟩ HA1845).mono ?_
    rintro e_ w1846 ⟨rfl, hS⟩
    replace HS : Aside0 (Sep FF w [b7 g1604 g1606 a1614 a1615 a1616 a1617, b6 g1606 A1609 l1608.length n1611 t1844.2, r5 A1609 l1608.length n1611 t1828.2.2, b12 g1602 g1604, b10 g1619 a1620, b8 g1823 a1596 a1597 a1598] w1846) := ⟨HS.out.call (l := [b7 g1604 g1606 a1614 a1615 a1616 a1617, b6 g1606 A1609 l1608.length n1611 t1828.2.1, r5 A1609 l1608.length n1611 t1828.2.2]) (rest := [b12 g1602 g1604, b10 g1619 a1620, b8 g1823 a1596 a1597 a1598]) hS⟩
    clear hS
    refine ⟨_, rfl, ?_⟩
    refine hK.out _ _ (⟨blk_cellv (HS.out.at3) 0 rfl, blk_cellv (HS.out.at5) 1 rfl⟩) (fun hHeld => ?_)
    clear hK K
    refine norm_ (a' := ?_) ?_ ?_
    rotate_left
    · show Act.put _ (some 22) _ = _
      simp only [Act.put, List.setIfInBounds_toArray, List.set_cons_zero, List.set_cons_succ, i64_w, i32_w]
      rfl
    refine pure_ (i := 5) (N := some 23) (v := ?_) (a' := ?_) #[true, true, true, true, true, true, true, true, false] rfl rfl (by kernel_rfl) (fun _ _ _ h => h) (Or.inl ⟨by rfl, ?_⟩) ?_ ?_
    rotate_left
    · intro w'
      go_simp
      with_reducible rfl
    rotate_left
    · simp only [Act.put, List.setIfInBounds_toArray, List.set_cons_zero, List.set_cons_succ, i64_w, i32_w]
      rfl
    refine one_ (i := 8) (N := some 26) #[true, true, true, true, true, true, true, true, true] rfl rfl (by kernel_rfl) (by decide) (fun K hK => ?_)
    obtain ⟨t1847, HA1848, H⟩ := bind_some H
    refine goes_ Try.func46 (by kernel_rfl) rfl #[.pointer (some ⟨g1604, 0, none⟩), .int .i64 (wrap64 (t1844.1 - 1)), .int .i64 5, .int .u32 ((a1599) % 4294967296)] (by rfl) rfl rfl (by (try simp only [List.map_toArray, List.map_cons, List.map_nil]); first | done | rfl) ?_
    refine (ground_Ground_SetWord.calls t1828.2.2 t1844.2 a1614 a1615 a1616 a1617 (wrap64 (t1844.1 - 1)) 5 ((a1599) % 4294967296) g1604 g1606 A1609 l1608.length n1611 t1847 _ ⟨HS.out.begin (l := [b7 g1604 g1606 a1614 a1615 a1616 a1617, b6 g1606 A1609 l1608.length n1611 t1844.2, r5 A1609 l1608.length n1611 t1828.2.2]) (rest := [b12 g1602 g1604, b10 g1619 a1620, b8 g1823 a1596 a1597 a1598])⟩ HA1848).mono ?_
    rintro e_ w1849 ⟨rfl, hS⟩
    replace HS : Aside0 (Sep FF w [b7 g1604 g1606 a1614 a1615 a1616 a1617, b6 g1606 A1609 l1608.length n1611 t1847.2.1, r5 A1609 l1608.length n1611 t1847.2.2, b12 g1602 g1604, b10 g1619 a1620, b8 g1823 a1596 a1597 a1598] w1849) := ⟨HS.out.call (l := [b7 g1604 g1606 a1614 a1615 a1616 a1617, b6 g1606 A1609 l1608.length n1611 t1844.2, r5 A1609 l1608.length n1611 t1828.2.2]) (rest := [b12 g1602 g1604, b10 g1619 a1620, b8 g1823 a1596 a1597 a1598]) hS⟩
    clear hS
    refine ⟨_, rfl, ?_⟩
    refine hK.out _ _ (⟨blk_cellv (HS.out.at3) 0 rfl, blk_cellv (HS.out.at5) 1 rfl⟩) (fun hHeld => ?_)
    clear hK K
    refine norm_ (a' := ?_) ?_ ?_
    rotate_left
    · show Act.put _ (some 26) _ = _
      simp only [Act.put, List.setIfInBounds_toArray, List.set_cons_zero, List.set_cons_succ, i64_w, i32_w]
      rfl
    refine done_ (by kernel_rfl) ?_
    have hc1850 : w1849.cell? ⟨g1602, 0, none⟩ = some (.pointer (some ⟨g1604, 0, none⟩)) := blk_cellv (HS.out.at3) 0 rfl
    have hc1851 : w1849.cell? ⟨g1823, 1, none⟩ = some (.int .i64 a1597) := blk_cellv (HS.out.at5) 1 rfl
    go_wp2_with fail
    clear hc1850 hc1851
    obtain ⟨t1839, HA1852, H⟩ := bind_some H
    refine (ground_Ground_SetReg.calls t1847.2.2 t1847.2.1 a1614 a1615 a1616 a1617 a1597 a1599 g1604 g1606 A1609 l1608.length n1611 t1839 _ ⟨HS.out.begin (l := [b7 g1604 g1606 a1614 a1615 a1616 a1617, b6 g1606 A1609 l1608.length n1611 t1847.2.1, r5 A1609 l1608.length n1611 t1847.2.2]) (rest := [b12 g1602 g1604, b10 g1619 a1620, b8 g1823 a1596 a1597 a1598])⟩ HA1852).mono ?_
    rintro e_ w1853 ⟨rfl, hS⟩
    replace HS : Aside0 (Sep FF w [b7 g1604 g1606 a1614 a1615 a1616 a1617, b6 g1606 A1609 l1608.length n1611 t1839.2.1, r5 A1609 l1608.length n1611 t1839.2.2, b12 g1602 g1604, b10 g1619 a1620, b8 g1823 a1596 a1597 a1598] w1853) := ⟨HS.out.call (l := [b7 g1604 g1606 a1614 a1615 a1616 a1617, b6 g1606 A1609 l1608.length n1611 t1847.2.1, r5 A1609 l1608.length n1611 t1847.2.2]) (rest := [b12 g1602 g1604, b10 g1619 a1620, b8 g1823 a1596 a1597 a1598]) hS⟩
    clear hS
    replace HS : Aside0 (Sep FF w [b7 g1604 g1606 a1614 a1615 a1616 a1617, b6 g1606 A1609 l1608.length n1611 t1839.2.1, r5 A1609 l1608.length n1611 t1839.2.2, b12 g1602 g1604, b10 g1619 a1620] w1853) := ⟨HS.out.sub (.cons_cons _ (.cons_cons _ (.cons_cons _ (.cons_cons _ (.cons_cons _ (.cons _ .slnil))))))⟩
    go_wp2_with fail
    first | go_end0 | refine bodyPost_ret (results_none rfl _ _ _) rfl ?_
    rw [← some_eq H]
    exact ⟨rfl, ((((((HS.out).front 4 (by simp)).front 3 (by simp)).front 3 (by simp)).front 3 (by simp)).front 4 (by simp)).keep (l := [b12 g1602 g1604, b7 g1604 g1606 a1614 a1615 a1616 a1617, b6 g1606 A1609 l1608.length n1611 t1839.2.1, r5 A1609 l1608.length n1611 t1839.2.2, b10 g1619 a1620]) (rest := [])⟩

set_option maxHeartbeats 30000000 in
set_option maxRecDepth 100000 in
theorem chain_put_F89.calls (l1346 : List Int) (a1351 : Int) (a1352 : Int) (a1353 : Int) (a1354 : Int) (a1355 : Int) (a1356 : Int) (a1357 : Int) (a1362 : Int) (g1342 : Nat) (g1344 : Nat) (A1347 : Option Addr) (m1348 : Nat) (n1349 : Nat) (g1359 : Nat) (g1361 : Nat) (r : Bool × Int × List Int) (w : World)   (HS : Aside0 (Sep (fps [b7 g1342 g1344 a1352 a1353 a1354 a1355, b6 g1344 A1347 m1348 n1349 a1351, r5 A1347 m1348 n1349 l1346, b12 g1359 g1342, b10 g1361 a1362]) w [b7 g1342 g1344 a1352 a1353 a1354 a1355, b6 g1344 A1347 m1348 n1349 a1351, r5 A1347 m1348 n1349 l1346, b12 g1359 g1342, b10 g1361 a1362] w)) (H : Aside0 (chain_put_F89.f l1346 a1351 a1352 a1353 a1354 a1355 a1356 a1357 a1362 = some r)) :
    Calls Try.prog 88 #[.pointer (some ⟨g1342, 0, none⟩), .int .i64 a1356, .int .i64 a1357, .func (.func 89) #[] #[.pointer (some ⟨g1359, 0, none⟩), .pointer (some ⟨g1361, 0, none⟩)]] w fun e w' => e = .returned (.bool r.1) ∧ Sep (fps [b7 g1342 g1344 a1352 a1353 a1354 a1355, b6 g1344 A1347 m1348 n1349 a1351, r5 A1347 m1348 n1349 l1346, b12 g1359 g1342, b10 g1361 a1362]) w [b7 g1342 g1344 a1352 a1353 a1354 a1355, b6 g1344 A1347 m1348 n1349 r.2.1, r5 A1347 m1348 n1349 r.2.2, b12 g1359 g1342, b10 g1361 a1362] w' := by
  generalize (fps [b7 g1342 g1344 a1352 a1353 a1354 a1355, b6 g1344 A1347 m1348 n1349 a1351, r5 A1347 m1348 n1349 l1346, b12 g1359 g1342, b10 g1361 a1362]) = FF at HS ⊢
  obtain rfl := (row_len (HS.out.at2)).symm
  unfold chain_put_F89.f at H
  go_enter Try.func88, Try.ntmps88
  go_wp2_with fail
  obtain ⟨t1861, HA1862, H⟩ := bind_some H
  refine (chain_of.calls l1346 a1351 a1352 a1353 a1354 a1355 a1356 g1342 g1344 A1347 l1346.length n1349 t1861 _ ⟨HS.out.begin (l := [b7 g1342 g1344 a1352 a1353 a1354 a1355, b6 g1344 A1347 l1346.length n1349 a1351, r5 A1347 l1346.length n1349 l1346]) (rest := [b12 g1359 g1342, b10 g1361 a1362])⟩ HA1862).mono ?_
  rintro e_ w1863 ⟨rfl, hS⟩
  replace HS : Aside0 (Sep FF w [b7 g1342 g1344 a1352 a1353 a1354 a1355, b6 g1344 A1347 l1346.length n1349 a1351, r5 A1347 l1346.length n1349 l1346, b12 g1359 g1342, b10 g1361 a1362] w1863) := ⟨HS.out.call (l := [b7 g1342 g1344 a1352 a1353 a1354 a1355, b6 g1344 A1347 l1346.length n1349 a1351, r5 A1347 l1346.length n1349 l1346]) (rest := [b12 g1359 g1342, b10 g1361 a1362]) hS⟩
  clear hS
  by_cases c1874 : t1861.2.2.2 = true
  · have H := if_yes c1874 H
    have c1874b0 : t1861.2.2.2 = true := c1874
    have c1874b1 : (!t1861.2.2.2) = false := by rw [c1874b0]; rfl
    try rw [c1874b1]
    clear c1874
    by_cases c1875 : a1357 < 0
    · have H := if_yes c1875 H
      have c1875b0 : decide (a1357 < 0) = true := decide_eq_true c1875
      clear c1875
      go_wp2_with (first | ((with_reducible refine gate_dst (N := 9) rfl ?_); refine box_on ?hg (N := 9) ?hd (cs := #[.int .i64 0, .int .i64 0, .int .i64 0]) (t := 134) ?hr ?_; (case hd => rfl); (case hg => rfl); (case hr => first | (go_simp; done) | (go_simp; rfl)); intro g1864 hg w1865 hbox hb; replace HS : Aside0 (Sep FF w [b7 g1342 g1344 a1352 a1353 a1354 a1355, b6 g1344 A1347 l1346.length n1349 a1351, r5 A1347 l1346.length n1349 l1346, b12 g1359 g1342, b10 g1361 a1362, b8 g1864 0 0 0] w1865) := ⟨HS.out.box hg hbox hb⟩; clear hg hbox hb; have hc1867 : w1865.cell? ⟨g1864, 0, none⟩ = some (.int .i64 0) := blk_cellv (HS.out.at5) 0 rfl; have hz1868 : w1865.frozen? ⟨g1864, 0, none⟩ = false := blk_fz (HS.out.at5) 0; have hc1869 : w1865.cell? ⟨g1864, 1, none⟩ = some (.int .i64 0) := blk_cellv (HS.out.at5) 1 rfl; have hz1870 : w1865.frozen? ⟨g1864, 1, none⟩ = false := blk_fz (HS.out.at5) 1; have hc1871 : w1865.cell? ⟨g1864, 2, none⟩ = some (.int .i64 0) := blk_cellv (HS.out.at5) 2 rfl; have hz1872 : w1865.frozen? ⟨g1864, 2, none⟩ = false := blk_fz (HS.out.at5) 2) | ((with_reducible refine gate_store (t := 134) (p := 9) rfl ?_); refine store_event (w1 := (World.setCell (World.setCell (World.setCell w1865 ⟨g1864, 0, none⟩ (.int .i64 t1861.1)) ⟨g1864, 1, none⟩ (.int .i64 t1861.2.1)) ⟨g1864, 2, none⟩ (.int .i64 t1861.2.2.1))) rfl (t := 134) (p := 9) rfl rfl ?hr ?_; (case hr => first | (go_simp; done) | (go_simp; rfl)); intro w1873 hst; clear hc1867 hz1868 hc1869 hz1870 hc1871 hz1872; replace HS : Aside0 (Sep FF w [b7 g1342 g1344 a1352 a1353 a1354 a1355, b6 g1344 A1347 l1346.length n1349 a1351, r5 A1347 l1346.length n1349 l1346, b12 g1359 g1342, b10 g1361 a1362, b8 g1864 t1861.1 t1861.2.1 t1861.2.2.1] w1873) := ⟨by rw [hst]; exact HS.out.setAll (l1 := [b7 g1342 g1344 a1352 a1353 a1354 a1355, b6 g1344 A1347 l1346.length n1349 a1351, r5 A1347 l1346.length n1349 l1346, b12 g1359 g1342, b10 g1361 a1362]) (l2 := []) [.int .i64 t1861.1, .int .i64 t1861.2.1, .int .i64 t1861.2.2.1] rfl⟩; clear hst; replace HS : Aside0 (Sep FF w [b7 g1342 g1344 a1352 a1353 a1354 a1355, b6 g1344 A1347 l1346.length n1349 a1351, r5 A1347 l1346.length n1349 l1346, b12 g1359 g1342, b10 g1361 a1362] w1873) := ⟨HS.out.sub (.cons_cons _ (.cons_cons _ (.cons_cons _ (.cons_cons _ (.cons_cons _ (.cons _ .slnil))))))⟩))
      go_ret
      rw [← some_eq H]
      exact ⟨(by first | rfl | (simp [IntKind.wrap_u32]; done)), ((((((HS.out).front 4 (by simp)).front 4 (by simp)).front 4 (by simp)).front 4 (by simp)).front 4 (by simp)).keep (l := [b7 g1342 g1344 a1352 a1353 a1354 a1355, b6 g1344 A1347 l1346.length n1349 a1351, r5 A1347 l1346.length n1349 l1346, b12 g1359 g1342, b10 g1361 a1362]) (rest := [])⟩
    · have H := if_no c1875 H
      have c1875b0 : decide (a1357 < 0) = false := decide_eq_false c1875
      clear c1875
      go_wp2_with (first | ((with_reducible refine gate_dst (N := 9) rfl ?_); refine box_on ?hg (N := 9) ?hd (cs := #[.int .i64 0, .int .i64 0, .int .i64 0]) (t := 134) ?hr ?_; (case hd => rfl); (case hg => rfl); (case hr => first | (go_simp; done) | (go_simp; rfl)); intro g1864 hg w1865 hbox hb; replace HS : Aside0 (Sep FF w [b7 g1342 g1344 a1352 a1353 a1354 a1355, b6 g1344 A1347 l1346.length n1349 a1351, r5 A1347 l1346.length n1349 l1346, b12 g1359 g1342, b10 g1361 a1362, b8 g1864 0 0 0] w1865) := ⟨HS.out.box hg hbox hb⟩; clear hg hbox hb; have hc1867 : w1865.cell? ⟨g1864, 0, none⟩ = some (.int .i64 0) := blk_cellv (HS.out.at5) 0 rfl; have hz1868 : w1865.frozen? ⟨g1864, 0, none⟩ = false := blk_fz (HS.out.at5) 0; have hc1869 : w1865.cell? ⟨g1864, 1, none⟩ = some (.int .i64 0) := blk_cellv (HS.out.at5) 1 rfl; have hz1870 : w1865.frozen? ⟨g1864, 1, none⟩ = false := blk_fz (HS.out.at5) 1; have hc1871 : w1865.cell? ⟨g1864, 2, none⟩ = some (.int .i64 0) := blk_cellv (HS.out.at5) 2 rfl; have hz1872 : w1865.frozen? ⟨g1864, 2, none⟩ = false := blk_fz (HS.out.at5) 2) | ((with_reducible refine gate_store (t := 134) (p := 9) rfl ?_); refine store_event (w1 := (World.setCell (World.setCell (World.setCell w1865 ⟨g1864, 0, none⟩ (.int .i64 t1861.1)) ⟨g1864, 1, none⟩ (.int .i64 t1861.2.1)) ⟨g1864, 2, none⟩ (.int .i64 t1861.2.2.1))) rfl (t := 134) (p := 9) rfl rfl ?hr ?_; (case hr => first | (go_simp; done) | (go_simp; rfl)); intro w1873 hst; clear hc1867 hz1868 hc1869 hz1870 hc1871 hz1872; replace HS : Aside0 (Sep FF w [b7 g1342 g1344 a1352 a1353 a1354 a1355, b6 g1344 A1347 l1346.length n1349 a1351, r5 A1347 l1346.length n1349 l1346, b12 g1359 g1342, b10 g1361 a1362, b8 g1864 t1861.1 t1861.2.1 t1861.2.2.1] w1873) := ⟨by rw [hst]; exact HS.out.setAll (l1 := [b7 g1342 g1344 a1352 a1353 a1354 a1355, b6 g1344 A1347 l1346.length n1349 a1351, r5 A1347 l1346.length n1349 l1346, b12 g1359 g1342, b10 g1361 a1362]) (l2 := []) [.int .i64 t1861.1, .int .i64 t1861.2.1, .int .i64 t1861.2.2.1] rfl⟩; clear hst))
      obtain ⟨t1876, HA1877, H⟩ := bind_some H
      refine (ground_Ground_Conf.calls l1346 a1351 a1352 a1353 a1354 a1355 g1342 g1344 A1347 l1346.length n1349 t1876 _ ⟨HS.out.begin (l := [b7 g1342 g1344 a1352 a1353 a1354 a1355, b6 g1344 A1347 l1346.length n1349 a1351, r5 A1347 l1346.length n1349 l1346]) (rest := [b12 g1359 g1342, b10 g1361 a1362, b8 g1864 t1861.1 t1861.2.1 t1861.2.2.1])⟩ HA1877).mono ?_
      rintro e_ w1878 ⟨rfl, hS⟩
      replace HS : Aside0 (Sep FF w [b7 g1342 g1344 a1352 a1353 a1354 a1355, b6 g1344 A1347 l1346.length n1349 a1351, r5 A1347 l1346.length n1349 l1346, b12 g1359 g1342, b10 g1361 a1362, b8 g1864 t1861.1 t1861.2.1 t1861.2.2.1] w1878) := ⟨HS.out.call (l := [b7 g1342 g1344 a1352 a1353 a1354 a1355, b6 g1344 A1347 l1346.length n1349 a1351, r5 A1347 l1346.length n1349 l1346]) (rest := [b12 g1359 g1342, b10 g1361 a1362, b8 g1864 t1861.1 t1861.2.1 t1861.2.2.1]) hS⟩
      clear hS
      by_cases c1880 : a1357 ≥ t1876.1
      · have H := if_yes c1880 H
        have c1880b0 : decide (t1876.1 ≤ a1357) = true := decide_eq_true c1880
        clear c1880
        have fl1879 : ∀ w, (Instr.field 49 (.agg #[.int .i64 t1876.1, .int .i64 t1876.2.1, .int .i64 t1876.2.2.1, .int .i64 t1876.2.2.2]) 0).run Try.prog w = .ok (.int .i64 t1876.1) w := fun _ => by kernel_rfl
        replace HS : Aside0 (Sep FF w [b7 g1342 g1344 a1352 a1353 a1354 a1355, b6 g1344 A1347 l1346.length n1349 a1351, r5 A1347 l1346.length n1349 l1346, b12 g1359 g1342, b10 g1361 a1362] w1878) := ⟨HS.out.sub (.cons_cons _ (.cons_cons _ (.cons_cons _ (.cons_cons _ (.cons_cons _ (.cons _ .slnil))))))⟩
        go_wp2_with fail
        clear fl1879
        go_ret
        rw [← some_eq H]
        exact ⟨(by first | rfl | (simp [IntKind.wrap_u32]; done)), ((((((HS.out).front 4 (by simp)).front 4 (by simp)).front 4 (by simp)).front 4 (by simp)).front 4 (by simp)).keep (l := [b7 g1342 g1344 a1352 a1353 a1354 a1355, b6 g1344 A1347 l1346.length n1349 a1351, r5 A1347 l1346.length n1349 l1346, b12 g1359 g1342, b10 g1361 a1362]) (rest := [])⟩
      · have H := if_no c1880 H
        have c1880b0 : decide (t1876.1 ≤ a1357) = false := decide_eq_false c1880
        clear c1880
        have fl1879 : ∀ w, (Instr.field 49 (.agg #[.int .i64 t1876.1, .int .i64 t1876.2.1, .int .i64 t1876.2.2.1, .int .i64 t1876.2.2.2]) 0).run Try.prog w = .ok (.int .i64 t1876.1) w := fun _ => by kernel_rfl
        have hc1881 : w1878.cell? ⟨g1864, 2, none⟩ = some (.int .i64 t1861.2.2.1) := blk_cellv (HS.out.at5) 2 rfl
        go_wp2_with fail
        clear fl1879 hc1881
        obtain ⟨t1882, HA1883, H⟩ := bind_some H
        refine (ground_Ground_Reg.calls l1346 a1351 a1352 a1353 a1354 a1355 t1861.2.2.1 g1342 g1344 A1347 l1346.length n1349 t1882 _ ⟨HS.out.begin (l := [b7 g1342 g1344 a1352 a1353 a1354 a1355, b6 g1344 A1347 l1346.length n1349 a1351, r5 A1347 l1346.length n1349 l1346]) (rest := [b12 g1359 g1342, b10 g1361 a1362, b8 g1864 t1861.1 t1861.2.1 t1861.2.2.1])⟩ HA1883).mono ?_
        rintro e_ w1884 ⟨rfl, hS⟩
        replace HS : Aside0 (Sep FF w [b7 g1342 g1344 a1352 a1353 a1354 a1355, b6 g1344 A1347 l1346.length n1349 t1882.2, r5 A1347 l1346.length n1349 l1346, b12 g1359 g1342, b10 g1361 a1362, b8 g1864 t1861.1 t1861.2.1 t1861.2.2.1] w1884) := ⟨HS.out.call (l := [b7 g1342 g1344 a1352 a1353 a1354 a1355, b6 g1344 A1347 l1346.length n1349 a1351, r5 A1347 l1346.length n1349 l1346]) (rest := [b12 g1359 g1342, b10 g1361 a1362, b8 g1864 t1861.1 t1861.2.1 t1861.2.2.1]) hS⟩
        clear hS
        have hc1885 : w1884.cell? ⟨g1864, 0, none⟩ = some (.int .i64 t1861.1) := blk_cellv (HS.out.at5) 0 rfl
        have hc1886 : w1884.cell? ⟨g1864, 1, none⟩ = some (.int .i64 t1861.2.1) := blk_cellv (HS.out.at5) 1 rfl
        have hc1887 : w1884.cell? ⟨g1864, 2, none⟩ = some (.int .i64 t1861.2.2.1) := blk_cellv (HS.out.at5) 2 rfl
        go_wp2_with fail
        clear hc1885 hc1886 hc1887
        replace HS : Aside0 (Sep FF w [b10 g1361 a1362, b7 g1342 g1344 a1352 a1353 a1354 a1355, b6 g1344 A1347 l1346.length n1349 t1882.2, r5 A1347 l1346.length n1349 l1346, b12 g1359 g1342, b8 g1864 t1861.1 t1861.2.1 t1861.2.2.1] w1884) := ⟨HS.out.front 4 (by simp)⟩
        replace HS : Aside0 (Sep FF w [r5 A1347 l1346.length n1349 l1346, b10 g1361 a1362, b7 g1342 g1344 a1352 a1353 a1354 a1355, b6 g1344 A1347 l1346.length n1349 t1882.2, b12 g1359 g1342, b8 g1864 t1861.1 t1861.2.1 t1861.2.2.1] w1884) := ⟨HS.out.front 3 (by simp)⟩
        replace HS : Aside0 (Sep FF w [b6 g1344 A1347 l1346.length n1349 t1882.2, r5 A1347 l1346.length n1349 l1346, b10 g1361 a1362, b7 g1342 g1344 a1352 a1353 a1354 a1355, b12 g1359 g1342, b8 g1864 t1861.1 t1861.2.1 t1861.2.2.1] w1884) := ⟨HS.out.front 3 (by simp)⟩
        replace HS : Aside0 (Sep FF w [b7 g1342 g1344 a1352 a1353 a1354 a1355, b6 g1344 A1347 l1346.length n1349 t1882.2, r5 A1347 l1346.length n1349 l1346, b10 g1361 a1362, b12 g1359 g1342, b8 g1864 t1861.1 t1861.2.1 t1861.2.2.1] w1884) := ⟨HS.out.front 3 (by simp)⟩
        replace HS : Aside0 (Sep FF w [b12 g1359 g1342, b7 g1342 g1344 a1352 a1353 a1354 a1355, b6 g1344 A1347 l1346.length n1349 t1882.2, r5 A1347 l1346.length n1349 l1346, b10 g1361 a1362, b8 g1864 t1861.1 t1861.2.1 t1861.2.2.1] w1884) := ⟨HS.out.front 4 (by simp)⟩
        obtain ⟨t1888, HA1889, H⟩ := bind_some H
        refine (chain_Add_1_1.calls t1861.1 t1861.2.1 t1861.2.2.1 (wrap64 (a1357 + 1)) t1882.1 l1346 t1882.2 a1352 a1353 a1354 a1355 a1362 g1359 g1342 g1344 A1347 l1346.length n1349 g1361 t1888 _ ⟨HS.out.begin (l := [b12 g1359 g1342, b7 g1342 g1344 a1352 a1353 a1354 a1355, b6 g1344 A1347 l1346.length n1349 t1882.2, r5 A1347 l1346.length n1349 l1346, b10 g1361 a1362]) (rest := [b8 g1864 t1861.1 t1861.2.1 t1861.2.2.1])⟩ HA1889).mono ?_
        rintro e_ w1890 ⟨rfl, hS⟩
        replace HS : Aside0 (Sep FF w [b12 g1359 g1342, b7 g1342 g1344 a1352 a1353 a1354 a1355, b6 g1344 A1347 l1346.length n1349 t1888.1, r5 A1347 l1346.length n1349 t1888.2, b10 g1361 a1362, b8 g1864 t1861.1 t1861.2.1 t1861.2.2.1] w1890) := ⟨HS.out.call (l := [b12 g1359 g1342, b7 g1342 g1344 a1352 a1353 a1354 a1355, b6 g1344 A1347 l1346.length n1349 t1882.2, r5 A1347 l1346.length n1349 l1346, b10 g1361 a1362]) (rest := [b8 g1864 t1861.1 t1861.2.1 t1861.2.2.1]) hS⟩
        clear hS
        have hc1891 : w1890.cell? ⟨g1864, 2, none⟩ = some (.int .i64 t1861.2.2.1) := blk_cellv (HS.out.at5) 2 rfl
        go_wp2_with fail
        clear hc1891
        replace HS : Aside0 (Sep FF w [r5 A1347 l1346.length n1349 t1888.2, b12 g1359 g1342, b7 g1342 g1344 a1352 a1353 a1354 a1355, b6 g1344 A1347 l1346.length n1349 t1888.1, b10 g1361 a1362, b8 g1864 t1861.1 t1861.2.1 t1861.2.2.1] w1890) := ⟨HS.out.front 3 (by simp)⟩
        replace HS : Aside0 (Sep FF w [b6 g1344 A1347 l1346.length n1349 t1888.1, r5 A1347 l1346.length n1349 t1888.2, b12 g1359 g1342, b7 g1342 g1344 a1352 a1353 a1354 a1355, b10 g1361 a1362, b8 g1864 t1861.1 t1861.2.1 t1861.2.2.1] w1890) := ⟨HS.out.front 3 (by simp)⟩
        replace HS : Aside0 (Sep FF w [b7 g1342 g1344 a1352 a1353 a1354 a1355, b6 g1344 A1347 l1346.length n1349 t1888.1, r5 A1347 l1346.length n1349 t1888.2, b12 g1359 g1342, b10 g1361 a1362, b8 g1864 t1861.1 t1861.2.1 t1861.2.2.1] w1890) := ⟨HS.out.front 3 (by simp)⟩
        obtain ⟨t1892, HA1893, H⟩ := bind_some H
        refine (ground_Ground_SetReg.calls t1888.2 t1888.1 a1352 a1353 a1354 a1355 t1861.2.2.1 (wrap64 (t1882.1 + 1)) g1342 g1344 A1347 l1346.length n1349 t1892 _ ⟨HS.out.begin (l := [b7 g1342 g1344 a1352 a1353 a1354 a1355, b6 g1344 A1347 l1346.length n1349 t1888.1, r5 A1347 l1346.length n1349 t1888.2]) (rest := [b12 g1359 g1342, b10 g1361 a1362, b8 g1864 t1861.1 t1861.2.1 t1861.2.2.1])⟩ HA1893).mono ?_
        rintro e_ w1894 ⟨rfl, hS⟩
        replace HS : Aside0 (Sep FF w [b7 g1342 g1344 a1352 a1353 a1354 a1355, b6 g1344 A1347 l1346.length n1349 t1892.2.1, r5 A1347 l1346.length n1349 t1892.2.2, b12 g1359 g1342, b10 g1361 a1362, b8 g1864 t1861.1 t1861.2.1 t1861.2.2.1] w1894) := ⟨HS.out.call (l := [b7 g1342 g1344 a1352 a1353 a1354 a1355, b6 g1344 A1347 l1346.length n1349 t1888.1, r5 A1347 l1346.length n1349 t1888.2]) (rest := [b12 g1359 g1342, b10 g1361 a1362, b8 g1864 t1861.1 t1861.2.1 t1861.2.2.1]) hS⟩
        clear hS
        replace HS : Aside0 (Sep FF w [b7 g1342 g1344 a1352 a1353 a1354 a1355, b6 g1344 A1347 l1346.length n1349 t1892.2.1, r5 A1347 l1346.length n1349 t1892.2.2, b12 g1359 g1342, b10 g1361 a1362] w1894) := ⟨HS.out.sub (.cons_cons _ (.cons_cons _ (.cons_cons _ (.cons_cons _ (.cons_cons _ (.cons _ .slnil))))))⟩
        go_wp2_with fail
        go_ret
        rw [← some_eq H]
        exact ⟨(by first | rfl | (simp [IntKind.wrap_u32]; done)), ((((((HS.out).front 4 (by simp)).front 4 (by simp)).front 4 (by simp)).front 4 (by simp)).front 4 (by simp)).keep (l := [b7 g1342 g1344 a1352 a1353 a1354 a1355, b6 g1344 A1347 l1346.length n1349 t1892.2.1, r5 A1347 l1346.length n1349 t1892.2.2, b12 g1359 g1342, b10 g1361 a1362]) (rest := [])⟩
  · have H := if_no c1874 H
    have c1874b0 : t1861.2.2.2 = false := by simpa using c1874
    have c1874b1 : (!t1861.2.2.2) = true := by rw [c1874b0]; rfl
    try rw [c1874b1]
    clear c1874
    go_wp2_with (first | ((with_reducible refine gate_dst (N := 9) rfl ?_); refine box_on ?hg (N := 9) ?hd (cs := #[.int .i64 0, .int .i64 0, .int .i64 0]) (t := 134) ?hr ?_; (case hd => rfl); (case hg => rfl); (case hr => first | (go_simp; done) | (go_simp; rfl)); intro g1864 hg w1865 hbox hb; replace HS : Aside0 (Sep FF w [b7 g1342 g1344 a1352 a1353 a1354 a1355, b6 g1344 A1347 l1346.length n1349 a1351, r5 A1347 l1346.length n1349 l1346, b12 g1359 g1342, b10 g1361 a1362, b8 g1864 0 0 0] w1865) := ⟨HS.out.box hg hbox hb⟩; clear hg hbox hb; have hc1867 : w1865.cell? ⟨g1864, 0, none⟩ = some (.int .i64 0) := blk_cellv (HS.out.at5) 0 rfl; have hz1868 : w1865.frozen? ⟨g1864, 0, none⟩ = false := blk_fz (HS.out.at5) 0; have hc1869 : w1865.cell? ⟨g1864, 1, none⟩ = some (.int .i64 0) := blk_cellv (HS.out.at5) 1 rfl; have hz1870 : w1865.frozen? ⟨g1864, 1, none⟩ = false := blk_fz (HS.out.at5) 1; have hc1871 : w1865.cell? ⟨g1864, 2, none⟩ = some (.int .i64 0) := blk_cellv (HS.out.at5) 2 rfl; have hz1872 : w1865.frozen? ⟨g1864, 2, none⟩ = false := blk_fz (HS.out.at5) 2) | ((with_reducible refine gate_store (t := 134) (p := 9) rfl ?_); refine store_event (w1 := (World.setCell (World.setCell (World.setCell w1865 ⟨g1864, 0, none⟩ (.int .i64 t1861.1)) ⟨g1864, 1, none⟩ (.int .i64 t1861.2.1)) ⟨g1864, 2, none⟩ (.int .i64 t1861.2.2.1))) rfl (t := 134) (p := 9) rfl rfl ?hr ?_; (case hr => first | (go_simp; done) | (go_simp; rfl)); intro w1873 hst; clear hc1867 hz1868 hc1869 hz1870 hc1871 hz1872; replace HS : Aside0 (Sep FF w [b7 g1342 g1344 a1352 a1353 a1354 a1355, b6 g1344 A1347 l1346.length n1349 a1351, r5 A1347 l1346.length n1349 l1346, b12 g1359 g1342, b10 g1361 a1362, b8 g1864 t1861.1 t1861.2.1 t1861.2.2.1] w1873) := ⟨by rw [hst]; exact HS.out.setAll (l1 := [b7 g1342 g1344 a1352 a1353 a1354 a1355, b6 g1344 A1347 l1346.length n1349 a1351, r5 A1347 l1346.length n1349 l1346, b12 g1359 g1342, b10 g1361 a1362]) (l2 := []) [.int .i64 t1861.1, .int .i64 t1861.2.1, .int .i64 t1861.2.2.1] rfl⟩; clear hst; replace HS : Aside0 (Sep FF w [b7 g1342 g1344 a1352 a1353 a1354 a1355, b6 g1344 A1347 l1346.length n1349 a1351, r5 A1347 l1346.length n1349 l1346, b12 g1359 g1342, b10 g1361 a1362] w1873) := ⟨HS.out.sub (.cons_cons _ (.cons_cons _ (.cons_cons _ (.cons_cons _ (.cons_cons _ (.cons _ .slnil))))))⟩))
    go_ret
    rw [← some_eq H]
    exact ⟨(by first | rfl | (simp [IntKind.wrap_u32]; done)), ((((((HS.out).front 4 (by simp)).front 4 (by simp)).front 4 (by simp)).front 4 (by simp)).front 4 (by simp)).keep (l := [b7 g1342 g1344 a1352 a1353 a1354 a1355, b6 g1344 A1347 l1346.length n1349 a1351, r5 A1347 l1346.length n1349 l1346, b12 g1359 g1342, b10 g1361 a1362]) (rest := [])⟩

set_option maxHeartbeats 30000000 in
set_option maxRecDepth 100000 in
theorem chain_Add.calls (l1321 : List Int) (a1326 : Int) (a1327 : Int) (a1328 : Int) (a1329 : Int) (a1330 : Int) (a1331 : Int) (a1332 : Int) (g1317 : Nat) (g1319 : Nat) (A1322 : Option Addr) (m1323 : Nat) (n1324 : Nat) (r : Bool × Int × List Int) (w : World)   (HS : Aside0 (Sep (fps [b7 g1317 g1319 a1327 a1328 a1329 a1330, b6 g1319 A1322 m1323 n1324 a1326, r5 A1322 m1323 n1324 l1321]) w [b7 g1317 g1319 a1327 a1328 a1329 a1330, b6 g1319 A1322 m1323 n1324 a1326, r5 A1322 m1323 n1324 l1321] w)) (H : Aside0 (chain_Add.f l1321 a1326 a1327 a1328 a1329 a1330 a1331 a1332 = some r)) :
    Calls Try.prog 52 #[.pointer (some ⟨g1317, 0, none⟩), .int .i64 a1331, .int .i64 a1332] w fun e w' => e = .returned (.bool r.1) ∧ Sep (fps [b7 g1317 g1319 a1327 a1328 a1329 a1330, b6 g1319 A1322 m1323 n1324 a1326, r5 A1322 m1323 n1324 l1321]) w [b7 g1317 g1319 a1327 a1328 a1329 a1330, b6 g1319 A1322 m1323 n1324 r.2.1, r5 A1322 m1323 n1324 r.2.2] w' := by
  generalize (fps [b7 g1317 g1319 a1327 a1328 a1329 a1330, b6 g1319 A1322 m1323 n1324 a1326, r5 A1322 m1323 n1324 l1321]) = FF at HS ⊢
  obtain rfl := (row_len (HS.out.at2)).symm
  unfold chain_Add.f at H
  go_enter Try.func52, Try.ntmps52
  go_wp2_with (first | ((with_reducible refine gate_dst (N := 3) rfl ?_); refine box_on ?hg (N := 3) ?hd (cs := #[.pointer (some ⟨g1317, 0, none⟩)]) (t := 50) ?hr ?_; (case hd => rfl); (case hg => rfl); (case hr => first | (go_simp; done) | (go_simp; rfl)); intro g1898 hg w1899 hbox hb; replace HS : Aside0 (Sep FF w [b7 g1317 g1319 a1327 a1328 a1329 a1330, b6 g1319 A1322 l1321.length n1324 a1326, r5 A1322 l1321.length n1324 l1321, b12 g1898 g1317] w1899) := ⟨HS.out.box hg hbox hb⟩; clear hg hbox hb) | ((with_reducible refine gate_dst (N := 5) rfl ?_); refine box_on ?hg (N := 5) ?hd (cs := #[.int .i64 a1332]) (t := 3) ?hr ?_; (case hd => rfl); (case hg => rfl); (case hr => first | (go_simp; done) | (go_simp; rfl)); intro g1901 hg w1902 hbox hb; replace HS : Aside0 (Sep FF w [b7 g1317 g1319 a1327 a1328 a1329 a1330, b6 g1319 A1322 l1321.length n1324 a1326, r5 A1322 l1321.length n1324 l1321, b12 g1898 g1317, b10 g1901 a1332] w1902) := ⟨HS.out.box hg hbox hb⟩; clear hg hbox hb; have hc1904 : w1902.cell? ⟨g1898, 0, none⟩ = some (.pointer (some ⟨g1317, 0, none⟩)) := blk_cellv (HS.out.at3) 0 rfl; have hc1905 : w1902.cell? ⟨g1901, 0, none⟩ = some (.int .i64 a1332) := blk_cellv (HS.out.at4) 0 rfl))
  clear hc1904 hc1905
  obtain ⟨t1906, HA1907, H⟩ := bind_some H
  refine (chain_put_F89.calls l1321 a1326 a1327 a1328 a1329 a1330 a1331 a1332 a1332 g1317 g1319 A1322 l1321.length n1324 g1898 g1901 t1906 _ ⟨HS.out.begin (l := [b7 g1317 g1319 a1327 a1328 a1329 a1330, b6 g1319 A1322 l1321.length n1324 a1326, r5 A1322 l1321.length n1324 l1321, b12 g1898 g1317, b10 g1901 a1332]) (rest := [])⟩ HA1907).mono ?_
  rintro e_ w1908 ⟨rfl, hS⟩
  replace HS : Aside0 (Sep FF w [b7 g1317 g1319 a1327 a1328 a1329 a1330, b6 g1319 A1322 l1321.length n1324 t1906.2.1, r5 A1322 l1321.length n1324 t1906.2.2, b12 g1898 g1317, b10 g1901 a1332] w1908) := ⟨HS.out.call (l := [b7 g1317 g1319 a1327 a1328 a1329 a1330, b6 g1319 A1322 l1321.length n1324 a1326, r5 A1322 l1321.length n1324 l1321, b12 g1898 g1317, b10 g1901 a1332]) (rest := []) hS⟩
  clear hS
  replace HS : Aside0 (Sep FF w [b7 g1317 g1319 a1327 a1328 a1329 a1330, b6 g1319 A1322 l1321.length n1324 t1906.2.1, r5 A1322 l1321.length n1324 t1906.2.2] w1908) := ⟨HS.out.sub (.cons_cons _ (.cons_cons _ (.cons_cons _ (.cons _ (.cons _ .slnil)))))⟩
  go_wp2_with fail
  go_ret
  rw [← some_eq H]
  exact ⟨(by first | rfl | (simp [IntKind.wrap_u32]; done)), ((((HS.out).front 2 (by simp)).front 2 (by simp)).front 2 (by simp)).keep (l := [b7 g1317 g1319 a1327 a1328 a1329 a1330, b6 g1319 A1322 l1321.length n1324 t1906.2.1, r5 A1322 l1321.length n1324 t1906.2.2]) (rest := [])⟩

set_option maxHeartbeats 30000000 in
set_option maxRecDepth 100000 in
theorem chain_Push_1_1.calls (a1991 : Int) (a1992 : Int) (a1993 : Int) (a1994 : Int) (a1995 : Int) (l2003 : List Int) (a2008 : Int) (a2009 : Int) (a2010 : Int) (a2011 : Int) (a2012 : Int) (a2015 : Int) (g1997 : Nat) (g1999 : Nat) (g2001 : Nat) (A2004 : Option Addr) (m2005 : Nat) (n2006 : Nat) (g2014 : Nat) (r : Int × List Int) (w : World)   (HS : Aside0 (Sep (fps [b12 g1997 g1999, b7 g1999 g2001 a2009 a2010 a2011 a2012, b6 g2001 A2004 m2005 n2006 a2008, r5 A2004 m2005 n2006 l2003, b10 g2014 a2015]) w [b12 g1997 g1999, b7 g1999 g2001 a2009 a2010 a2011 a2012, b6 g2001 A2004 m2005 n2006 a2008, r5 A2004 m2005 n2006 l2003, b10 g2014 a2015] w)) (H : Aside0 (chain_Push_1_1.f a1991 a1992 a1993 a1994 a1995 l2003 a2008 a2009 a2010 a2011 a2012 a2015 = some r)) :
    Calls Try.prog 90 #[.agg #[.int .i64 a1991, .int .i64 a1992, .int .i64 a1993], .int .i64 a1994, .int .i64 a1995, .pointer (some ⟨g1997, 0, none⟩), .pointer (some ⟨g2014, 0, none⟩)] w fun e w' => e = .returned (.tuple #[]) ∧ Sep (fps [b12 g1997 g1999, b7 g1999 g2001 a2009 a2010 a2011 a2012, b6 g2001 A2004 m2005 n2006 a2008, r5 A2004 m2005 n2006 l2003, b10 g2014 a2015]) w [b12 g1997 g1999, b7 g1999 g2001 a2009 a2010 a2011 a2012, b6 g2001 A2004 m2005 n2006 r.1, r5 A2004 m2005 n2006 r.2, b10 g2014 a2015] w' := by
  generalize (fps [b12 g1997 g1999, b7 g1999 g2001 a2009 a2010 a2011 a2012, b6 g2001 A2004 m2005 n2006 a2008, r5 A2004 m2005 n2006 l2003, b10 g2014 a2015]) = FF at HS ⊢
  obtain rfl := (row_len (HS.out.at3)).symm
  unfold chain_Push_1_1.f at H
  go_enter Try.func90, Try.ntmps90
  go_wp2_with (first | ((with_reducible refine gate_dst (N := 5) rfl ?_); refine box_on ?hg (N := 5) ?hd (cs := #[.int .i64 a1991, .int .i64 a1992, .int .i64 a1993]) (t := 134) ?hr ?_; (case hd => rfl); (case hg => rfl); (case hr => first | (go_simp; done) | (go_simp; rfl)); intro g2038 hg w2039 hbox hb; replace HS : Aside0 (Sep FF w [b12 g1997 g1999, b7 g1999 g2001 a2009 a2010 a2011 a2012, b6 g2001 A2004 l2003.length n2006 a2008, r5 A2004 l2003.length n2006 l2003, b10 g2014 a2015, b8 g2038 a1991 a1992 a1993] w2039) := ⟨HS.out.box hg hbox hb⟩; clear hg hbox hb))
  refine start_ (n := 8) (S := (fun w' => w'.cell? ⟨g1997, 0, none⟩ = some (.pointer (some ⟨g1999, 0, none⟩)) ∧ w'.cell? ⟨g2014, 0, none⟩ = some (.int .i64 a2015) ∧ w'.cell? ⟨g2038, 0, none⟩ = some (.int .i64 a1991))) (ds := []) #[false, false, false, false, false, false, false, false] (by kernel_rfl) rfl rfl (⟨blk_cellv ((HS.out.drew).at0) 0 rfl, blk_cellv ((HS.out.drew).at4) 0 rfl, blk_cellv ((HS.out.drew).at5) 0 rfl⟩) (fun hHeld => ?_)
  have HS_ := Aside0.mk HS.out.drew
  clear HS
  generalize World.drew _ = w2042 at HS_ hHeld ⊢
  have HS := HS_
  clear HS_
  refine pure_ (i := 3) (N := some 11) (v := ?_) (a' := ?_) #[false, false, false, true, false, false, false, false] rfl rfl (by kernel_rfl) (fun _ _ _ h => h) (Or.inl ⟨by rfl, ?_⟩) ?_ ?_
  rotate_left
  · intro w'
    go_simp
    with_reducible rfl
  rotate_left
  · simp only [Act.put, List.setIfInBounds_toArray, List.set_cons_zero, List.set_cons_succ, i64_w, i32_w]
    rfl
  refine take_ (i := 0) (N := some 8) (v := ?_) (a' := ?_) #[true, false, false, true, false, false, false, false] rfl rfl (by kernel_rfl) (fun _ _ _ h => h) (Or.inl ⟨by rfl, ?_⟩) hHeld ?_ ?_
  rotate_left
  · rintro w' hS'
    obtain ⟨s0, s1, s2⟩ := hS'
    go_simp
    with_reducible rfl
  rotate_left
  · simp only [Act.put, List.setIfInBounds_toArray, List.set_cons_zero, List.set_cons_succ, i64_w, i32_w]
    rfl
  refine take_ (i := 1) (N := some 9) (v := ?_) (a' := ?_) #[true, true, false, true, false, false, false, false] rfl rfl (by kernel_rfl) (fun _ _ _ h => h) (Or.inl ⟨by rfl, ?_⟩) hHeld ?_ ?_
  rotate_left
  · rintro w' hS'
    obtain ⟨s0, s1, s2⟩ := hS'
    go_simp
    with_reducible rfl
  rotate_left
  · simp only [Act.put, List.setIfInBounds_toArray, List.set_cons_zero, List.set_cons_succ, i64_w, i32_w]
    rfl
  refine take_ (i := 2) (N := some 10) (v := ?_) (a' := ?_) #[true, true, true, true, false, false, false, false] rfl rfl (by kernel_rfl) (fun _ _ _ h => h) (Or.inl ⟨by rfl, ?_⟩) hHeld ?_ ?_
  rotate_left
  · rintro w' hS'
    obtain ⟨s0, s1, s2⟩ := hS'
    go_simp
    with_reducible rfl
  rotate_left
  · simp only [Act.put, List.setIfInBounds_toArray, List.set_cons_zero, List.set_cons_succ, i64_w, i32_w]
    rfl
  refine take_ (i := 4) (N := some 12) (v := ?_) (a' := ?_) #[true, true, true, true, true, false, false, false] rfl rfl (by kernel_rfl) (fun _ _ _ h => h) (Or.inl ⟨by rfl, ?_⟩) hHeld ?_ ?_
  rotate_left
  · rintro w' hS'
    obtain ⟨s0, s1, s2⟩ := hS'
    go_simp
    with_reducible rfl
  rotate_left
  · simp only [Act.put, List.setIfInBounds_toArray, List.set_cons_zero, List.set_cons_succ, i64_w, i32_w]
    rfl
  refine one_ (i := 5) (N := some 13) #[true, true, true, true, true, true, false, false] rfl rfl (by kernel_rfl) (by decide) (fun K hK => ?_)
  replace HS : Aside0 (Sep FF w [r5 A2004 l2003.length n2006 l2003, b12 g1997 g1999, b7 g1999 g2001 a2009 a2010 a2011 a2012, b6 g2001 A2004 l2003.length n2006 a2008, b10 g2014 a2015, b8 g2038 a1991 a1992 a1993] w2042) := ⟨HS.out.front 3 (by simp)⟩
  replace HS : Aside0 (Sep FF w [b6 g2001 A2004 l2003.length n2006 a2008, r5 A2004 l2003.length n2006 l2003, b12 g1997 g1999, b7 g1999 g2001 a2009 a2010 a2011 a2012, b10 g2014 a2015, b8 g2038 a1991 a1992 a1993] w2042) := ⟨HS.out.front 3 (by simp)⟩
  replace HS : Aside0 (Sep FF w [b7 g1999 g2001 a2009 a2010 a2011 a2012, b6 g2001 A2004 l2003.length n2006 a2008, r5 A2004 l2003.length n2006 l2003, b12 g1997 g1999, b10 g2014 a2015, b8 g2038 a1991 a1992 a1993] w2042) := ⟨HS.out.front 3 (by simp)⟩
  obtain ⟨t2043, HA2044, H⟩ := bind_some H
  refine goes_ Try.func36 (by kernel_rfl) rfl #[.pointer (some ⟨g1999, 0, none⟩), .int .i64 a1991] (by rfl) rfl rfl (by (try simp only [List.map_toArray, List.map_cons, List.map_nil]); first | done | rfl) ?_
  refine (ground_Ground_Reg.calls l2003 a2008 a2009 a2010 a2011 a2012 a1991 g1999 g2001 A2004 l2003.length n2006 t2043 _ ⟨HS.out.begin (l := [b7 g1999 g2001 a2009 a2010 a2011 a2012, b6 g2001 A2004 l2003.length n2006 a2008, r5 A2004 l2003.length n2006 l2003]) (rest := [b12 g1997 g1999, b10 g2014 a2015, b8 g2038 a1991 a1992 a1993])⟩ HA2044).mono ?_
  rintro e_ w2045 ⟨rfl, hS⟩
  replace HS : Aside0 (Sep FF w [b7 g1999 g2001 a2009 a2010 a2011 a2012, b6 g2001 A2004 l2003.length n2006 t2043.2, r5 A2004 l2003.length n2006 l2003, b12 g1997 g1999, b10 g2014 a2015, b8 g2038 a1991 a1992 a1993] w2045) := ⟨HS.out.call (l := [b7 g1999 g2001 a2009 a2010 a2011 a2012, b6 g2001 A2004 l2003.length n2006 a2008, r5 A2004 l2003.length n2006 l2003]) (rest := [b12 g1997 g1999, b10 g2014 a2015, b8 g2038 a1991 a1992 a1993]) hS⟩
  clear hS
  refine ⟨_, rfl, ?_⟩
  refine hK.out _ _ (⟨blk_cellv (HS.out.at3) 0 rfl, blk_cellv (HS.out.at4) 0 rfl, blk_cellv (HS.out.at5) 0 rfl⟩) (fun hHeld => ?_)
  clear hK K
  refine norm_ (a' := ?_) ?_ ?_
  rotate_left
  · show Act.put _ (some 13) _ = _
    simp only [Act.put, List.setIfInBounds_toArray, List.set_cons_zero, List.set_cons_succ, i64_w, i32_w]
    rfl
  refine pure_ (i := 6) (N := some 14) (v := ?_) (a' := ?_) #[true, true, true, true, true, true, true, false] rfl rfl (by kernel_rfl) (fun _ _ _ h => h) (Or.inl ⟨by rfl, ?_⟩) ?_ ?_
  rotate_left
  · intro w'
    go_simp
    with_reducible rfl
  rotate_left
  · simp only [Act.put, List.setIfInBounds_toArray, List.set_cons_zero, List.set_cons_succ, i64_w, i32_w]
    rfl
  refine one_ (i := 7) (N := some 15) #[true, true, true, true, true, true, true, true] rfl rfl (by kernel_rfl) (by decide) (fun K hK => ?_)
  obtain ⟨t2046, HA2047, H⟩ := bind_some H
  refine goes_ Try.func46 (by kernel_rfl) rfl #[.pointer (some ⟨g1999, 0, none⟩), .int .i64 a2015, .int .i64 5, .int .u32 ((t2043.1) % 4294967296)] (by rfl) rfl rfl (by (try simp only [List.map_toArray, List.map_cons, List.map_nil]); first | done | rfl) ?_
  refine (ground_Ground_SetWord.calls l2003 t2043.2 a2009 a2010 a2011 a2012 a2015 5 ((t2043.1) % 4294967296) g1999 g2001 A2004 l2003.length n2006 t2046 _ ⟨HS.out.begin (l := [b7 g1999 g2001 a2009 a2010 a2011 a2012, b6 g2001 A2004 l2003.length n2006 t2043.2, r5 A2004 l2003.length n2006 l2003]) (rest := [b12 g1997 g1999, b10 g2014 a2015, b8 g2038 a1991 a1992 a1993])⟩ HA2047).mono ?_
  rintro e_ w2048 ⟨rfl, hS⟩
  replace HS : Aside0 (Sep FF w [b7 g1999 g2001 a2009 a2010 a2011 a2012, b6 g2001 A2004 l2003.length n2006 t2046.2.1, r5 A2004 l2003.length n2006 t2046.2.2, b12 g1997 g1999, b10 g2014 a2015, b8 g2038 a1991 a1992 a1993] w2048) := ⟨HS.out.call (l := [b7 g1999 g2001 a2009 a2010 a2011 a2012, b6 g2001 A2004 l2003.length n2006 t2043.2, r5 A2004 l2003.length n2006 l2003]) (rest := [b12 g1997 g1999, b10 g2014 a2015, b8 g2038 a1991 a1992 a1993]) hS⟩
  clear hS
  refine ⟨_, rfl, ?_⟩
  refine hK.out _ _ (⟨blk_cellv (HS.out.at3) 0 rfl, blk_cellv (HS.out.at4) 0 rfl, blk_cellv (HS.out.at5) 0 rfl⟩) (fun hHeld => ?_)
  clear hK K
  refine norm_ (a' := ?_) ?_ ?_
  rotate_left
  · show Act.put _ (some 15) _ = _
    simp only [Act.put, List.setIfInBounds_toArray, List.set_cons_zero, List.set_cons_succ, i64_w, i32_w]
    rfl
  refine done_ (by kernel_rfl) ?_
  have hc2049 : w2048.cell? ⟨g1997, 0, none⟩ = some (.pointer (some ⟨g1999, 0, none⟩)) := blk_cellv (HS.out.at3) 0 rfl
  have hc2050 : w2048.cell? ⟨g2038, 0, none⟩ = some (.int .i64 a1991) := blk_cellv (HS.out.at5) 0 rfl
  go_wp2_with fail
  clear hc2049 hc2050
  obtain ⟨t2051, HA2052, H⟩ := bind_some H
  refine (ground_Ground_SetReg.calls t2046.2.2 t2046.2.1 a2009 a2010 a2011 a2012 a1991 a1994 g1999 g2001 A2004 l2003.length n2006 t2051 _ ⟨HS.out.begin (l := [b7 g1999 g2001 a2009 a2010 a2011 a2012, b6 g2001 A2004 l2003.length n2006 t2046.2.1, r5 A2004 l2003.length n2006 t2046.2.2]) (rest := [b12 g1997 g1999, b10 g2014 a2015, b8 g2038 a1991 a1992 a1993])⟩ HA2052).mono ?_
  rintro e_ w2053 ⟨rfl, hS⟩
  replace HS : Aside0 (Sep FF w [b7 g1999 g2001 a2009 a2010 a2011 a2012, b6 g2001 A2004 l2003.length n2006 t2051.2.1, r5 A2004 l2003.length n2006 t2051.2.2, b12 g1997 g1999, b10 g2014 a2015, b8 g2038 a1991 a1992 a1993] w2053) := ⟨HS.out.call (l := [b7 g1999 g2001 a2009 a2010 a2011 a2012, b6 g2001 A2004 l2003.length n2006 t2046.2.1, r5 A2004 l2003.length n2006 t2046.2.2]) (rest := [b12 g1997 g1999, b10 g2014 a2015, b8 g2038 a1991 a1992 a1993]) hS⟩
  clear hS
  by_cases c2054 : a1995 = 0
  · have H := if_yes c2054 H
    have c2054b0 : (a1995 == 0) = true := beq_iff_eq.mpr c2054
    have c2054b1 : (a1995 != 0) = false := bne_eq_false_iff_eq.mpr c2054
    clear c2054
    have hc2055 : w2053.cell? ⟨g1997, 0, none⟩ = some (.pointer (some ⟨g1999, 0, none⟩)) := blk_cellv (HS.out.at3) 0 rfl
    have hc2056 : w2053.cell? ⟨g2038, 1, none⟩ = some (.int .i64 a1992) := blk_cellv (HS.out.at5) 1 rfl
    go_wp2_with fail
    clear hc2055 hc2056
    obtain ⟨t2057, HA2058, H⟩ := bind_some H
    refine (ground_Ground_SetReg.calls t2051.2.2 t2051.2.1 a2009 a2010 a2011 a2012 a1992 a1994 g1999 g2001 A2004 l2003.length n2006 t2057 _ ⟨HS.out.begin (l := [b7 g1999 g2001 a2009 a2010 a2011 a2012, b6 g2001 A2004 l2003.length n2006 t2051.2.1, r5 A2004 l2003.length n2006 t2051.2.2]) (rest := [b12 g1997 g1999, b10 g2014 a2015, b8 g2038 a1991 a1992 a1993])⟩ HA2058).mono ?_
    rintro e_ w2059 ⟨rfl, hS⟩
    replace HS : Aside0 (Sep FF w [b7 g1999 g2001 a2009 a2010 a2011 a2012, b6 g2001 A2004 l2003.length n2006 t2057.2.1, r5 A2004 l2003.length n2006 t2057.2.2, b12 g1997 g1999, b10 g2014 a2015, b8 g2038 a1991 a1992 a1993] w2059) := ⟨HS.out.call (l := [b7 g1999 g2001 a2009 a2010 a2011 a2012, b6 g2001 A2004 l2003.length n2006 t2051.2.1, r5 A2004 l2003.length n2006 t2051.2.2]) (rest := [b12 g1997 g1999, b10 g2014 a2015, b8 g2038 a1991 a1992 a1993]) hS⟩
    clear hS
    replace HS : Aside0 (Sep FF w [b7 g1999 g2001 a2009 a2010 a2011 a2012, b6 g2001 A2004 l2003.length n2006 t2057.2.1, r5 A2004 l2003.length n2006 t2057.2.2, b12 g1997 g1999, b10 g2014 a2015] w2059) := ⟨HS.out.sub (.cons_cons _ (.cons_cons _ (.cons_cons _ (.cons_cons _ (.cons_cons _ (.cons _ .slnil))))))⟩
    go_wp2_with fail
    first | go_end0 | refine bodyPost_ret (results_none rfl _ _ _) rfl ?_
    rw [← some_eq H]
    exact ⟨rfl, ((((((HS.out).front 4 (by simp)).front 3 (by simp)).front 3 (by simp)).front 3 (by simp)).front 4 (by simp)).keep (l := [b12 g1997 g1999, b7 g1999 g2001 a2009 a2010 a2011 a2012, b6 g2001 A2004 l2003.length n2006 t2057.2.1, r5 A2004 l2003.length n2006 t2057.2.2, b10 g2014 a2015]) (rest := [])⟩
  · have H := if_no c2054 H
    have c2054b0 : (a1995 == 0) = false := beq_eq_false_iff_ne.mpr c2054
    have c2054b1 : (a1995 != 0) = true := bne_iff_ne.mpr c2054
    clear c2054
    go_wp2_with fail
    first | go_end0 | refine bodyPost_ret (results_none rfl _ _ _) rfl ?_
    rw [← some_eq H]
    exact ⟨rfl, ((((((HS.out).front 4 (by simp)).front 3 (by simp)).front 3 (by simp)).front 3 (by simp)).front 4 (by simp)).keep (l := [b12 g1997 g1999, b7 g1999 g2001 a2009 a2010 a2011 a2012, b6 g2001 A2004 l2003.length n2006 t2051.2.1, r5 A2004 l2003.length n2006 t2051.2.2, b10 g2014 a2015]) (rest := [b8 g2038 a1991 a1992 a1993])⟩

set_option maxHeartbeats 30000000 in
set_option maxRecDepth 100000 in
theorem chain_put_F90.calls (l1947 : List Int) (a1952 : Int) (a1953 : Int) (a1954 : Int) (a1955 : Int) (a1956 : Int) (a1957 : Int) (a1958 : Int) (a1963 : Int) (g1943 : Nat) (g1945 : Nat) (A1948 : Option Addr) (m1949 : Nat) (n1950 : Nat) (g1960 : Nat) (g1962 : Nat) (r : Bool × Int × List Int) (w : World)   (HS : Aside0 (Sep (fps [b7 g1943 g1945 a1953 a1954 a1955 a1956, b6 g1945 A1948 m1949 n1950 a1952, r5 A1948 m1949 n1950 l1947, b12 g1960 g1943, b10 g1962 a1963]) w [b7 g1943 g1945 a1953 a1954 a1955 a1956, b6 g1945 A1948 m1949 n1950 a1952, r5 A1948 m1949 n1950 l1947, b12 g1960 g1943, b10 g1962 a1963] w)) (H : Aside0 (chain_put_F90.f l1947 a1952 a1953 a1954 a1955 a1956 a1957 a1958 a1963 = some r)) :
    Calls Try.prog 88 #[.pointer (some ⟨g1943, 0, none⟩), .int .i64 a1957, .int .i64 a1958, .func (.func 90) #[] #[.pointer (some ⟨g1960, 0, none⟩), .pointer (some ⟨g1962, 0, none⟩)]] w fun e w' => e = .returned (.bool r.1) ∧ Sep (fps [b7 g1943 g1945 a1953 a1954 a1955 a1956, b6 g1945 A1948 m1949 n1950 a1952, r5 A1948 m1949 n1950 l1947, b12 g1960 g1943, b10 g1962 a1963]) w [b7 g1943 g1945 a1953 a1954 a1955 a1956, b6 g1945 A1948 m1949 n1950 r.2.1, r5 A1948 m1949 n1950 r.2.2, b12 g1960 g1943, b10 g1962 a1963] w' := by
  generalize (fps [b7 g1943 g1945 a1953 a1954 a1955 a1956, b6 g1945 A1948 m1949 n1950 a1952, r5 A1948 m1949 n1950 l1947, b12 g1960 g1943, b10 g1962 a1963]) = FF at HS ⊢
  obtain rfl := (row_len (HS.out.at2)).symm
  unfold chain_put_F90.f at H
  go_enter Try.func88, Try.ntmps88
  go_wp2_with fail
  obtain ⟨t2067, HA2068, H⟩ := bind_some H
  refine (chain_of.calls l1947 a1952 a1953 a1954 a1955 a1956 a1957 g1943 g1945 A1948 l1947.length n1950 t2067 _ ⟨HS.out.begin (l := [b7 g1943 g1945 a1953 a1954 a1955 a1956, b6 g1945 A1948 l1947.length n1950 a1952, r5 A1948 l1947.length n1950 l1947]) (rest := [b12 g1960 g1943, b10 g1962 a1963])⟩ HA2068).mono ?_
  rintro e_ w2069 ⟨rfl, hS⟩
  replace HS : Aside0 (Sep FF w [b7 g1943 g1945 a1953 a1954 a1955 a1956, b6 g1945 A1948 l1947.length n1950 a1952, r5 A1948 l1947.length n1950 l1947, b12 g1960 g1943, b10 g1962 a1963] w2069) := ⟨HS.out.call (l := [b7 g1943 g1945 a1953 a1954 a1955 a1956, b6 g1945 A1948 l1947.length n1950 a1952, r5 A1948 l1947.length n1950 l1947]) (rest := [b12 g1960 g1943, b10 g1962 a1963]) hS⟩
  clear hS
  by_cases c2080 : t2067.2.2.2 = true
  · have H := if_yes c2080 H
    have c2080b0 : t2067.2.2.2 = true := c2080
    have c2080b1 : (!t2067.2.2.2) = false := by rw [c2080b0]; rfl
    try rw [c2080b1]
    clear c2080
    by_cases c2081 : a1958 < 0
    · have H := if_yes c2081 H
      have c2081b0 : decide (a1958 < 0) = true := decide_eq_true c2081
      clear c2081
      go_wp2_with (first | ((with_reducible refine gate_dst (N := 9) rfl ?_); refine box_on ?hg (N := 9) ?hd (cs := #[.int .i64 0, .int .i64 0, .int .i64 0]) (t := 134) ?hr ?_; (case hd => rfl); (case hg => rfl); (case hr => first | (go_simp; done) | (go_simp; rfl)); intro g2070 hg w2071 hbox hb; replace HS : Aside0 (Sep FF w [b7 g1943 g1945 a1953 a1954 a1955 a1956, b6 g1945 A1948 l1947.length n1950 a1952, r5 A1948 l1947.length n1950 l1947, b12 g1960 g1943, b10 g1962 a1963, b8 g2070 0 0 0] w2071) := ⟨HS.out.box hg hbox hb⟩; clear hg hbox hb; have hc2073 : w2071.cell? ⟨g2070, 0, none⟩ = some (.int .i64 0) := blk_cellv (HS.out.at5) 0 rfl; have hz2074 : w2071.frozen? ⟨g2070, 0, none⟩ = false := blk_fz (HS.out.at5) 0; have hc2075 : w2071.cell? ⟨g2070, 1, none⟩ = some (.int .i64 0) := blk_cellv (HS.out.at5) 1 rfl; have hz2076 : w2071.frozen? ⟨g2070, 1, none⟩ = false := blk_fz (HS.out.at5) 1; have hc2077 : w2071.cell? ⟨g2070, 2, none⟩ = some (.int .i64 0) := blk_cellv (HS.out.at5) 2 rfl; have hz2078 : w2071.frozen? ⟨g2070, 2, none⟩ = false := blk_fz (HS.out.at5) 2) | ((with_reducible refine gate_store (t := 134) (p := 9) rfl ?_); refine store_event (w1 := (World.setCell (World.setCell (World.setCell w2071 ⟨g2070, 0, none⟩ (.int .i64 t2067.1)) ⟨g2070, 1, none⟩ (.int .i64 t2067.2.1)) ⟨g2070, 2, none⟩ (.int .i64 t2067.2.2.1))) rfl (t := 134) (p := 9) rfl rfl ?hr ?_; (case hr => first | (go_simp; done) | (go_simp; rfl)); intro w2079 hst; clear hc2073 hz2074 hc2075 hz2076 hc2077 hz2078; replace HS : Aside0 (Sep FF w [b7 g1943 g1945 a1953 a1954 a1955 a1956, b6 g1945 A1948 l1947.length n1950 a1952, r5 A1948 l1947.length n1950 l1947, b12 g1960 g1943, b10 g1962 a1963, b8 g2070 t2067.1 t2067.2.1 t2067.2.2.1] w2079) := ⟨by rw [hst]; exact HS.out.setAll (l1 := [b7 g1943 g1945 a1953 a1954 a1955 a1956, b6 g1945 A1948 l1947.length n1950 a1952, r5 A1948 l1947.length n1950 l1947, b12 g1960 g1943, b10 g1962 a1963]) (l2 := []) [.int .i64 t2067.1, .int .i64 t2067.2.1, .int .i64 t2067.2.2.1] rfl⟩; clear hst; replace HS : Aside0 (Sep FF w [b7 g1943 g1945 a1953 a1954 a1955 a1956, b6 g1945 A1948 l1947.length n1950 a1952, r5 A1948 l1947.length n1950 l1947, b12 g1960 g1943, b10 g1962 a1963] w2079) := ⟨HS.out.sub (.cons_cons _ (.cons_cons _ (.cons_cons _ (.cons_cons _ (.cons_cons _ (.cons _ .slnil))))))⟩))
      go_ret
      rw [← some_eq H]
      exact ⟨(by first | rfl | (simp [IntKind.wrap_u32]; done)), ((((((HS.out).front 4 (by simp)).front 4 (by simp)).front 4 (by simp)).front 4 (by simp)).front 4 (by simp)).keep (l := [b7 g1943 g1945 a1953 a1954 a1955 a1956, b6 g1945 A1948 l1947.length n1950 a1952, r5 A1948 l1947.length n1950 l1947, b12 g1960 g1943, b10 g1962 a1963]) (rest := [])⟩
    · have H := if_no c2081 H
      have c2081b0 : decide (a1958 < 0) = false := decide_eq_false c2081
      clear c2081
      go_wp2_with (first | ((with_reducible refine gate_dst (N := 9) rfl ?_); refine box_on ?hg (N := 9) ?hd (cs := #[.int .i64 0, .int .i64 0, .int .i64 0]) (t := 134) ?hr ?_; (case hd => rfl); (case hg => rfl); (case hr => first | (go_simp; done) | (go_simp; rfl)); intro g2070 hg w2071 hbox hb; replace HS : Aside0 (Sep FF w [b7 g1943 g1945 a1953 a1954 a1955 a1956, b6 g1945 A1948 l1947.length n1950 a1952, r5 A1948 l1947.length n1950 l1947, b12 g1960 g1943, b10 g1962 a1963, b8 g2070 0 0 0] w2071) := ⟨HS.out.box hg hbox hb⟩; clear hg hbox hb; have hc2073 : w2071.cell? ⟨g2070, 0, none⟩ = some (.int .i64 0) := blk_cellv (HS.out.at5) 0 rfl; have hz2074 : w2071.frozen? ⟨g2070, 0, none⟩ = false := blk_fz (HS.out.at5) 0; have hc2075 : w2071.cell? ⟨g2070, 1, none⟩ = some (.int .i64 0) := blk_cellv (HS.out.at5) 1 rfl; have hz2076 : w2071.frozen? ⟨g2070, 1, none⟩ = false := blk_fz (HS.out.at5) 1; have hc2077 : w2071.cell? ⟨g2070, 2, none⟩ = some (.int .i64 0) := blk_cellv (HS.out.at5) 2 rfl; have hz2078 : w2071.frozen? ⟨g2070, 2, none⟩ = false := blk_fz (HS.out.at5) 2) | ((with_reducible refine gate_store (t := 134) (p := 9) rfl ?_); refine store_event (w1 := (World.setCell (World.setCell (World.setCell w2071 ⟨g2070, 0, none⟩ (.int .i64 t2067.1)) ⟨g2070, 1, none⟩ (.int .i64 t2067.2.1)) ⟨g2070, 2, none⟩ (.int .i64 t2067.2.2.1))) rfl (t := 134) (p := 9) rfl rfl ?hr ?_; (case hr => first | (go_simp; done) | (go_simp; rfl)); intro w2079 hst; clear hc2073 hz2074 hc2075 hz2076 hc2077 hz2078; replace HS : Aside0 (Sep FF w [b7 g1943 g1945 a1953 a1954 a1955 a1956, b6 g1945 A1948 l1947.length n1950 a1952, r5 A1948 l1947.length n1950 l1947, b12 g1960 g1943, b10 g1962 a1963, b8 g2070 t2067.1 t2067.2.1 t2067.2.2.1] w2079) := ⟨by rw [hst]; exact HS.out.setAll (l1 := [b7 g1943 g1945 a1953 a1954 a1955 a1956, b6 g1945 A1948 l1947.length n1950 a1952, r5 A1948 l1947.length n1950 l1947, b12 g1960 g1943, b10 g1962 a1963]) (l2 := []) [.int .i64 t2067.1, .int .i64 t2067.2.1, .int .i64 t2067.2.2.1] rfl⟩; clear hst))
      obtain ⟨t2082, HA2083, H⟩ := bind_some H
      refine (ground_Ground_Conf.calls l1947 a1952 a1953 a1954 a1955 a1956 g1943 g1945 A1948 l1947.length n1950 t2082 _ ⟨HS.out.begin (l := [b7 g1943 g1945 a1953 a1954 a1955 a1956, b6 g1945 A1948 l1947.length n1950 a1952, r5 A1948 l1947.length n1950 l1947]) (rest := [b12 g1960 g1943, b10 g1962 a1963, b8 g2070 t2067.1 t2067.2.1 t2067.2.2.1])⟩ HA2083).mono ?_
      rintro e_ w2084 ⟨rfl, hS⟩
      replace HS : Aside0 (Sep FF w [b7 g1943 g1945 a1953 a1954 a1955 a1956, b6 g1945 A1948 l1947.length n1950 a1952, r5 A1948 l1947.length n1950 l1947, b12 g1960 g1943, b10 g1962 a1963, b8 g2070 t2067.1 t2067.2.1 t2067.2.2.1] w2084) := ⟨HS.out.call (l := [b7 g1943 g1945 a1953 a1954 a1955 a1956, b6 g1945 A1948 l1947.length n1950 a1952, r5 A1948 l1947.length n1950 l1947]) (rest := [b12 g1960 g1943, b10 g1962 a1963, b8 g2070 t2067.1 t2067.2.1 t2067.2.2.1]) hS⟩
      clear hS
      by_cases c2086 : a1958 ≥ t2082.1
      · have H := if_yes c2086 H
        have c2086b0 : decide (t2082.1 ≤ a1958) = true := decide_eq_true c2086
        clear c2086
        have fl2085 : ∀ w, (Instr.field 49 (.agg #[.int .i64 t2082.1, .int .i64 t2082.2.1, .int .i64 t2082.2.2.1, .int .i64 t2082.2.2.2]) 0).run Try.prog w = .ok (.int .i64 t2082.1) w := fun _ => by kernel_rfl
        replace HS : Aside0 (Sep FF w [b7 g1943 g1945 a1953 a1954 a1955 a1956, b6 g1945 A1948 l1947.length n1950 a1952, r5 A1948 l1947.length n1950 l1947, b12 g1960 g1943, b10 g1962 a1963] w2084) := ⟨HS.out.sub (.cons_cons _ (.cons_cons _ (.cons_cons _ (.cons_cons _ (.cons_cons _ (.cons _ .slnil))))))⟩
        go_wp2_with fail
        clear fl2085
        go_ret
        rw [← some_eq H]
        exact ⟨(by first | rfl | (simp [IntKind.wrap_u32]; done)), ((((((HS.out).front 4 (by simp)).front 4 (by simp)).front 4 (by simp)).front 4 (by simp)).front 4 (by simp)).keep (l := [b7 g1943 g1945 a1953 a1954 a1955 a1956, b6 g1945 A1948 l1947.length n1950 a1952, r5 A1948 l1947.length n1950 l1947, b12 g1960 g1943, b10 g1962 a1963]) (rest := [])⟩
      · have H := if_no c2086 H
        have c2086b0 : decide (t2082.1 ≤ a1958) = false := decide_eq_false c2086
        clear c2086
        have fl2085 : ∀ w, (Instr.field 49 (.agg #[.int .i64 t2082.1, .int .i64 t2082.2.1, .int .i64 t2082.2.2.1, .int .i64 t2082.2.2.2]) 0).run Try.prog w = .ok (.int .i64 t2082.1) w := fun _ => by kernel_rfl
        have hc2087 : w2084.cell? ⟨g2070, 2, none⟩ = some (.int .i64 t2067.2.2.1) := blk_cellv (HS.out.at5) 2 rfl
        go_wp2_with fail
        clear fl2085 hc2087
        obtain ⟨t2088, HA2089, H⟩ := bind_some H
        refine (ground_Ground_Reg.calls l1947 a1952 a1953 a1954 a1955 a1956 t2067.2.2.1 g1943 g1945 A1948 l1947.length n1950 t2088 _ ⟨HS.out.begin (l := [b7 g1943 g1945 a1953 a1954 a1955 a1956, b6 g1945 A1948 l1947.length n1950 a1952, r5 A1948 l1947.length n1950 l1947]) (rest := [b12 g1960 g1943, b10 g1962 a1963, b8 g2070 t2067.1 t2067.2.1 t2067.2.2.1])⟩ HA2089).mono ?_
        rintro e_ w2090 ⟨rfl, hS⟩
        replace HS : Aside0 (Sep FF w [b7 g1943 g1945 a1953 a1954 a1955 a1956, b6 g1945 A1948 l1947.length n1950 t2088.2, r5 A1948 l1947.length n1950 l1947, b12 g1960 g1943, b10 g1962 a1963, b8 g2070 t2067.1 t2067.2.1 t2067.2.2.1] w2090) := ⟨HS.out.call (l := [b7 g1943 g1945 a1953 a1954 a1955 a1956, b6 g1945 A1948 l1947.length n1950 a1952, r5 A1948 l1947.length n1950 l1947]) (rest := [b12 g1960 g1943, b10 g1962 a1963, b8 g2070 t2067.1 t2067.2.1 t2067.2.2.1]) hS⟩
        clear hS
        have hc2091 : w2090.cell? ⟨g2070, 0, none⟩ = some (.int .i64 t2067.1) := blk_cellv (HS.out.at5) 0 rfl
        have hc2092 : w2090.cell? ⟨g2070, 1, none⟩ = some (.int .i64 t2067.2.1) := blk_cellv (HS.out.at5) 1 rfl
        have hc2093 : w2090.cell? ⟨g2070, 2, none⟩ = some (.int .i64 t2067.2.2.1) := blk_cellv (HS.out.at5) 2 rfl
        go_wp2_with fail
        clear hc2091 hc2092 hc2093
        replace HS : Aside0 (Sep FF w [b10 g1962 a1963, b7 g1943 g1945 a1953 a1954 a1955 a1956, b6 g1945 A1948 l1947.length n1950 t2088.2, r5 A1948 l1947.length n1950 l1947, b12 g1960 g1943, b8 g2070 t2067.1 t2067.2.1 t2067.2.2.1] w2090) := ⟨HS.out.front 4 (by simp)⟩
        replace HS : Aside0 (Sep FF w [r5 A1948 l1947.length n1950 l1947, b10 g1962 a1963, b7 g1943 g1945 a1953 a1954 a1955 a1956, b6 g1945 A1948 l1947.length n1950 t2088.2, b12 g1960 g1943, b8 g2070 t2067.1 t2067.2.1 t2067.2.2.1] w2090) := ⟨HS.out.front 3 (by simp)⟩
        replace HS : Aside0 (Sep FF w [b6 g1945 A1948 l1947.length n1950 t2088.2, r5 A1948 l1947.length n1950 l1947, b10 g1962 a1963, b7 g1943 g1945 a1953 a1954 a1955 a1956, b12 g1960 g1943, b8 g2070 t2067.1 t2067.2.1 t2067.2.2.1] w2090) := ⟨HS.out.front 3 (by simp)⟩
        replace HS : Aside0 (Sep FF w [b7 g1943 g1945 a1953 a1954 a1955 a1956, b6 g1945 A1948 l1947.length n1950 t2088.2, r5 A1948 l1947.length n1950 l1947, b10 g1962 a1963, b12 g1960 g1943, b8 g2070 t2067.1 t2067.2.1 t2067.2.2.1] w2090) := ⟨HS.out.front 3 (by simp)⟩
        replace HS : Aside0 (Sep FF w [b12 g1960 g1943, b7 g1943 g1945 a1953 a1954 a1955 a1956, b6 g1945 A1948 l1947.length n1950 t2088.2, r5 A1948 l1947.length n1950 l1947, b10 g1962 a1963, b8 g2070 t2067.1 t2067.2.1 t2067.2.2.1] w2090) := ⟨HS.out.front 4 (by simp)⟩
        obtain ⟨t2094, HA2095, H⟩ := bind_some H
        refine (chain_Push_1_1.calls t2067.1 t2067.2.1 t2067.2.2.1 (wrap64 (a1958 + 1)) t2088.1 l1947 t2088.2 a1953 a1954 a1955 a1956 a1963 g1960 g1943 g1945 A1948 l1947.length n1950 g1962 t2094 _ ⟨HS.out.begin (l := [b12 g1960 g1943, b7 g1943 g1945 a1953 a1954 a1955 a1956, b6 g1945 A1948 l1947.length n1950 t2088.2, r5 A1948 l1947.length n1950 l1947, b10 g1962 a1963]) (rest := [b8 g2070 t2067.1 t2067.2.1 t2067.2.2.1])⟩ HA2095).mono ?_
        rintro e_ w2096 ⟨rfl, hS⟩
        replace HS : Aside0 (Sep FF w [b12 g1960 g1943, b7 g1943 g1945 a1953 a1954 a1955 a1956, b6 g1945 A1948 l1947.length n1950 t2094.1, r5 A1948 l1947.length n1950 t2094.2, b10 g1962 a1963, b8 g2070 t2067.1 t2067.2.1 t2067.2.2.1] w2096) := ⟨HS.out.call (l := [b12 g1960 g1943, b7 g1943 g1945 a1953 a1954 a1955 a1956, b6 g1945 A1948 l1947.length n1950 t2088.2, r5 A1948 l1947.length n1950 l1947, b10 g1962 a1963]) (rest := [b8 g2070 t2067.1 t2067.2.1 t2067.2.2.1]) hS⟩
        clear hS
        have hc2097 : w2096.cell? ⟨g2070, 2, none⟩ = some (.int .i64 t2067.2.2.1) := blk_cellv (HS.out.at5) 2 rfl
        go_wp2_with fail
        clear hc2097
        replace HS : Aside0 (Sep FF w [r5 A1948 l1947.length n1950 t2094.2, b12 g1960 g1943, b7 g1943 g1945 a1953 a1954 a1955 a1956, b6 g1945 A1948 l1947.length n1950 t2094.1, b10 g1962 a1963, b8 g2070 t2067.1 t2067.2.1 t2067.2.2.1] w2096) := ⟨HS.out.front 3 (by simp)⟩
        replace HS : Aside0 (Sep FF w [b6 g1945 A1948 l1947.length n1950 t2094.1, r5 A1948 l1947.length n1950 t2094.2, b12 g1960 g1943, b7 g1943 g1945 a1953 a1954 a1955 a1956, b10 g1962 a1963, b8 g2070 t2067.1 t2067.2.1 t2067.2.2.1] w2096) := ⟨HS.out.front 3 (by simp)⟩
        replace HS : Aside0 (Sep FF w [b7 g1943 g1945 a1953 a1954 a1955 a1956, b6 g1945 A1948 l1947.length n1950 t2094.1, r5 A1948 l1947.length n1950 t2094.2, b12 g1960 g1943, b10 g1962 a1963, b8 g2070 t2067.1 t2067.2.1 t2067.2.2.1] w2096) := ⟨HS.out.front 3 (by simp)⟩
        obtain ⟨t2098, HA2099, H⟩ := bind_some H
        refine (ground_Ground_SetReg.calls t2094.2 t2094.1 a1953 a1954 a1955 a1956 t2067.2.2.1 (wrap64 (t2088.1 + 1)) g1943 g1945 A1948 l1947.length n1950 t2098 _ ⟨HS.out.begin (l := [b7 g1943 g1945 a1953 a1954 a1955 a1956, b6 g1945 A1948 l1947.length n1950 t2094.1, r5 A1948 l1947.length n1950 t2094.2]) (rest := [b12 g1960 g1943, b10 g1962 a1963, b8 g2070 t2067.1 t2067.2.1 t2067.2.2.1])⟩ HA2099).mono ?_
        rintro e_ w2100 ⟨rfl, hS⟩
        replace HS : Aside0 (Sep FF w [b7 g1943 g1945 a1953 a1954 a1955 a1956, b6 g1945 A1948 l1947.length n1950 t2098.2.1, r5 A1948 l1947.length n1950 t2098.2.2, b12 g1960 g1943, b10 g1962 a1963, b8 g2070 t2067.1 t2067.2.1 t2067.2.2.1] w2100) := ⟨HS.out.call (l := [b7 g1943 g1945 a1953 a1954 a1955 a1956, b6 g1945 A1948 l1947.length n1950 t2094.1, r5 A1948 l1947.length n1950 t2094.2]) (rest := [b12 g1960 g1943, b10 g1962 a1963, b8 g2070 t2067.1 t2067.2.1 t2067.2.2.1]) hS⟩
        clear hS
        replace HS : Aside0 (Sep FF w [b7 g1943 g1945 a1953 a1954 a1955 a1956, b6 g1945 A1948 l1947.length n1950 t2098.2.1, r5 A1948 l1947.length n1950 t2098.2.2, b12 g1960 g1943, b10 g1962 a1963] w2100) := ⟨HS.out.sub (.cons_cons _ (.cons_cons _ (.cons_cons _ (.cons_cons _ (.cons_cons _ (.cons _ .slnil))))))⟩
        go_wp2_with fail
        go_ret
        rw [← some_eq H]
        exact ⟨(by first | rfl | (simp [IntKind.wrap_u32]; done)), ((((((HS.out).front 4 (by simp)).front 4 (by simp)).front 4 (by simp)).front 4 (by simp)).front 4 (by simp)).keep (l := [b7 g1943 g1945 a1953 a1954 a1955 a1956, b6 g1945 A1948 l1947.length n1950 t2098.2.1, r5 A1948 l1947.length n1950 t2098.2.2, b12 g1960 g1943, b10 g1962 a1963]) (rest := [])⟩
  · have H := if_no c2080 H
    have c2080b0 : t2067.2.2.2 = false := by simpa using c2080
    have c2080b1 : (!t2067.2.2.2) = true := by rw [c2080b0]; rfl
    try rw [c2080b1]
    clear c2080
    go_wp2_with (first | ((with_reducible refine gate_dst (N := 9) rfl ?_); refine box_on ?hg (N := 9) ?hd (cs := #[.int .i64 0, .int .i64 0, .int .i64 0]) (t := 134) ?hr ?_; (case hd => rfl); (case hg => rfl); (case hr => first | (go_simp; done) | (go_simp; rfl)); intro g2070 hg w2071 hbox hb; replace HS : Aside0 (Sep FF w [b7 g1943 g1945 a1953 a1954 a1955 a1956, b6 g1945 A1948 l1947.length n1950 a1952, r5 A1948 l1947.length n1950 l1947, b12 g1960 g1943, b10 g1962 a1963, b8 g2070 0 0 0] w2071) := ⟨HS.out.box hg hbox hb⟩; clear hg hbox hb; have hc2073 : w2071.cell? ⟨g2070, 0, none⟩ = some (.int .i64 0) := blk_cellv (HS.out.at5) 0 rfl; have hz2074 : w2071.frozen? ⟨g2070, 0, none⟩ = false := blk_fz (HS.out.at5) 0; have hc2075 : w2071.cell? ⟨g2070, 1, none⟩ = some (.int .i64 0) := blk_cellv (HS.out.at5) 1 rfl; have hz2076 : w2071.frozen? ⟨g2070, 1, none⟩ = false := blk_fz (HS.out.at5) 1; have hc2077 : w2071.cell? ⟨g2070, 2, none⟩ = some (.int .i64 0) := blk_cellv (HS.out.at5) 2 rfl; have hz2078 : w2071.frozen? ⟨g2070, 2, none⟩ = false := blk_fz (HS.out.at5) 2) | ((with_reducible refine gate_store (t := 134) (p := 9) rfl ?_); refine store_event (w1 := (World.setCell (World.setCell (World.setCell w2071 ⟨g2070, 0, none⟩ (.int .i64 t2067.1)) ⟨g2070, 1, none⟩ (.int .i64 t2067.2.1)) ⟨g2070, 2, none⟩ (.int .i64 t2067.2.2.1))) rfl (t := 134) (p := 9) rfl rfl ?hr ?_; (case hr => first | (go_simp; done) | (go_simp; rfl)); intro w2079 hst; clear hc2073 hz2074 hc2075 hz2076 hc2077 hz2078; replace HS : Aside0 (Sep FF w [b7 g1943 g1945 a1953 a1954 a1955 a1956, b6 g1945 A1948 l1947.length n1950 a1952, r5 A1948 l1947.length n1950 l1947, b12 g1960 g1943, b10 g1962 a1963, b8 g2070 t2067.1 t2067.2.1 t2067.2.2.1] w2079) := ⟨by rw [hst]; exact HS.out.setAll (l1 := [b7 g1943 g1945 a1953 a1954 a1955 a1956, b6 g1945 A1948 l1947.length n1950 a1952, r5 A1948 l1947.length n1950 l1947, b12 g1960 g1943, b10 g1962 a1963]) (l2 := []) [.int .i64 t2067.1, .int .i64 t2067.2.1, .int .i64 t2067.2.2.1] rfl⟩; clear hst; replace HS : Aside0 (Sep FF w [b7 g1943 g1945 a1953 a1954 a1955 a1956, b6 g1945 A1948 l1947.length n1950 a1952, r5 A1948 l1947.length n1950 l1947, b12 g1960 g1943, b10 g1962 a1963] w2079) := ⟨HS.out.sub (.cons_cons _ (.cons_cons _ (.cons_cons _ (.cons_cons _ (.cons_cons _ (.cons _ .slnil))))))⟩))
    go_ret
    rw [← some_eq H]
    exact ⟨(by first | rfl | (simp [IntKind.wrap_u32]; done)), ((((((HS.out).front 4 (by simp)).front 4 (by simp)).front 4 (by simp)).front 4 (by simp)).front 4 (by simp)).keep (l := [b7 g1943 g1945 a1953 a1954 a1955 a1956, b6 g1945 A1948 l1947.length n1950 a1952, r5 A1948 l1947.length n1950 l1947, b12 g1960 g1943, b10 g1962 a1963]) (rest := [])⟩

set_option maxHeartbeats 30000000 in
set_option maxRecDepth 100000 in
theorem chain_Push.calls (l1922 : List Int) (a1927 : Int) (a1928 : Int) (a1929 : Int) (a1930 : Int) (a1931 : Int) (a1932 : Int) (a1933 : Int) (g1918 : Nat) (g1920 : Nat) (A1923 : Option Addr) (m1924 : Nat) (n1925 : Nat) (r : Bool × Int × List Int) (w : World)   (HS : Aside0 (Sep (fps [b7 g1918 g1920 a1928 a1929 a1930 a1931, b6 g1920 A1923 m1924 n1925 a1927, r5 A1923 m1924 n1925 l1922]) w [b7 g1918 g1920 a1928 a1929 a1930 a1931, b6 g1920 A1923 m1924 n1925 a1927, r5 A1923 m1924 n1925 l1922] w)) (H : Aside0 (chain_Push.f l1922 a1927 a1928 a1929 a1930 a1931 a1932 a1933 = some r)) :
    Calls Try.prog 53 #[.pointer (some ⟨g1918, 0, none⟩), .int .i64 a1932, .int .i64 a1933] w fun e w' => e = .returned (.bool r.1) ∧ Sep (fps [b7 g1918 g1920 a1928 a1929 a1930 a1931, b6 g1920 A1923 m1924 n1925 a1927, r5 A1923 m1924 n1925 l1922]) w [b7 g1918 g1920 a1928 a1929 a1930 a1931, b6 g1920 A1923 m1924 n1925 r.2.1, r5 A1923 m1924 n1925 r.2.2] w' := by
  generalize (fps [b7 g1918 g1920 a1928 a1929 a1930 a1931, b6 g1920 A1923 m1924 n1925 a1927, r5 A1923 m1924 n1925 l1922]) = FF at HS ⊢
  obtain rfl := (row_len (HS.out.at2)).symm
  unfold chain_Push.f at H
  go_enter Try.func53, Try.ntmps53
  go_wp2_with (first | ((with_reducible refine gate_dst (N := 3) rfl ?_); refine box_on ?hg (N := 3) ?hd (cs := #[.pointer (some ⟨g1918, 0, none⟩)]) (t := 50) ?hr ?_; (case hd => rfl); (case hg => rfl); (case hr => first | (go_simp; done) | (go_simp; rfl)); intro g2104 hg w2105 hbox hb; replace HS : Aside0 (Sep FF w [b7 g1918 g1920 a1928 a1929 a1930 a1931, b6 g1920 A1923 l1922.length n1925 a1927, r5 A1923 l1922.length n1925 l1922, b12 g2104 g1918] w2105) := ⟨HS.out.box hg hbox hb⟩; clear hg hbox hb) | ((with_reducible refine gate_dst (N := 5) rfl ?_); refine box_on ?hg (N := 5) ?hd (cs := #[.int .i64 a1933]) (t := 3) ?hr ?_; (case hd => rfl); (case hg => rfl); (case hr => first | (go_simp; done) | (go_simp; rfl)); intro g2107 hg w2108 hbox hb; replace HS : Aside0 (Sep FF w [b7 g1918 g1920 a1928 a1929 a1930 a1931, b6 g1920 A1923 l1922.length n1925 a1927, r5 A1923 l1922.length n1925 l1922, b12 g2104 g1918, b10 g2107 a1933] w2108) := ⟨HS.out.box hg hbox hb⟩; clear hg hbox hb; have hc2110 : w2108.cell? ⟨g2104, 0, none⟩ = some (.pointer (some ⟨g1918, 0, none⟩)) := blk_cellv (HS.out.at3) 0 rfl; have hc2111 : w2108.cell? ⟨g2107, 0, none⟩ = some (.int .i64 a1933) := blk_cellv (HS.out.at4) 0 rfl))
  clear hc2110 hc2111
  obtain ⟨t2112, HA2113, H⟩ := bind_some H
  refine (chain_put_F90.calls l1922 a1927 a1928 a1929 a1930 a1931 a1932 a1933 a1933 g1918 g1920 A1923 l1922.length n1925 g2104 g2107 t2112 _ ⟨HS.out.begin (l := [b7 g1918 g1920 a1928 a1929 a1930 a1931, b6 g1920 A1923 l1922.length n1925 a1927, r5 A1923 l1922.length n1925 l1922, b12 g2104 g1918, b10 g2107 a1933]) (rest := [])⟩ HA2113).mono ?_
  rintro e_ w2114 ⟨rfl, hS⟩
  replace HS : Aside0 (Sep FF w [b7 g1918 g1920 a1928 a1929 a1930 a1931, b6 g1920 A1923 l1922.length n1925 t2112.2.1, r5 A1923 l1922.length n1925 t2112.2.2, b12 g2104 g1918, b10 g2107 a1933] w2114) := ⟨HS.out.call (l := [b7 g1918 g1920 a1928 a1929 a1930 a1931, b6 g1920 A1923 l1922.length n1925 a1927, r5 A1923 l1922.length n1925 l1922, b12 g2104 g1918, b10 g2107 a1933]) (rest := []) hS⟩
  clear hS
  replace HS : Aside0 (Sep FF w [b7 g1918 g1920 a1928 a1929 a1930 a1931, b6 g1920 A1923 l1922.length n1925 t2112.2.1, r5 A1923 l1922.length n1925 t2112.2.2] w2114) := ⟨HS.out.sub (.cons_cons _ (.cons_cons _ (.cons_cons _ (.cons _ (.cons _ .slnil)))))⟩
  go_wp2_with fail
  go_ret
  rw [← some_eq H]
  exact ⟨(by first | rfl | (simp [IntKind.wrap_u32]; done)), ((((HS.out).front 2 (by simp)).front 2 (by simp)).front 2 (by simp)).keep (l := [b7 g1918 g1920 a1928 a1929 a1930 a1931, b6 g1920 A1923 l1922.length n1925 t2112.2.1, r5 A1923 l1922.length n1925 t2112.2.2]) (rest := [])⟩

set_option maxHeartbeats 30000000 in
set_option maxRecDepth 100000 in
theorem store_Store_Peek.calls (l2175 : List Int) (a2180 : Int) (a2181 : Int) (g2173 : Nat) (A2176 : Option Addr) (m2177 : Nat) (n2178 : Nat) (r : Int) (w : World)   (HS : Aside0 (Sep (fps [b6 g2173 A2176 m2177 n2178 a2180, r5 A2176 m2177 n2178 l2175]) w [b6 g2173 A2176 m2177 n2178 a2180, r5 A2176 m2177 n2178 l2175] w)) (H : Aside0 (store_Store_Peek.f l2175 a2180 a2181 = some r)) :
    Calls Try.prog 20 #[.pointer (some ⟨g2173, 0, none⟩), .int .i64 a2181] w fun e w' => e = .returned (.int .u32 r) ∧ Sep (fps [b6 g2173 A2176 m2177 n2178 a2180, r5 A2176 m2177 n2178 l2175]) w [b6 g2173 A2176 m2177 n2178 a2180, r5 A2176 m2177 n2178 l2175] w' := by
  generalize (fps [b6 g2173 A2176 m2177 n2178 a2180, r5 A2176 m2177 n2178 l2175]) = FF at HS ⊢
  obtain rfl := (row_len (HS.out.at1)).symm
  unfold store_Store_Peek.f at H
  go_enter Try.func20, Try.ntmps20
  go_wp2_with fail
  obtain ⟨t2182, HA2183, H⟩ := bind_some H
  refine (store_Store_has.calls l2175 a2180 a2181 g2173 A2176 l2175.length n2178 t2182 _ ⟨HS.out.begin (l := [b6 g2173 A2176 l2175.length n2178 a2180, r5 A2176 l2175.length n2178 l2175]) (rest := [])⟩ HA2183).mono ?_
  rintro e_ w2184 ⟨rfl, hS⟩
  replace HS : Aside0 (Sep FF w [b6 g2173 A2176 l2175.length n2178 a2180, r5 A2176 l2175.length n2178 l2175] w2184) := ⟨HS.out.call (l := [b6 g2173 A2176 l2175.length n2178 a2180, r5 A2176 l2175.length n2178 l2175]) (rest := []) hS⟩
  clear hS
  by_cases c2185 : t2182 = true
  · have H := if_yes c2185 H
    have c2185b0 : t2182 = true := c2185
    have c2185b1 : (!t2182) = false := by rw [c2185b0]; rfl
    try rw [c2185b1]
    clear c2185
    by_cases c2187 : 0 ≤ a2181
    · have H := if_yes c2187 H
      have c2187b0 : decide (0 ≤ a2181) = true := decide_eq_true c2187
      have c2187p : (0 ≤ a2181) = True := eq_true c2187
      clear c2187
      by_cases c2188 : a2181 < (l2175.length : Int)
      · have H := if_yes c2188 H
        have c2188b0 : decide (a2181 < (l2175.length : Int)) = true := decide_eq_true c2188
        have c2188p : (a2181 < (l2175.length : Int)) = True := eq_true c2188
        clear c2188
        have hc2186 : w2184.cell? ⟨g2173, 0, none⟩ = some (.slice A2176 l2175.length n2178) := blk_cellv (HS.out.at0) 0 rfl
        obtain ⟨g2189, ea⟩ := row_at (HS.out.at1) (by have := (of_decide_eq_true c2187b0); have := (of_decide_eq_true c2188b0); omega); cases ea
        have hx2190 := C_at_int (row_Ci (HS.out.at1)) a2181 (of_decide_eq_true c2187b0) (of_decide_eq_true c2188b0)
        have hx2191 : w2184.cell? ⟨g2189, (a2181).toNat, none⟩ = some (.int .u32 (rd l2175 a2181)) := (row_get 0 (HS.out.at1) a2181 (of_decide_eq_true c2187b0) (of_decide_eq_true c2188b0)).1
        go_wp2_with fail
        clear hc2186 hx2190 hx2191
        go_ret
        rw [← some_eq H]
        exact ⟨(by first | rfl | (simp [IntKind.wrap_u32]; done)), (((HS.out).front 1 (by simp)).front 1 (by simp)).keep (l := [b6 g2173 (some ⟨g2189, 0, none⟩) l2175.length n2178 a2180, r5 (some ⟨g2189, 0, none⟩) l2175.length n2178 l2175]) (rest := [])⟩
      · have H := if_no c2188 H
        have c2188b0 : decide (a2181 < (l2175.length : Int)) = false := decide_eq_false c2188
        clear c2188
        exact (none_no H).elim
    · have H := if_no c2187 H
      have c2187b0 : decide (0 ≤ a2181) = false := decide_eq_false c2187
      clear c2187
      exact (none_no H).elim
  · have H := if_no c2185 H
    have c2185b0 : t2182 = false := by simpa using c2185
    have c2185b1 : (!t2182) = true := by rw [c2185b0]; rfl
    try rw [c2185b1]
    clear c2185
    go_wp2_with fail
    go_ret
    rw [← some_eq H]
    exact ⟨(by first | rfl | (simp [IntKind.wrap_u32]; done)), (((HS.out).front 1 (by simp)).front 1 (by simp)).keep (l := [b6 g2173 A2176 l2175.length n2178 a2180, r5 A2176 l2175.length n2178 l2175]) (rest := [])⟩

set_option maxHeartbeats 30000000 in
set_option maxRecDepth 100000 in
theorem ground_Ground_SeeReg.calls (l2155 : List Int) (a2160 : Int) (a2161 : Int) (a2162 : Int) (a2163 : Int) (a2164 : Int) (a2165 : Int) (g2151 : Nat) (g2153 : Nat) (A2156 : Option Addr) (m2157 : Nat) (n2158 : Nat) (r : Int) (w : World)   (HS : Aside0 (Sep (fps [b7 g2151 g2153 a2161 a2162 a2163 a2164, b6 g2153 A2156 m2157 n2158 a2160, r5 A2156 m2157 n2158 l2155]) w [b7 g2151 g2153 a2161 a2162 a2163 a2164, b6 g2153 A2156 m2157 n2158 a2160, r5 A2156 m2157 n2158 l2155] w)) (H : Aside0 (ground_Ground_SeeReg.f l2155 a2160 a2161 a2162 a2163 a2164 a2165 = some r)) :
    Calls Try.prog 48 #[.pointer (some ⟨g2151, 0, none⟩), .int .i64 a2165] w fun e w' => e = .returned (.int .i64 r) ∧ Sep (fps [b7 g2151 g2153 a2161 a2162 a2163 a2164, b6 g2153 A2156 m2157 n2158 a2160, r5 A2156 m2157 n2158 l2155]) w [b7 g2151 g2153 a2161 a2162 a2163 a2164, b6 g2153 A2156 m2157 n2158 a2160, r5 A2156 m2157 n2158 l2155] w' := by
  generalize (fps [b7 g2151 g2153 a2161 a2162 a2163 a2164, b6 g2153 A2156 m2157 n2158 a2160, r5 A2156 m2157 n2158 l2155]) = FF at HS ⊢
  obtain rfl := (row_len (HS.out.at2)).symm
  unfold ground_Ground_SeeReg.f at H
  go_enter Try.func48, Try.ntmps48
  go_wp2_with fail
  obtain ⟨t2166, HA2167, H⟩ := bind_some H
  refine (ground_Ground_all.calls l2155 a2160 a2161 a2162 a2163 a2164 g2151 g2153 A2156 l2155.length n2158 t2166 _ ⟨HS.out.begin (l := [b7 g2151 g2153 a2161 a2162 a2163 a2164, b6 g2153 A2156 l2155.length n2158 a2160, r5 A2156 l2155.length n2158 l2155]) (rest := [])⟩ HA2167).mono ?_
  rintro e_ w2168 ⟨rfl, hS⟩
  replace HS : Aside0 (Sep FF w [b7 g2151 g2153 a2161 a2162 a2163 a2164, b6 g2153 A2156 l2155.length n2158 a2160, r5 A2156 l2155.length n2158 l2155] w2168) := ⟨HS.out.call (l := [b7 g2151 g2153 a2161 a2162 a2163 a2164, b6 g2153 A2156 l2155.length n2158 a2160, r5 A2156 l2155.length n2158 l2155]) (rest := []) hS⟩
  clear hS
  go_wp2_with fail
  obtain ⟨t2169, HA2170, H⟩ := bind_some H
  refine (ground_reg.calls a2165 t2169 _ ⟨HS.out.begin (l := []) (rest := [b7 g2151 g2153 a2161 a2162 a2163 a2164, b6 g2153 A2156 l2155.length n2158 a2160, r5 A2156 l2155.length n2158 l2155])⟩ HA2170).mono ?_
  rintro e_ w2171 ⟨rfl, hS⟩
  replace HS : Aside0 (Sep FF w [b7 g2151 g2153 a2161 a2162 a2163 a2164, b6 g2153 A2156 l2155.length n2158 a2160, r5 A2156 l2155.length n2158 l2155] w2171) := ⟨HS.out.call (l := []) (rest := [b7 g2151 g2153 a2161 a2162 a2163 a2164, b6 g2153 A2156 l2155.length n2158 a2160, r5 A2156 l2155.length n2158 l2155]) hS⟩
  clear hS
  go_wp2_with fail
  replace HS : Aside0 (Sep FF w [r5 A2156 l2155.length n2158 l2155, b7 g2151 g2153 a2161 a2162 a2163 a2164, b6 g2153 A2156 l2155.length n2158 a2160] w2171) := ⟨HS.out.front 2 (by simp)⟩
  replace HS : Aside0 (Sep FF w [b6 g2153 A2156 l2155.length n2158 a2160, r5 A2156 l2155.length n2158 l2155, b7 g2151 g2153 a2161 a2162 a2163 a2164] w2171) := ⟨HS.out.front 2 (by simp)⟩
  obtain ⟨t2192, HA2193, H⟩ := bind_some H
  refine (store_Store_Peek.calls l2155 a2160 t2169 g2153 A2156 l2155.length n2158 t2192 _ ⟨HS.out.begin (l := [b6 g2153 A2156 l2155.length n2158 a2160, r5 A2156 l2155.length n2158 l2155]) (rest := [b7 g2151 g2153 a2161 a2162 a2163 a2164])⟩ HA2193).mono ?_
  rintro e_ w2194 ⟨rfl, hS⟩
  replace HS : Aside0 (Sep FF w [b6 g2153 A2156 l2155.length n2158 a2160, r5 A2156 l2155.length n2158 l2155, b7 g2151 g2153 a2161 a2162 a2163 a2164] w2194) := ⟨HS.out.call (l := [b6 g2153 A2156 l2155.length n2158 a2160, r5 A2156 l2155.length n2158 l2155]) (rest := [b7 g2151 g2153 a2161 a2162 a2163 a2164]) hS⟩
  clear hS
  go_wp2_with fail
  go_ret
  rw [← some_eq H]
  exact ⟨(by first | rfl | (simp [IntKind.wrap_u32]; done)), ((((HS.out).front 1 (by simp)).front 1 (by simp)).front 2 (by simp)).keep (l := [b7 g2151 g2153 a2161 a2162 a2163 a2164, b6 g2153 A2156 l2155.length n2158 a2160, r5 A2156 l2155.length n2158 l2155]) (rest := [])⟩

set_option maxHeartbeats 30000000 in
set_option maxRecDepth 100000 in
theorem ground_Ground_SeeWord.calls (l2232 : List Int) (a2237 : Int) (a2238 : Int) (a2239 : Int) (a2240 : Int) (a2241 : Int) (a2242 : Int) (a2243 : Int) (g2228 : Nat) (g2230 : Nat) (A2233 : Option Addr) (m2234 : Nat) (n2235 : Nat) (r : Int) (w : World)   (HS : Aside0 (Sep (fps [b7 g2228 g2230 a2238 a2239 a2240 a2241, b6 g2230 A2233 m2234 n2235 a2237, r5 A2233 m2234 n2235 l2232]) w [b7 g2228 g2230 a2238 a2239 a2240 a2241, b6 g2230 A2233 m2234 n2235 a2237, r5 A2233 m2234 n2235 l2232] w)) (H : Aside0 (ground_Ground_SeeWord.f l2232 a2237 a2238 a2239 a2240 a2241 a2242 a2243 = some r)) :
    Calls Try.prog 50 #[.pointer (some ⟨g2228, 0, none⟩), .int .i64 a2242, .int .i64 a2243] w fun e w' => e = .returned (.int .u32 r) ∧ Sep (fps [b7 g2228 g2230 a2238 a2239 a2240 a2241, b6 g2230 A2233 m2234 n2235 a2237, r5 A2233 m2234 n2235 l2232]) w [b7 g2228 g2230 a2238 a2239 a2240 a2241, b6 g2230 A2233 m2234 n2235 a2237, r5 A2233 m2234 n2235 l2232] w' := by
  generalize (fps [b7 g2228 g2230 a2238 a2239 a2240 a2241, b6 g2230 A2233 m2234 n2235 a2237, r5 A2233 m2234 n2235 l2232]) = FF at HS ⊢
  obtain rfl := (row_len (HS.out.at2)).symm
  unfold ground_Ground_SeeWord.f at H
  go_enter Try.func50, Try.ntmps50
  go_wp2_with fail
  obtain ⟨t2244, HA2245, H⟩ := bind_some H
  refine (ground_Ground_all.calls l2232 a2237 a2238 a2239 a2240 a2241 g2228 g2230 A2233 l2232.length n2235 t2244 _ ⟨HS.out.begin (l := [b7 g2228 g2230 a2238 a2239 a2240 a2241, b6 g2230 A2233 l2232.length n2235 a2237, r5 A2233 l2232.length n2235 l2232]) (rest := [])⟩ HA2245).mono ?_
  rintro e_ w2246 ⟨rfl, hS⟩
  replace HS : Aside0 (Sep FF w [b7 g2228 g2230 a2238 a2239 a2240 a2241, b6 g2230 A2233 l2232.length n2235 a2237, r5 A2233 l2232.length n2235 l2232] w2246) := ⟨HS.out.call (l := [b7 g2228 g2230 a2238 a2239 a2240 a2241, b6 g2230 A2233 l2232.length n2235 a2237, r5 A2233 l2232.length n2235 l2232]) (rest := []) hS⟩
  clear hS
  go_wp2_with fail
  obtain ⟨t2247, HA2248, H⟩ := bind_some H
  refine (ground_Ground_word.calls l2232 a2237 a2238 a2239 a2240 a2241 a2242 a2243 g2228 g2230 A2233 l2232.length n2235 t2247 _ ⟨HS.out.begin (l := [b7 g2228 g2230 a2238 a2239 a2240 a2241, b6 g2230 A2233 l2232.length n2235 a2237, r5 A2233 l2232.length n2235 l2232]) (rest := [])⟩ HA2248).mono ?_
  rintro e_ w2249 ⟨rfl, hS⟩
  replace HS : Aside0 (Sep FF w [b7 g2228 g2230 a2238 a2239 a2240 a2241, b6 g2230 A2233 l2232.length n2235 a2237, r5 A2233 l2232.length n2235 l2232] w2249) := ⟨HS.out.call (l := [b7 g2228 g2230 a2238 a2239 a2240 a2241, b6 g2230 A2233 l2232.length n2235 a2237, r5 A2233 l2232.length n2235 l2232]) (rest := []) hS⟩
  clear hS
  go_wp2_with fail
  replace HS : Aside0 (Sep FF w [r5 A2233 l2232.length n2235 l2232, b7 g2228 g2230 a2238 a2239 a2240 a2241, b6 g2230 A2233 l2232.length n2235 a2237] w2249) := ⟨HS.out.front 2 (by simp)⟩
  replace HS : Aside0 (Sep FF w [b6 g2230 A2233 l2232.length n2235 a2237, r5 A2233 l2232.length n2235 l2232, b7 g2228 g2230 a2238 a2239 a2240 a2241] w2249) := ⟨HS.out.front 2 (by simp)⟩
  obtain ⟨t2250, HA2251, H⟩ := bind_some H
  refine (store_Store_Peek.calls l2232 a2237 t2247 g2230 A2233 l2232.length n2235 t2250 _ ⟨HS.out.begin (l := [b6 g2230 A2233 l2232.length n2235 a2237, r5 A2233 l2232.length n2235 l2232]) (rest := [b7 g2228 g2230 a2238 a2239 a2240 a2241])⟩ HA2251).mono ?_
  rintro e_ w2252 ⟨rfl, hS⟩
  replace HS : Aside0 (Sep FF w [b6 g2230 A2233 l2232.length n2235 a2237, r5 A2233 l2232.length n2235 l2232, b7 g2228 g2230 a2238 a2239 a2240 a2241] w2252) := ⟨HS.out.call (l := [b6 g2230 A2233 l2232.length n2235 a2237, r5 A2233 l2232.length n2235 l2232]) (rest := [b7 g2228 g2230 a2238 a2239 a2240 a2241]) hS⟩
  clear hS
  go_wp2_with fail
  go_ret
  rw [← some_eq H]
  exact ⟨(by first | rfl | (simp [IntKind.wrap_u32]; done)), ((((HS.out).front 1 (by simp)).front 1 (by simp)).front 2 (by simp)).keep (l := [b7 g2228 g2230 a2238 a2239 a2240 a2241, b6 g2230 A2233 l2232.length n2235 a2237, r5 A2233 l2232.length n2235 l2232]) (rest := [])⟩

set_option maxHeartbeats 30000000 in
set_option maxRecDepth 100000 in
theorem chain_List.calls (k : Nat) (l2124 : List Int) (a2129 : Int) (a2130 : Int) (a2131 : Int) (a2132 : Int) (a2133 : Int) (a2134 : Int) (g2120 : Nat) (g2122 : Nat) (A2125 : Option Addr) (m2126 : Nat) (n2127 : Nat) (r : List Int) (w : World)   (HS : Aside0 (Sep (fps [b7 g2120 g2122 a2130 a2131 a2132 a2133, b6 g2122 A2125 m2126 n2127 a2129, r5 A2125 m2126 n2127 l2124]) w [b7 g2120 g2122 a2130 a2131 a2132 a2133, b6 g2122 A2125 m2126 n2127 a2129, r5 A2125 m2126 n2127 l2124] w)) (H : Aside0 (chain_List.f k l2124 a2129 a2130 a2131 a2132 a2133 a2134 = some r)) :
    Calls Try.prog 56 #[.pointer (some ⟨g2120, 0, none⟩), .int .i64 a2134] w fun e w' => ∃ (A2263 : Option Addr) (m2264 : Nat) (n2265 : Nat), e = .returned (.slice A2263 m2264 n2265) ∧ Sep (fps [b7 g2120 g2122 a2130 a2131 a2132 a2133, b6 g2122 A2125 m2126 n2127 a2129, r5 A2125 m2126 n2127 l2124]) w [b7 g2120 g2122 a2130 a2131 a2132 a2133, b6 g2122 A2125 m2126 n2127 a2129, r5 A2125 m2126 n2127 l2124, r11 A2263 m2264 n2265 r] w' := by
  generalize (fps [b7 g2120 g2122 a2130 a2131 a2132 a2133, b6 g2122 A2125 m2126 n2127 a2129, r5 A2125 m2126 n2127 l2124]) = FF at HS ⊢
  obtain rfl := (row_len (HS.out.at2)).symm
  unfold chain_List.f at H
  go_enter Try.func56, Try.ntmps56
  go_wp2_with fail
  obtain ⟨t2135, HA2136, H⟩ := bind_some H
  refine (chain_of.calls l2124 a2129 a2130 a2131 a2132 a2133 a2134 g2120 g2122 A2125 l2124.length n2127 t2135 _ ⟨HS.out.begin (l := [b7 g2120 g2122 a2130 a2131 a2132 a2133, b6 g2122 A2125 l2124.length n2127 a2129, r5 A2125 l2124.length n2127 l2124]) (rest := [])⟩ HA2136).mono ?_
  rintro e_ w2137 ⟨rfl, hS⟩
  replace HS : Aside0 (Sep FF w [b7 g2120 g2122 a2130 a2131 a2132 a2133, b6 g2122 A2125 l2124.length n2127 a2129, r5 A2125 l2124.length n2127 l2124] w2137) := ⟨HS.out.call (l := [b7 g2120 g2122 a2130 a2131 a2132 a2133, b6 g2122 A2125 l2124.length n2127 a2129, r5 A2125 l2124.length n2127 l2124]) (rest := []) hS⟩
  clear hS
  by_cases c2148 : t2135.2.2.2 = true
  · have H := if_yes c2148 H
    have c2148b0 : t2135.2.2.2 = true := c2148
    have c2148b1 : (!t2135.2.2.2) = false := by rw [c2148b0]; rfl
    try rw [c2148b1]
    clear c2148
    go_wp2_with (first | ((with_reducible refine gate_dst (N := 5) rfl ?_); refine box_on ?hg (N := 5) ?hd (cs := #[.int .i64 0, .int .i64 0, .int .i64 0]) (t := 134) ?hr ?_; (case hd => rfl); (case hg => rfl); (case hr => first | (go_simp; done) | (go_simp; rfl)); intro g2138 hg w2139 hbox hb; replace HS : Aside0 (Sep FF w [b7 g2120 g2122 a2130 a2131 a2132 a2133, b6 g2122 A2125 l2124.length n2127 a2129, r5 A2125 l2124.length n2127 l2124, b8 g2138 0 0 0] w2139) := ⟨HS.out.box hg hbox hb⟩; clear hg hbox hb; have hc2141 : w2139.cell? ⟨g2138, 0, none⟩ = some (.int .i64 0) := blk_cellv (HS.out.at3) 0 rfl; have hz2142 : w2139.frozen? ⟨g2138, 0, none⟩ = false := blk_fz (HS.out.at3) 0; have hc2143 : w2139.cell? ⟨g2138, 1, none⟩ = some (.int .i64 0) := blk_cellv (HS.out.at3) 1 rfl; have hz2144 : w2139.frozen? ⟨g2138, 1, none⟩ = false := blk_fz (HS.out.at3) 1; have hc2145 : w2139.cell? ⟨g2138, 2, none⟩ = some (.int .i64 0) := blk_cellv (HS.out.at3) 2 rfl; have hz2146 : w2139.frozen? ⟨g2138, 2, none⟩ = false := blk_fz (HS.out.at3) 2) | ((with_reducible refine gate_store (t := 134) (p := 5) rfl ?_); refine store_event (w1 := (World.setCell (World.setCell (World.setCell w2139 ⟨g2138, 0, none⟩ (.int .i64 t2135.1)) ⟨g2138, 1, none⟩ (.int .i64 t2135.2.1)) ⟨g2138, 2, none⟩ (.int .i64 t2135.2.2.1))) rfl (t := 134) (p := 5) rfl rfl ?hr ?_; (case hr => first | (go_simp; done) | (go_simp; rfl)); intro w2147 hst; clear hc2141 hz2142 hc2143 hz2144 hc2145 hz2146; replace HS : Aside0 (Sep FF w [b7 g2120 g2122 a2130 a2131 a2132 a2133, b6 g2122 A2125 l2124.length n2127 a2129, r5 A2125 l2124.length n2127 l2124, b8 g2138 t2135.1 t2135.2.1 t2135.2.2.1] w2147) := ⟨by rw [hst]; exact HS.out.setAll (l1 := [b7 g2120 g2122 a2130 a2131 a2132 a2133, b6 g2122 A2125 l2124.length n2127 a2129, r5 A2125 l2124.length n2127 l2124]) (l2 := []) [.int .i64 t2135.1, .int .i64 t2135.2.1, .int .i64 t2135.2.2.1] rfl⟩; clear hst; have hc2149 : w2147.cell? ⟨g2138, 0, none⟩ = some (.int .i64 t2135.1) := blk_cellv (HS.out.at3) 0 rfl))
    clear hc2149
    obtain ⟨t2195, HA2196, H⟩ := bind_some H
    refine (ground_Ground_SeeReg.calls l2124 a2129 a2130 a2131 a2132 a2133 t2135.1 g2120 g2122 A2125 l2124.length n2127 t2195 _ ⟨HS.out.begin (l := [b7 g2120 g2122 a2130 a2131 a2132 a2133, b6 g2122 A2125 l2124.length n2127 a2129, r5 A2125 l2124.length n2127 l2124]) (rest := [b8 g2138 t2135.1 t2135.2.1 t2135.2.2.1])⟩ HA2196).mono ?_
    rintro e_ w2197 ⟨rfl, hS⟩
    replace HS : Aside0 (Sep FF w [b7 g2120 g2122 a2130 a2131 a2132 a2133, b6 g2122 A2125 l2124.length n2127 a2129, r5 A2125 l2124.length n2127 l2124, b8 g2138 t2135.1 t2135.2.1 t2135.2.2.1] w2197) := ⟨HS.out.call (l := [b7 g2120 g2122 a2130 a2131 a2132 a2133, b6 g2122 A2125 l2124.length n2127 a2129, r5 A2125 l2124.length n2127 l2124]) (rest := [b8 g2138 t2135.1 t2135.2.1 t2135.2.2.1]) hS⟩
    clear hS
    replace HS : Aside0 (Sep FF w [b7 g2120 g2122 a2130 a2131 a2132 a2133, b6 g2122 A2125 l2124.length n2127 a2129, r5 A2125 l2124.length n2127 l2124] w2197) := ⟨HS.out.sub (.cons_cons _ (.cons_cons _ (.cons_cons _ (.cons _ .slnil))))⟩
    go_wp2_with fail
    replace HS : Aside0 (Sep FF w [r11 none 0 0 [], b7 g2120 g2122 a2130 a2131 a2132 a2133, b6 g2122 A2125 l2124.length n2127 a2129, r5 A2125 l2124.length n2127 l2124] w2197) := ⟨HS.out.nilrow 3 (Value.int .i64)⟩
    obtain ⟨o2199, AL2200, H⟩ := bind_some H
    go_loopg [7, 8] k (fun kq v7 v8 wc => ∃ (x2205 : Int) (x2206 : List Int) (A2207 : Option Addr) (m2208 : Nat) (n2209 : Nat), v7 = .slice A2207 m2208 n2209 ∧ v8 = .int .i64 x2205 ∧ Aside0 (chain_List.lo0 kq l2124 a2129 a2130 a2131 a2132 a2133 x2205 x2206 = some o2199) ∧ Aside0 (Sep FF w [r11 A2207 m2208 n2209 x2206, b7 g2120 g2122 a2130 a2131 a2132 a2133, b6 g2122 A2125 l2124.length n2127 a2129, r5 A2125 l2124.length n2127 l2124] wc))
    case atStart => exact ⟨(t2195), (([] : List Int)), (none), (0), (0), (by first | rfl | (simp [IntKind.wrap_u32]; done)), (by first | rfl | (simp [IntKind.wrap_u32]; done)), AL2200, ⟨HS.out⟩⟩
    case round =>
      clear AL2200 HS
      obtain ⟨x2205, x2206, A2207, m2208, n2209, rfl, rfl, AL2200, HS⟩ := hrel
      obtain ⟨w2201, rfl⟩ : ∃ x : World, x = wr := ⟨_, rfl⟩
      obtain rfl := (row_len (HS.out.at0)).symm
      cases gk with
      | zero => exact absurd AL2200.out (by simp [chain_List.lo0])
      | succ k2202 =>
        have AL0 := AL2200.out
        rw [chain_List.lo0] at AL0
        clear AL2200
        have AL2200 := Aside0.mk AL0
        clear AL0
        by_cases c2211 : x2205 > 0
        · have AL2200 := if_yes c2211 AL2200
          have c2211b0 : decide (0 < x2205) = true := decide_eq_true c2211
          clear c2211
          go_wp2_with fail
          replace HS : Aside0 (Sep FF w [r5 A2125 l2124.length n2127 l2124, r11 A2207 x2206.length n2209 x2206, b7 g2120 g2122 a2130 a2131 a2132 a2133, b6 g2122 A2125 l2124.length n2127 a2129] w2201) := ⟨HS.out.front 3 (by simp)⟩
          replace HS : Aside0 (Sep FF w [b6 g2122 A2125 l2124.length n2127 a2129, r5 A2125 l2124.length n2127 l2124, r11 A2207 x2206.length n2209 x2206, b7 g2120 g2122 a2130 a2131 a2132 a2133] w2201) := ⟨HS.out.front 3 (by simp)⟩
          replace HS : Aside0 (Sep FF w [b7 g2120 g2122 a2130 a2131 a2132 a2133, b6 g2122 A2125 l2124.length n2127 a2129, r5 A2125 l2124.length n2127 l2124, r11 A2207 x2206.length n2209 x2206] w2201) := ⟨HS.out.front 3 (by simp)⟩
          obtain ⟨t2212, HA2213, AL2200⟩ := bind_some AL2200
          refine (ground_Ground_Conf.calls l2124 a2129 a2130 a2131 a2132 a2133 g2120 g2122 A2125 l2124.length n2127 t2212 _ ⟨HS.out.begin (l := [b7 g2120 g2122 a2130 a2131 a2132 a2133, b6 g2122 A2125 l2124.length n2127 a2129, r5 A2125 l2124.length n2127 l2124]) (rest := [r11 A2207 x2206.length n2209 x2206])⟩ HA2213).mono ?_
          rintro e_ w2214 ⟨rfl, hS⟩
          replace HS : Aside0 (Sep FF w [b7 g2120 g2122 a2130 a2131 a2132 a2133, b6 g2122 A2125 l2124.length n2127 a2129, r5 A2125 l2124.length n2127 l2124, r11 A2207 x2206.length n2209 x2206] w2214) := ⟨HS.out.call (l := [b7 g2120 g2122 a2130 a2131 a2132 a2133, b6 g2122 A2125 l2124.length n2127 a2129, r5 A2125 l2124.length n2127 l2124]) (rest := [r11 A2207 x2206.length n2209 x2206]) hS⟩
          clear hS
          by_cases c2216 : (x2206.length : Int) < t2212.1
          · have AL2200 := if_yes c2216 AL2200
            have c2216b0 : decide ((x2206.length : Int) < t2212.1) = true := decide_eq_true c2216
            clear c2216
            by_cases c2220 : x2206.length < 17592186044416
            · have AL2200 := if_yes c2220 AL2200
              have c2220b0 : decide (x2206.length < 17592186044416) = true := decide_eq_true c2220
              clear c2220
              obtain ⟨y2224, HA2225, AL2200⟩ := bind_some AL2200
              have fl2215 : ∀ w, (Instr.field 49 (.agg #[.int .i64 t2212.1, .int .i64 t2212.2.1, .int .i64 t2212.2.2.1, .int .i64 t2212.2.2.2]) 0).run Try.prog w = .ok (.int .i64 t2212.1) w := fun _ => by kernel_rfl
              go_wp2_with (first | ((with_reducible refine gate_dst (N := 39) rfl ?_); refine slice_on (n := 1) ?hg (N := 39) ?hd (cs := #[.int .i64 (wrap64 (x2205 - 1))]) (t := 3) ?hr ?_; (case hd => rfl); (case hg => rfl); (case hr => first | (go_simp; done) | (go_simp; rfl)); intro g2217 hg w2218 hbox hb; clear fl2215; replace HS : Aside0 (Sep FF w [b7 g2120 g2122 a2130 a2131 a2132 a2133, b6 g2122 A2125 l2124.length n2127 a2129, r5 A2125 l2124.length n2127 l2124, r11 A2207 x2206.length n2209 x2206, b10 g2217 (wrap64 (x2205 - 1))] w2218) := ⟨HS.out.box hg hbox hb⟩; clear hg hbox hb) | ((with_reducible refine gate_dst (N := 40) rfl ?_); refine append_event (l1 := [b7 g2120 g2122 a2130 a2131 a2132 a2133, b6 g2122 A2125 l2124.length n2127 a2129, r5 A2125 l2124.length n2127 l2124]) (l2 := [b10 g2217 (wrap64 (x2205 - 1))]) rfl (.tmp 36) (.tmp 39) 78 3 (.int .i64 0) 8 rfl Try.underlying78 (by kernel_rfl) rfl (by decide) (Value.int .i64) (fun _ => rfl) (.slice A2207 x2206.length n2209) (x2206 : List Int) [wrap64 (x2205 - 1)] ⟨g2217, 0, none⟩ 1 rfl rfl (blk_news (xs := [wrap64 (x2205 - 1)]) (HS.out.at4)) HS.out (by have := of_decide_eq_true c2220b0; simp only [List.length_cons, List.length_nil]; omega) HA2225 ?_; intro A2221 n2222 w2223 HS1; replace HS : Aside0 (Sep FF w [b7 g2120 g2122 a2130 a2131 a2132 a2133, b6 g2122 A2125 l2124.length n2127 a2129, r5 A2125 l2124.length n2127 l2124, r11 A2221 y2224.length n2222 y2224, b10 g2217 (wrap64 (x2205 - 1))] w2223) := ⟨HS1⟩; clear HS1; replace HS : Aside0 (Sep FF w [b7 g2120 g2122 a2130 a2131 a2132 a2133, b6 g2122 A2125 l2124.length n2127 a2129, r5 A2125 l2124.length n2127 l2124, r11 A2221 y2224.length n2222 y2224] w2223) := ⟨HS.out.sub (.cons_cons _ (.cons_cons _ (.cons_cons _ (.cons_cons _ (.cons _ .slnil)))))⟩))
              obtain ⟨t2253, HA2254, AL2200⟩ := bind_some AL2200
              refine (ground_Ground_SeeWord.calls l2124 a2129 a2130 a2131 a2132 a2133 (wrap64 (x2205 - 1)) 5 g2120 g2122 A2125 l2124.length n2127 t2253 _ ⟨HS.out.begin (l := [b7 g2120 g2122 a2130 a2131 a2132 a2133, b6 g2122 A2125 l2124.length n2127 a2129, r5 A2125 l2124.length n2127 l2124]) (rest := [r11 A2221 y2224.length n2222 y2224])⟩ HA2254).mono ?_
              rintro e_ w2255 ⟨rfl, hS⟩
              replace HS : Aside0 (Sep FF w [b7 g2120 g2122 a2130 a2131 a2132 a2133, b6 g2122 A2125 l2124.length n2127 a2129, r5 A2125 l2124.length n2127 l2124, r11 A2221 y2224.length n2222 y2224] w2255) := ⟨HS.out.call (l := [b7 g2120 g2122 a2130 a2131 a2132 a2133, b6 g2122 A2125 l2124.length n2127 a2129, r5 A2125 l2124.length n2127 l2124]) (rest := [r11 A2221 y2224.length n2222 y2224]) hS⟩
              clear hS
              go_wp2_with fail
              go_roundg k2202
              case measure => exact Nat.lt_succ_self _
              case rel => exact ⟨(wrap64 (t2253)), (y2224), (A2221), (y2224.length), (n2222), (by first | rfl | (simp [IntKind.wrap_u32]; done)), (by first | rfl | (simp [IntKind.wrap_u32]; done)), Aside0.mk AL2200.out, ⟨(((((HS.out).front 2 (by simp)).front 2 (by simp)).front 2 (by simp)).front 3 (by simp)).keep (l := [r11 A2221 y2224.length n2222 y2224, b7 g2120 g2122 a2130 a2131 a2132 a2133, b6 g2122 A2125 l2124.length n2127 a2129, r5 A2125 l2124.length n2127 l2124]) (rest := [])⟩⟩
            · have AL2200 := if_no c2220 AL2200
              have c2220b0 : decide (x2206.length < 17592186044416) = false := decide_eq_false c2220
              clear c2220
              exact (none_no AL2200).elim
          · have AL2200 := if_no c2216 AL2200
            have c2216b0 : decide ((x2206.length : Int) < t2212.1) = false := decide_eq_false c2216
            clear c2216
            have ho := some_eq AL2200
            subst ho
            clear AL2200
            have fl2215 : ∀ w, (Instr.field 49 (.agg #[.int .i64 t2212.1, .int .i64 t2212.2.1, .int .i64 t2212.2.2.1, .int .i64 t2212.2.2.2]) 0).run Try.prog w = .ok (.int .i64 t2212.1) w := fun _ => by kernel_rfl
            go_wp2_with fail
            clear fl2215
            go_ret
            rw [← some_eq H]
            exact ⟨A2207, x2206.length, n2209, (by first | rfl | (simp [IntKind.wrap_u32]; done)), (((((HS.out).front 3 (by simp)).front 3 (by simp)).front 3 (by simp)).front 3 (by simp)).keep (l := [b7 g2120 g2122 a2130 a2131 a2132 a2133, b6 g2122 A2125 l2124.length n2127 a2129, r5 A2125 l2124.length n2127 l2124, r11 A2207 x2206.length n2209 x2206]) (rest := [])⟩
        · have AL2200 := if_no c2211 AL2200
          have c2211b0 : decide (0 < x2205) = false := decide_eq_false c2211
          clear c2211
          have ho := some_eq AL2200
          subst ho
          clear AL2200
          go_wp2_with fail
          go_ret
          rw [← some_eq H]
          exact ⟨A2207, x2206.length, n2209, (by first | rfl | (simp [IntKind.wrap_u32]; done)), ((((HS.out).front 3 (by simp)).front 3 (by simp)).front 3 (by simp)).keep (l := [b7 g2120 g2122 a2130 a2131 a2132 a2133, b6 g2122 A2125 l2124.length n2127 a2129, r5 A2125 l2124.length n2127 l2124, r11 A2207 x2206.length n2209 x2206]) (rest := [])⟩
  · have H := if_no c2148 H
    have c2148b0 : t2135.2.2.2 = false := by simpa using c2148
    have c2148b1 : (!t2135.2.2.2) = true := by rw [c2148b0]; rfl
    try rw [c2148b1]
    clear c2148
    go_wp2_with (first | ((with_reducible refine gate_dst (N := 5) rfl ?_); refine box_on ?hg (N := 5) ?hd (cs := #[.int .i64 0, .int .i64 0, .int .i64 0]) (t := 134) ?hr ?_; (case hd => rfl); (case hg => rfl); (case hr => first | (go_simp; done) | (go_simp; rfl)); intro g2138 hg w2139 hbox hb; replace HS : Aside0 (Sep FF w [b7 g2120 g2122 a2130 a2131 a2132 a2133, b6 g2122 A2125 l2124.length n2127 a2129, r5 A2125 l2124.length n2127 l2124, b8 g2138 0 0 0] w2139) := ⟨HS.out.box hg hbox hb⟩; clear hg hbox hb; have hc2141 : w2139.cell? ⟨g2138, 0, none⟩ = some (.int .i64 0) := blk_cellv (HS.out.at3) 0 rfl; have hz2142 : w2139.frozen? ⟨g2138, 0, none⟩ = false := blk_fz (HS.out.at3) 0; have hc2143 : w2139.cell? ⟨g2138, 1, none⟩ = some (.int .i64 0) := blk_cellv (HS.out.at3) 1 rfl; have hz2144 : w2139.frozen? ⟨g2138, 1, none⟩ = false := blk_fz (HS.out.at3) 1; have hc2145 : w2139.cell? ⟨g2138, 2, none⟩ = some (.int .i64 0) := blk_cellv (HS.out.at3) 2 rfl; have hz2146 : w2139.frozen? ⟨g2138, 2, none⟩ = false := blk_fz (HS.out.at3) 2) | ((with_reducible refine gate_store (t := 134) (p := 5) rfl ?_); refine store_event (w1 := (World.setCell (World.setCell (World.setCell w2139 ⟨g2138, 0, none⟩ (.int .i64 t2135.1)) ⟨g2138, 1, none⟩ (.int .i64 t2135.2.1)) ⟨g2138, 2, none⟩ (.int .i64 t2135.2.2.1))) rfl (t := 134) (p := 5) rfl rfl ?hr ?_; (case hr => first | (go_simp; done) | (go_simp; rfl)); intro w2147 hst; clear hc2141 hz2142 hc2143 hz2144 hc2145 hz2146; replace HS : Aside0 (Sep FF w [b7 g2120 g2122 a2130 a2131 a2132 a2133, b6 g2122 A2125 l2124.length n2127 a2129, r5 A2125 l2124.length n2127 l2124, b8 g2138 t2135.1 t2135.2.1 t2135.2.2.1] w2147) := ⟨by rw [hst]; exact HS.out.setAll (l1 := [b7 g2120 g2122 a2130 a2131 a2132 a2133, b6 g2122 A2125 l2124.length n2127 a2129, r5 A2125 l2124.length n2127 l2124]) (l2 := []) [.int .i64 t2135.1, .int .i64 t2135.2.1, .int .i64 t2135.2.2.1] rfl⟩; clear hst; replace HS : Aside0 (Sep FF w [b7 g2120 g2122 a2130 a2131 a2132 a2133, b6 g2122 A2125 l2124.length n2127 a2129, r5 A2125 l2124.length n2127 l2124] w2147) := ⟨HS.out.sub (.cons_cons _ (.cons_cons _ (.cons_cons _ (.cons _ .slnil))))⟩))
    replace HS : Aside0 (Sep FF w [r11 none 0 0 [], b7 g2120 g2122 a2130 a2131 a2132 a2133, b6 g2122 A2125 l2124.length n2127 a2129, r5 A2125 l2124.length n2127 l2124] w2147) := ⟨HS.out.nilrow 3 (Value.int .i64)⟩
    go_ret
    rw [← some_eq H]
    exact ⟨none, 0, 0, (by first | rfl | (simp [IntKind.wrap_u32]; done)), ((((HS.out).front 3 (by simp)).front 3 (by simp)).front 3 (by simp)).keep (l := [b7 g2120 g2122 a2130 a2131 a2132 a2133, b6 g2122 A2125 l2124.length n2127 a2129, r5 A2125 l2124.length n2127 l2124, r11 none 0 0 []]) (rest := [])⟩

set_option maxHeartbeats 30000000 in
set_option maxRecDepth 100000 in
theorem quitrentref01_Ints.calls (k : Nat) (l2278 : List Int) (l2282 : List Int) (A2279 : Option Addr) (n2280 : Nat) (A2283 : Option Addr) (n2284 : Nat) (r : Bool) (w : World) (HR2281 : Aside0 (Rd (Kd.int .i64) (fps []) w A2279 l2278.length l2278)) (HR2285 : Aside0 (Rd (Kd.int .i64) (fps []) w A2283 l2282.length l2282))  (HS : Aside0 (Sep (fps []) w [] w)) (H : Aside0 (quitrentref01_Ints.f k l2278 l2282 = some r)) :
    Calls Try.prog 68 #[.slice A2279 l2278.length n2280, .slice A2283 l2282.length n2284] w fun e w' => e = .returned (.bool r) ∧ Sep (fps []) w [] w' := by
  unfold quitrentref01_Ints.f at H
  go_enter Try.func68, Try.ntmps68
  by_cases c2286 : (l2278.length : Int) = (l2282.length : Int)
  · have H := if_yes c2286 H
    have c2286b0 : ((l2278.length : Int) == (l2282.length : Int)) = true := beq_iff_eq.mpr c2286
    have c2286b1 : ((l2278.length : Int) != (l2282.length : Int)) = false := bne_eq_false_iff_eq.mpr c2286
    clear c2286
    go_wp2_with fail
    obtain ⟨o2302, AL2303, H⟩ := bind_some H
    go_loopg [5] k (fun kq v5 wc => ∃ (x2306 : Int), v5 = .int .i64 x2306 ∧ Aside0 (quitrentref01_Ints.lo0 kq l2278 l2282 x2306 = some o2302) ∧ Aside0 (Sep (fps []) w [] wc))
    case atStart => exact ⟨(0), (by first | rfl | (simp [IntKind.wrap_u32]; done)), AL2303, ⟨HS.out⟩⟩
    case round =>
      clear AL2303 HS
      obtain ⟨x2306, rfl, AL2303, HS⟩ := hrel
      obtain ⟨w2304, rfl⟩ : ∃ x : World, x = wr := ⟨_, rfl⟩
      cases gk with
      | zero => exact absurd AL2303.out (by simp [quitrentref01_Ints.lo0])
      | succ k2305 =>
        have AL0 := AL2303.out
        rw [quitrentref01_Ints.lo0] at AL0
        clear AL2303
        have AL2303 := Aside0.mk AL0
        clear AL0
        by_cases c2307 : x2306 < (l2278.length : Int)
        · have AL2303 := if_yes c2307 AL2303
          have c2307b0 : decide (x2306 < (l2278.length : Int)) = true := decide_eq_true c2307
          clear c2307
          go_wp2_with fail
          refine start_ (n := 9) (S := (fun w' => Kd.C (Kd.int .i64) w' A2279 l2278.length l2278 ∧ Kd.C (Kd.int .i64) w' A2283 l2282.length l2282)) (ds := []) #[false, false, false, false, false, false, false, false, false] (by kernel_rfl) rfl rfl (⟨Rd.read (fun _ _ _ _ h => h) HR2281.out (HS.out.drew).fr, Rd.read (fun _ _ _ _ h => h) HR2285.out (HS.out.drew).fr⟩) (fun hHeld => ?_)
          have HS_ := Aside0.mk HS.out.drew
          clear HS
          generalize World.drew _ = w2309 at HS_ hHeld ⊢
          have HS := HS_
          clear HS_
          refine pure_ (i := 0) (N := some 17) (v := ?_) (a' := ?_) #[true, false, false, false, false, false, false, false, false] rfl rfl (by kernel_rfl) (fun _ _ _ h => h) (Or.inl ⟨by rfl, ?_⟩) ?_ ?_
          rotate_left
          · intro w'
            go_simp
            with_reducible rfl
          rotate_left
          · simp only [Act.put, List.setIfInBounds_toArray, List.set_cons_zero, List.set_cons_succ, i64_w, i32_w]
            rfl
          refine pure_ (i := 1) (N := some 18) (v := ?_) (a' := ?_) #[true, true, false, false, false, false, false, false, false] rfl rfl (by kernel_rfl) (fun _ _ _ h => h) (Or.inl ⟨by rfl, ?_⟩) ?_ ?_
          rotate_left
          · intro w'
            go_simp
            with_reducible rfl
          rotate_left
          · simp only [Act.put, List.setIfInBounds_toArray, List.set_cons_zero, List.set_cons_succ, i64_w, i32_w]
            rfl
          by_cases c2310 : 0 ≤ x2306
          · have AL2303 := if_yes c2310 AL2303
            have c2310b0 : decide (0 ≤ x2306) = true := decide_eq_true c2310
            have c2310p : (0 ≤ x2306) = True := eq_true c2310
            clear c2310
            have ip2311 : (x2306 < (l2278.length : Int)) = True := eq_true (of_decide_eq_true c2307b0)
            obtain ⟨ad2312, ea, _⟩ := Kd.at_int (Rd.read (fun _ _ _ _ h => h) HR2281.out HS.out.fr) x2306 (of_decide_eq_true c2310b0) (of_decide_eq_true c2307b0)
            cases ea
            refine pure_ (i := 2) (N := some 19) (v := ?_) (a' := ?_) #[true, true, true, false, false, false, false, false, false] rfl rfl (by kernel_rfl) (fun _ _ _ h => h) (Or.inl ⟨by rfl, ?_⟩) ?_ ?_
            rotate_left
            · intro w'
              go_simp
              with_reducible rfl
            rotate_left
            · simp only [Act.put, List.setIfInBounds_toArray, List.set_cons_zero, List.set_cons_succ, i64_w, i32_w]
              rfl
            refine pure_ (i := 4) (N := some 21) (v := ?_) (a' := ?_) #[true, true, true, false, true, false, false, false, false] rfl rfl (by kernel_rfl) (fun _ _ _ h => h) (Or.inl ⟨by rfl, ?_⟩) ?_ ?_
            rotate_left
            · intro w'
              go_simp
              with_reducible rfl
            rotate_left
            · simp only [Act.put, List.setIfInBounds_toArray, List.set_cons_zero, List.set_cons_succ, i64_w, i32_w]
              rfl
            refine pure_ (i := 5) (N := some 22) (v := ?_) (a' := ?_) #[true, true, true, false, true, true, false, false, false] rfl rfl (by kernel_rfl) (fun _ _ _ h => h) (Or.inl ⟨by rfl, ?_⟩) ?_ ?_
            rotate_left
            · intro w'
              go_simp
              with_reducible rfl
            rotate_left
            · simp only [Act.put, List.setIfInBounds_toArray, List.set_cons_zero, List.set_cons_succ, i64_w, i32_w]
              rfl
            by_cases c2313 : x2306 < (l2282.length : Int)
            · have AL2303 := if_yes c2313 AL2303
              have c2313b0 : decide (x2306 < (l2282.length : Int)) = true := decide_eq_true c2313
              have c2313p : (x2306 < (l2282.length : Int)) = True := eq_true c2313
              clear c2313
              obtain ⟨ad2314, ea, _⟩ := Kd.at_int (Rd.read (fun _ _ _ _ h => h) HR2285.out HS.out.fr) x2306 (of_decide_eq_true c2310b0) (of_decide_eq_true c2313b0)
              cases ea
              refine pure_ (i := 6) (N := some 23) (v := ?_) (a' := ?_) #[true, true, true, false, true, true, true, false, false] rfl rfl (by kernel_rfl) (fun _ _ _ h => h) (Or.inl ⟨by rfl, ?_⟩) ?_ ?_
              rotate_left
              · intro w'
                go_simp
                with_reducible rfl
              rotate_left
              · simp only [Act.put, List.setIfInBounds_toArray, List.set_cons_zero, List.set_cons_succ, i64_w, i32_w]
                rfl
              refine take_ (i := 3) (N := some 20) (v := ?_) (a' := ?_) #[true, true, true, true, true, true, true, false, false] rfl rfl (by kernel_rfl) (fun _ _ _ h => h) (Or.inl ⟨by rfl, ?_⟩) hHeld ?_ ?_
              rotate_left
              · rintro w' hS'
                obtain ⟨s0, s1⟩ := hS'
                have hx := C_at_int s0 x2306 (of_decide_eq_true c2310b0) (of_decide_eq_true c2307b0)
                go_simp
                with_reducible rfl
              rotate_left
              · simp only [Act.put, List.setIfInBounds_toArray, List.set_cons_zero, List.set_cons_succ, i64_w, i32_w]
                rfl
              refine take_ (i := 7) (N := some 24) (v := ?_) (a' := ?_) #[true, true, true, true, true, true, true, true, false] rfl rfl (by kernel_rfl) (fun _ _ _ h => h) (Or.inl ⟨by rfl, ?_⟩) hHeld ?_ ?_
              rotate_left
              · rintro w' hS'
                obtain ⟨s0, s1⟩ := hS'
                have hx := C_at_int s1 x2306 (of_decide_eq_true c2310b0) (of_decide_eq_true c2313b0)
                go_simp
                with_reducible rfl
              rotate_left
              · simp only [Act.put, List.setIfInBounds_toArray, List.set_cons_zero, List.set_cons_succ, i64_w, i32_w]
                rfl
              refine pure_ (i := 8) (N := some 25) (v := ?_) (a' := ?_) #[true, true, true, true, true, true, true, true, true] rfl rfl (by kernel_rfl) (fun _ _ _ h => h) (Or.inl ⟨by rfl, ?_⟩) ?_ ?_
              rotate_left
              · intro w'
                go_simp
                with_reducible rfl
              rotate_left
              · simp only [Act.put, List.setIfInBounds_toArray, List.set_cons_zero, List.set_cons_succ, i64_w, i32_w]
                rfl
              refine done_ (by kernel_rfl) ?_
              by_cases c2315 : (rd l2278 x2306) = (rd l2282 x2306)
              · have AL2303 := if_yes c2315 AL2303
                have c2315b0 : ((rd l2278 x2306) == (rd l2282 x2306)) = true := beq_iff_eq.mpr c2315
                have c2315b1 : ((rd l2278 x2306) != (rd l2282 x2306)) = false := bne_eq_false_iff_eq.mpr c2315
                clear c2315
                go_wp2_with fail
                go_roundg k2305
                case measure => exact Nat.lt_succ_self _
                case rel => exact ⟨(wrap64 (x2306 + 1)), (by first | rfl | (simp [IntKind.wrap_u32]; done)), Aside0.mk AL2303.out, ⟨(HS.out).keep (l := []) (rest := [])⟩⟩
              · have AL2303 := if_no c2315 AL2303
                have c2315b0 : ((rd l2278 x2306) == (rd l2282 x2306)) = false := beq_eq_false_iff_ne.mpr c2315
                have c2315b1 : ((rd l2278 x2306) != (rd l2282 x2306)) = true := bne_iff_ne.mpr c2315
                clear c2315
                go_wp2_with fail
                have ho := some_eq AL2303
                subst ho
                have H := lp_ret H
                go_ret
                rw [← some_eq H]
                exact ⟨(by first | rfl | (simp [IntKind.wrap_u32]; done)), (HS.out).keep (l := []) (rest := [])⟩
            · have AL2303 := if_no c2313 AL2303
              have c2313b0 : decide (x2306 < (l2282.length : Int)) = false := decide_eq_false c2313
              clear c2313
              exact (none_no AL2303).elim
          · have AL2303 := if_no c2310 AL2303
            have c2310b0 : decide (0 ≤ x2306) = false := decide_eq_false c2310
            clear c2310
            exact (none_no AL2303).elim
        · have AL2303 := if_no c2307 AL2303
          have c2307b0 : decide (x2306 < (l2278.length : Int)) = false := decide_eq_false c2307
          clear c2307
          have ho := some_eq AL2303
          subst ho
          clear AL2303
          have H := lp_out H
          go_wp2_with fail
          go_ret
          rw [← some_eq H]
          exact ⟨(by first | rfl | (simp [IntKind.wrap_u32]; done)), (HS.out).keep (l := []) (rest := [])⟩
  · have H := if_no c2286 H
    have c2286b0 : ((l2278.length : Int) == (l2282.length : Int)) = false := beq_eq_false_iff_ne.mpr c2286
    have c2286b1 : ((l2278.length : Int) != (l2282.length : Int)) = true := bne_iff_ne.mpr c2286
    clear c2286
    go_wp2_with fail
    go_ret
    rw [← some_eq H]
    exact ⟨(by first | rfl | (simp [IntKind.wrap_u32]; done)), (HS.out).keep (l := []) (rest := [])⟩
end Go.Proofs.Ytobeonkddamnoaa.C

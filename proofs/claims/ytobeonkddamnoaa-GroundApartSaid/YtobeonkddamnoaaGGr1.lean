/- Each function of the group Gr does what its plain function says, and changes nothing that was there; proved by walking its code. No condition. -/
import Derived.Test.YtobeonkddamnoaaQw
import Derived.Test.YtobeonkddamnoaaMGr
import Derived.Test.YtobeonkddamnoaaGGr0
namespace Go.Proofs.Ytobeonkddamnoaa.C
open Go.RowKit Go.Proofs.YtobeonkddamnoaaW.PrintWords Go.Proofs.YtobeonkddamnoaaW.PrintLast Go.Proofs.YtobeonkddamnoaaW.PrintMore Go.Proofs.Ytobeonkddamnoaa.Q Go.Proofs.Ytobeonkddamnoaa.M
set_option linter.unusedVariables false
set_option linter.unusedSimpArgs false
set_option maxHeartbeats 30000000 in
set_option maxRecDepth 100000 in
theorem ground_Ground_SetWord.calls (l1125 : List Int) (a1130 : Int) (a1131 : Int) (a1132 : Int) (a1133 : Int) (a1134 : Int) (a1135 : Int) (a1136 : Int) (a1137 : Int) (g1121 : Nat) (g1123 : Nat) (A1126 : Option Addr) (m1127 : Nat) (n1128 : Nat) (r : Bool × Int × List Int) (w : World)   (HS : Aside0 (Sep (fps [b7 g1121 g1123 a1131 a1132 a1133 a1134, b6 g1123 A1126 m1127 n1128 a1130, r2 A1126 m1127 n1128 l1125]) w [b7 g1121 g1123 a1131 a1132 a1133 a1134, b6 g1123 A1126 m1127 n1128 a1130, r2 A1126 m1127 n1128 l1125] w)) (H : Aside0 (ground_Ground_SetWord.f l1125 a1130 a1131 a1132 a1133 a1134 a1135 a1136 a1137 = some r)) :
    Calls Try.prog 46 #[.pointer (some ⟨g1121, 0, none⟩), .int .i64 a1135, .int .i64 a1136, .int .u32 a1137] w fun e w' => e = .returned (.bool r.1) ∧ Sep (fps [b7 g1121 g1123 a1131 a1132 a1133 a1134, b6 g1123 A1126 m1127 n1128 a1130, r2 A1126 m1127 n1128 l1125]) w [b7 g1121 g1123 a1131 a1132 a1133 a1134, b6 g1123 A1126 m1127 n1128 r.2.1, r2 A1126 m1127 n1128 r.2.2] w' := by
  generalize (fps [b7 g1121 g1123 a1131 a1132 a1133 a1134, b6 g1123 A1126 m1127 n1128 a1130, r2 A1126 m1127 n1128 l1125]) = FF at HS ⊢
  obtain rfl := (row_len (HS.out.at2)).symm
  unfold ground_Ground_SetWord.f at H
  go_enter Try.func46, Try.ntmps46
  go_wp2_with fail
  obtain ⟨t1317, HA1318, H⟩ := bind_some H
  refine (ground_Ground_all.calls l1125 a1130 a1131 a1132 a1133 a1134 g1121 g1123 A1126 l1125.length n1128 t1317 _ ⟨HS.out.begin (l := [b7 g1121 g1123 a1131 a1132 a1133 a1134, b6 g1123 A1126 l1125.length n1128 a1130, r2 A1126 l1125.length n1128 l1125]) (rest := [])⟩ HA1318).mono ?_
  rintro e_ w1319 ⟨rfl, hS⟩
  replace HS : Aside0 (Sep FF w [b7 g1121 g1123 a1131 a1132 a1133 a1134, b6 g1123 A1126 l1125.length n1128 a1130, r2 A1126 l1125.length n1128 l1125] w1319) := ⟨HS.out.call (l := [b7 g1121 g1123 a1131 a1132 a1133 a1134, b6 g1123 A1126 l1125.length n1128 a1130, r2 A1126 l1125.length n1128 l1125]) (rest := []) hS⟩
  clear hS
  go_wp2_with fail
  obtain ⟨t1320, HA1321, H⟩ := bind_some H
  refine (ground_Ground_word.calls l1125 a1130 a1131 a1132 a1133 a1134 a1135 a1136 g1121 g1123 A1126 l1125.length n1128 t1320 _ ⟨HS.out.begin (l := [b7 g1121 g1123 a1131 a1132 a1133 a1134, b6 g1123 A1126 l1125.length n1128 a1130, r2 A1126 l1125.length n1128 l1125]) (rest := [])⟩ HA1321).mono ?_
  rintro e_ w1322 ⟨rfl, hS⟩
  replace HS : Aside0 (Sep FF w [b7 g1121 g1123 a1131 a1132 a1133 a1134, b6 g1123 A1126 l1125.length n1128 a1130, r2 A1126 l1125.length n1128 l1125] w1322) := ⟨HS.out.call (l := [b7 g1121 g1123 a1131 a1132 a1133 a1134, b6 g1123 A1126 l1125.length n1128 a1130, r2 A1126 l1125.length n1128 l1125]) (rest := []) hS⟩
  clear hS
  go_wp2_with fail
  replace HS : Aside0 (Sep FF w [r2 A1126 l1125.length n1128 l1125, b7 g1121 g1123 a1131 a1132 a1133 a1134, b6 g1123 A1126 l1125.length n1128 a1130] w1322) := ⟨HS.out.front 2 (by simp)⟩
  replace HS : Aside0 (Sep FF w [b6 g1123 A1126 l1125.length n1128 a1130, r2 A1126 l1125.length n1128 l1125, b7 g1121 g1123 a1131 a1132 a1133 a1134] w1322) := ⟨HS.out.front 2 (by simp)⟩
  obtain ⟨t1323, HA1324, H⟩ := bind_some H
  refine (store_Store_Put.calls l1125 a1130 t1320 a1137 g1123 A1126 l1125.length n1128 t1323 _ ⟨HS.out.begin (l := [b6 g1123 A1126 l1125.length n1128 a1130, r2 A1126 l1125.length n1128 l1125]) (rest := [b7 g1121 g1123 a1131 a1132 a1133 a1134])⟩ HA1324).mono ?_
  rintro e_ w1325 ⟨rfl, hS⟩
  replace HS : Aside0 (Sep FF w [b6 g1123 A1126 l1125.length n1128 t1323.2.1, r2 A1126 l1125.length n1128 t1323.2.2, b7 g1121 g1123 a1131 a1132 a1133 a1134] w1325) := ⟨HS.out.call (l := [b6 g1123 A1126 l1125.length n1128 a1130, r2 A1126 l1125.length n1128 l1125]) (rest := [b7 g1121 g1123 a1131 a1132 a1133 a1134]) hS⟩
  clear hS
  go_wp2_with fail
  go_ret
  rw [← some_eq H]
  exact ⟨(by first | rfl | (simp [IntKind.wrap_u32]; done)), ((((HS.out).front 1 (by simp)).front 1 (by simp)).front 2 (by simp)).keep (l := [b7 g1121 g1123 a1131 a1132 a1133 a1134, b6 g1123 A1126 l1125.length n1128 t1323.2.1, r2 A1126 l1125.length n1128 t1323.2.2]) (rest := [])⟩

set_option maxHeartbeats 4000000 in
set_option maxRecDepth 100000 in
theorem slices_Clone_uint32_uint32.calls (l1358 : List Int) (A1359 : Option Addr) (n1360 : Nat) (r : List Int) (w : World) (HR1361 : Aside0 (Rd (Kd.int .u32) (fps []) w A1359 l1358.length l1358))  (HS : Aside0 (Sep (fps []) w [] w)) (H : Aside0 (slices_Clone_uint32_uint32.f l1358 = some r)) :
    Calls Try.prog 72 #[.slice A1359 l1358.length n1360] w fun e w' => ∃ (A1363 : Option Addr) (m1364 : Nat) (n1365 : Nat), e = .returned (.slice A1363 m1364 n1365) ∧ Sep (fps []) w [r2 A1363 m1364 n1365 r] w' := by
  unfold slices_Clone_uint32_uint32.f at H
  by_cases hl : l1358.length ≤ 35184372088832
  · have H := if_yes hl H
    have hr := some_eq H
    subst hr
    have qT : ∀ (w : World) (a : Option Addr) (n c n' c' : Nat), (binOp .eql 22 (.slice a n c) (.slice none n' c')).run Try.prog w = .ok (.bool a.isNone) w := fun w a n c n' c' => Lib.run_eql_slice_nil w _ _ a n c n' c' Try.underlying22
    have HC := Aside0.mk HR1361.out.c
    rcases A1359 with _ | ad
    · have h0 : l1358 = [] := by
        rcases Nat.eq_zero_or_pos l1358.length with h | h
        · exact List.eq_nil_of_length_eq_zero h
        · obtain ⟨ad, e, _⟩ := HC.out.2.2 h
          cases e
      subst h0
      clear HC HR1361 H hl
      go_enter Try.func72, Try.ntmps72
      go_wp2
      go_ret
      exact ⟨_, _, _, rfl, HS.out.nilrow 23 (Value.int .u32)⟩
    · clear HR1361 H
      go_enter Try.func72, Try.ntmps72
      go_wp2_with (first | ((with_reducible refine gate_dst (N := 5) rfl ?_); refine slice_on (n := 0) ?hg (N := 5) ?hd (cs := #[]) (t := 23) ?hr ?_; (case hd => rfl); (case hg => rfl); (case hr => first | (go_simp; done) | (go_simp; rfl)); intro g hg w1 hbox hb; have HS_ : Aside0 (Sep (fps []) w [blk g #[] 23] w1) := ⟨HS.out.box hg hbox hb⟩; have HB := Aside0.mk (Kd.C_below HC.out (HS.out.fr.below.trans hb)); clear HS hg hbox hb HC; have HS := HS_; clear HS_) | ((with_reducible refine gate_dst (N := 7) rfl ?_); refine append_event (l1 := []) (l2 := []) rfl (.tmp 5) (.tmp 6) 22 23 (.int .u32 0) 4 rfl Try.underlying22 (by kernel_rfl) rfl (by decide) (Value.int .u32) (fun _ => rfl) (.slice (some ⟨g, 0, none⟩) 0 0) ([] : List Int) l1358 ad n1360 rfl rfl (C_news HB.out) (Sep.litrow (l1 := []) (l2 := []) (enc := Value.int .u32) (xs := []) (n := 0) HS.out rfl (by decide)) (by simp; omega) ⟨rfl⟩ ?_; intro A1 c1 w2 HS1; have HS_ : Aside0 (Sep (fps []) w [row 23 (Value.int .u32) (.slice A1 l1358.length c1) l1358] w2) := ⟨HS1⟩; clear HS HS1; have HS := HS_; clear HS_))
      go_ret
      exact ⟨_, _, _, rfl, HS.out⟩
  · exact (none_no (if_no hl H)).elim

set_option maxHeartbeats 30000000 in
set_option maxRecDepth 100000 in
theorem store_Store_Words.calls (l1351 : List Int) (a1356 : Int) (g1349 : Nat) (A1352 : Option Addr) (m1353 : Nat) (n1354 : Nat) (r : List Int) (w : World)   (HS : Aside0 (Sep (fps [b6 g1349 A1352 m1353 n1354 a1356, r2 A1352 m1353 n1354 l1351]) w [b6 g1349 A1352 m1353 n1354 a1356, r2 A1352 m1353 n1354 l1351] w)) (H : Aside0 (store_Store_Words.f l1351 a1356 = some r)) :
    Calls Try.prog 24 #[.pointer (some ⟨g1349, 0, none⟩)] w fun e w' => ∃ (A1381 : Option Addr) (m1382 : Nat) (n1383 : Nat), e = .returned (.slice A1381 m1382 n1383) ∧ Sep (fps [b6 g1349 A1352 m1353 n1354 a1356, r2 A1352 m1353 n1354 l1351]) w [b6 g1349 A1352 m1353 n1354 a1356, r2 A1352 m1353 n1354 l1351, r2 A1381 m1382 n1383 r] w' := by
  generalize (fps [b6 g1349 A1352 m1353 n1354 a1356, r2 A1352 m1353 n1354 l1351]) = FF at HS ⊢
  obtain rfl := (row_len (HS.out.at1)).symm
  unfold store_Store_Words.f at H
  go_enter Try.func24, Try.ntmps24
  have hc1357 : w.cell? ⟨g1349, 0, none⟩ = some (.slice A1352 l1351.length n1354) := blk_cellv (HS.out.at0) 0 rfl
  go_wp2_with fail
  clear hc1357
  obtain ⟨t1367, HA1368, H⟩ := bind_some H
  refine (slices_Clone_uint32_uint32.calls l1351 A1352 n1354 t1367 _ ⟨Rd.ownI (l := []) (rest := [b6 g1349 A1352 l1351.length n1354 a1356, r2 A1352 l1351.length n1354 l1351]) HS.out 1 rfl⟩ ⟨HS.out.begin (l := []) (rest := [b6 g1349 A1352 l1351.length n1354 a1356, r2 A1352 l1351.length n1354 l1351])⟩ HA1368).mono ?_
  rintro e_ w1369 ⟨A1371, m1372, n1373, rfl, hS⟩
  replace HS : Aside0 (Sep FF w [r2 A1371 m1372 n1373 t1367, b6 g1349 A1352 l1351.length n1354 a1356, r2 A1352 l1351.length n1354 l1351] w1369) := ⟨HS.out.call (l := []) (rest := [b6 g1349 A1352 l1351.length n1354 a1356, r2 A1352 l1351.length n1354 l1351]) hS⟩
  clear hS
  obtain rfl := (row_len (HS.out.at0)).symm
  go_wp2_with fail
  go_ret
  rw [← some_eq H]
  exact ⟨A1371, t1367.length, n1373, (by first | rfl | (simp [IntKind.wrap_u32]; done)), (((HS.out).front 2 (by simp)).front 2 (by simp)).keep (l := [b6 g1349 A1352 l1351.length n1354 a1356, r2 A1352 l1351.length n1354 l1351, r2 A1371 t1367.length n1373 t1367]) (rest := [])⟩

set_option maxHeartbeats 30000000 in
set_option maxRecDepth 100000 in
theorem ground_Ground_Words.calls (l1335 : List Int) (a1340 : Int) (a1341 : Int) (a1342 : Int) (a1343 : Int) (a1344 : Int) (g1331 : Nat) (g1333 : Nat) (A1336 : Option Addr) (m1337 : Nat) (n1338 : Nat) (r : List Int) (w : World)   (HS : Aside0 (Sep (fps [b7 g1331 g1333 a1341 a1342 a1343 a1344, b6 g1333 A1336 m1337 n1338 a1340, r2 A1336 m1337 n1338 l1335]) w [b7 g1331 g1333 a1341 a1342 a1343 a1344, b6 g1333 A1336 m1337 n1338 a1340, r2 A1336 m1337 n1338 l1335] w)) (H : Aside0 (ground_Ground_Words.f l1335 a1340 a1341 a1342 a1343 a1344 = some r)) :
    Calls Try.prog 33 #[.pointer (some ⟨g1331, 0, none⟩)] w fun e w' => ∃ (A1399 : Option Addr) (m1400 : Nat) (n1401 : Nat), e = .returned (.slice A1399 m1400 n1401) ∧ Sep (fps [b7 g1331 g1333 a1341 a1342 a1343 a1344, b6 g1333 A1336 m1337 n1338 a1340, r2 A1336 m1337 n1338 l1335]) w [b7 g1331 g1333 a1341 a1342 a1343 a1344, b6 g1333 A1336 m1337 n1338 a1340, r2 A1336 m1337 n1338 l1335, r2 A1399 m1400 n1401 r] w' := by
  generalize (fps [b7 g1331 g1333 a1341 a1342 a1343 a1344, b6 g1333 A1336 m1337 n1338 a1340, r2 A1336 m1337 n1338 l1335]) = FF at HS ⊢
  obtain rfl := (row_len (HS.out.at2)).symm
  unfold ground_Ground_Words.f at H
  go_enter Try.func33, Try.ntmps33
  go_wp2_with fail
  obtain ⟨t1345, HA1346, H⟩ := bind_some H
  refine (ground_Ground_all.calls l1335 a1340 a1341 a1342 a1343 a1344 g1331 g1333 A1336 l1335.length n1338 t1345 _ ⟨HS.out.begin (l := [b7 g1331 g1333 a1341 a1342 a1343 a1344, b6 g1333 A1336 l1335.length n1338 a1340, r2 A1336 l1335.length n1338 l1335]) (rest := [])⟩ HA1346).mono ?_
  rintro e_ w1347 ⟨rfl, hS⟩
  replace HS : Aside0 (Sep FF w [b7 g1331 g1333 a1341 a1342 a1343 a1344, b6 g1333 A1336 l1335.length n1338 a1340, r2 A1336 l1335.length n1338 l1335] w1347) := ⟨HS.out.call (l := [b7 g1331 g1333 a1341 a1342 a1343 a1344, b6 g1333 A1336 l1335.length n1338 a1340, r2 A1336 l1335.length n1338 l1335]) (rest := []) hS⟩
  clear hS
  go_wp2_with fail
  replace HS : Aside0 (Sep FF w [r2 A1336 l1335.length n1338 l1335, b7 g1331 g1333 a1341 a1342 a1343 a1344, b6 g1333 A1336 l1335.length n1338 a1340] w1347) := ⟨HS.out.front 2 (by simp)⟩
  replace HS : Aside0 (Sep FF w [b6 g1333 A1336 l1335.length n1338 a1340, r2 A1336 l1335.length n1338 l1335, b7 g1331 g1333 a1341 a1342 a1343 a1344] w1347) := ⟨HS.out.front 2 (by simp)⟩
  obtain ⟨t1385, HA1386, H⟩ := bind_some H
  refine (store_Store_Words.calls l1335 a1340 g1333 A1336 l1335.length n1338 t1385 _ ⟨HS.out.begin (l := [b6 g1333 A1336 l1335.length n1338 a1340, r2 A1336 l1335.length n1338 l1335]) (rest := [b7 g1331 g1333 a1341 a1342 a1343 a1344])⟩ HA1386).mono ?_
  rintro e_ w1387 ⟨A1389, m1390, n1391, rfl, hS⟩
  replace HS : Aside0 (Sep FF w [b6 g1333 A1336 l1335.length n1338 a1340, r2 A1336 l1335.length n1338 l1335, r2 A1389 m1390 n1391 t1385, b7 g1331 g1333 a1341 a1342 a1343 a1344] w1387) := ⟨HS.out.call (l := [b6 g1333 A1336 l1335.length n1338 a1340, r2 A1336 l1335.length n1338 l1335]) (rest := [b7 g1331 g1333 a1341 a1342 a1343 a1344]) hS⟩
  clear hS
  obtain rfl := (row_len (HS.out.at2)).symm
  go_wp2_with fail
  go_ret
  rw [← some_eq H]
  exact ⟨A1389, t1385.length, n1391, (by first | rfl | (simp [IntKind.wrap_u32]; done)), (((((HS.out).front 2 (by simp)).front 2 (by simp)).front 2 (by simp)).front 3 (by simp)).keep (l := [b7 g1331 g1333 a1341 a1342 a1343 a1344, b6 g1333 A1336 l1335.length n1338 a1340, r2 A1336 l1335.length n1338 l1335, r2 A1389 t1385.length n1391 t1385]) (rest := [])⟩

set_option maxHeartbeats 30000000 in
set_option maxRecDepth 100000 in
theorem atomic_Uint64_Load.calls (l1447 : List Int) (a1452 : Int) (g1445 : Nat) (A1448 : Option Addr) (m1449 : Nat) (n1450 : Nat) (r : Int) (w : World)   (HS : Aside0 (Sep (fps [b6 g1445 A1448 m1449 n1450 a1452, r2 A1448 m1449 n1450 l1447]) w [b6 g1445 A1448 m1449 n1450 a1452, r2 A1448 m1449 n1450 l1447] w)) (H : Aside0 (atomic_Uint64_Load.f l1447 a1452 = some r)) :
    Calls Try.prog 70 #[.pointer (some ⟨g1445, 1, none⟩)] w fun e w' => e = .returned (.int .u64 r) ∧ Sep (fps [b6 g1445 A1448 m1449 n1450 a1452, r2 A1448 m1449 n1450 l1447]) w [b6 g1445 A1448 m1449 n1450 a1452, r2 A1448 m1449 n1450 l1447] w' := by
  generalize (fps [b6 g1445 A1448 m1449 n1450 a1452, r2 A1448 m1449 n1450 l1447]) = FF at HS ⊢
  obtain rfl := (row_len (HS.out.at1)).symm
  unfold atomic_Uint64_Load.f at H
  go_enter Try.func70, Try.ntmps70
  have hc1453 : w.cell? ⟨g1445, 1, none⟩ = some (.int .u64 a1452) := blk_cellv (HS.out.at0) 1 rfl
  have hn1454 : (callFunc 103 #[.pointer (some ⟨g1445, 1, none⟩)]).run Try.prog w = .ok (.value (.int .u64 a1452)) w := run_call_load Try.func103 (by kernel_rfl) (by kernel_rfl) (by kernel_rfl) .u64 (by kernel_rfl) hc1453
  go_wp2_with (first | ((with_reducible refine gate_dst (N := 6) rfl ?_); refine run_on2 (by rfl) (w1 := w) (v := .int .u64 a1452) ?hr ?_; (case hr => first | (go_simp; done) | (go_simp; rfl)); intro w1455 hst; clear hc1453; replace HS : Aside0 (Sep FF w [b6 g1445 A1448 l1447.length n1450 a1452, r2 A1448 l1447.length n1450 l1447] w1455) := ⟨by rw [hst]; exact HS.out⟩; clear hst hn1454))
  go_ret
  rw [← some_eq H]
  exact ⟨(by first | rfl | (simp [IntKind.wrap_u32]; done)), (((HS.out).front 1 (by simp)).front 1 (by simp)).keep (l := [b6 g1445 A1448 l1447.length n1450 a1452, r2 A1448 l1447.length n1450 l1447]) (rest := [])⟩

set_option maxHeartbeats 30000000 in
set_option maxRecDepth 100000 in
theorem store_Store_Meter.calls (l1438 : List Int) (a1443 : Int) (g1436 : Nat) (A1439 : Option Addr) (m1440 : Nat) (n1441 : Nat) (r : Int) (w : World)   (HS : Aside0 (Sep (fps [b6 g1436 A1439 m1440 n1441 a1443, r2 A1439 m1440 n1441 l1438]) w [b6 g1436 A1439 m1440 n1441 a1443, r2 A1439 m1440 n1441 l1438] w)) (H : Aside0 (store_Store_Meter.f l1438 a1443 = some r)) :
    Calls Try.prog 21 #[.pointer (some ⟨g1436, 0, none⟩)] w fun e w' => e = .returned (.int .u64 r) ∧ Sep (fps [b6 g1436 A1439 m1440 n1441 a1443, r2 A1439 m1440 n1441 l1438]) w [b6 g1436 A1439 m1440 n1441 a1443, r2 A1439 m1440 n1441 l1438] w' := by
  generalize (fps [b6 g1436 A1439 m1440 n1441 a1443, r2 A1439 m1440 n1441 l1438]) = FF at HS ⊢
  obtain rfl := (row_len (HS.out.at1)).symm
  unfold store_Store_Meter.f at H
  go_enter Try.func21, Try.ntmps21
  go_wp2_with fail
  obtain ⟨t1456, HA1457, H⟩ := bind_some H
  refine (atomic_Uint64_Load.calls l1438 a1443 g1436 A1439 l1438.length n1441 t1456 _ ⟨HS.out.begin (l := [b6 g1436 A1439 l1438.length n1441 a1443, r2 A1439 l1438.length n1441 l1438]) (rest := [])⟩ HA1457).mono ?_
  rintro e_ w1458 ⟨rfl, hS⟩
  replace HS : Aside0 (Sep FF w [b6 g1436 A1439 l1438.length n1441 a1443, r2 A1439 l1438.length n1441 l1438] w1458) := ⟨HS.out.call (l := [b6 g1436 A1439 l1438.length n1441 a1443, r2 A1439 l1438.length n1441 l1438]) (rest := []) hS⟩
  clear hS
  go_wp2_with fail
  go_ret
  rw [← some_eq H]
  exact ⟨(by first | rfl | (simp [IntKind.wrap_u32]; done)), (((HS.out).front 1 (by simp)).front 1 (by simp)).keep (l := [b6 g1436 A1439 l1438.length n1441 a1443, r2 A1439 l1438.length n1441 l1438]) (rest := [])⟩

set_option maxHeartbeats 30000000 in
set_option maxRecDepth 100000 in
theorem ground_Ground_Meter.calls (l1422 : List Int) (a1427 : Int) (a1428 : Int) (a1429 : Int) (a1430 : Int) (a1431 : Int) (g1418 : Nat) (g1420 : Nat) (A1423 : Option Addr) (m1424 : Nat) (n1425 : Nat) (r : Int) (w : World)   (HS : Aside0 (Sep (fps [b7 g1418 g1420 a1428 a1429 a1430 a1431, b6 g1420 A1423 m1424 n1425 a1427, r2 A1423 m1424 n1425 l1422]) w [b7 g1418 g1420 a1428 a1429 a1430 a1431, b6 g1420 A1423 m1424 n1425 a1427, r2 A1423 m1424 n1425 l1422] w)) (H : Aside0 (ground_Ground_Meter.f l1422 a1427 a1428 a1429 a1430 a1431 = some r)) :
    Calls Try.prog 35 #[.pointer (some ⟨g1418, 0, none⟩)] w fun e w' => e = .returned (.int .u64 r) ∧ Sep (fps [b7 g1418 g1420 a1428 a1429 a1430 a1431, b6 g1420 A1423 m1424 n1425 a1427, r2 A1423 m1424 n1425 l1422]) w [b7 g1418 g1420 a1428 a1429 a1430 a1431, b6 g1420 A1423 m1424 n1425 a1427, r2 A1423 m1424 n1425 l1422] w' := by
  generalize (fps [b7 g1418 g1420 a1428 a1429 a1430 a1431, b6 g1420 A1423 m1424 n1425 a1427, r2 A1423 m1424 n1425 l1422]) = FF at HS ⊢
  obtain rfl := (row_len (HS.out.at2)).symm
  unfold ground_Ground_Meter.f at H
  go_enter Try.func35, Try.ntmps35
  go_wp2_with fail
  obtain ⟨t1432, HA1433, H⟩ := bind_some H
  refine (ground_Ground_all.calls l1422 a1427 a1428 a1429 a1430 a1431 g1418 g1420 A1423 l1422.length n1425 t1432 _ ⟨HS.out.begin (l := [b7 g1418 g1420 a1428 a1429 a1430 a1431, b6 g1420 A1423 l1422.length n1425 a1427, r2 A1423 l1422.length n1425 l1422]) (rest := [])⟩ HA1433).mono ?_
  rintro e_ w1434 ⟨rfl, hS⟩
  replace HS : Aside0 (Sep FF w [b7 g1418 g1420 a1428 a1429 a1430 a1431, b6 g1420 A1423 l1422.length n1425 a1427, r2 A1423 l1422.length n1425 l1422] w1434) := ⟨HS.out.call (l := [b7 g1418 g1420 a1428 a1429 a1430 a1431, b6 g1420 A1423 l1422.length n1425 a1427, r2 A1423 l1422.length n1425 l1422]) (rest := []) hS⟩
  clear hS
  go_wp2_with fail
  replace HS : Aside0 (Sep FF w [r2 A1423 l1422.length n1425 l1422, b7 g1418 g1420 a1428 a1429 a1430 a1431, b6 g1420 A1423 l1422.length n1425 a1427] w1434) := ⟨HS.out.front 2 (by simp)⟩
  replace HS : Aside0 (Sep FF w [b6 g1420 A1423 l1422.length n1425 a1427, r2 A1423 l1422.length n1425 l1422, b7 g1418 g1420 a1428 a1429 a1430 a1431] w1434) := ⟨HS.out.front 2 (by simp)⟩
  obtain ⟨t1459, HA1460, H⟩ := bind_some H
  refine (store_Store_Meter.calls l1422 a1427 g1420 A1423 l1422.length n1425 t1459 _ ⟨HS.out.begin (l := [b6 g1420 A1423 l1422.length n1425 a1427, r2 A1423 l1422.length n1425 l1422]) (rest := [b7 g1418 g1420 a1428 a1429 a1430 a1431])⟩ HA1460).mono ?_
  rintro e_ w1461 ⟨rfl, hS⟩
  replace HS : Aside0 (Sep FF w [b6 g1420 A1423 l1422.length n1425 a1427, r2 A1423 l1422.length n1425 l1422, b7 g1418 g1420 a1428 a1429 a1430 a1431] w1461) := ⟨HS.out.call (l := [b6 g1420 A1423 l1422.length n1425 a1427, r2 A1423 l1422.length n1425 l1422]) (rest := [b7 g1418 g1420 a1428 a1429 a1430 a1431]) hS⟩
  clear hS
  go_wp2_with fail
  go_ret
  rw [← some_eq H]
  exact ⟨(by first | rfl | (simp [IntKind.wrap_u32]; done)), ((((HS.out).front 1 (by simp)).front 1 (by simp)).front 2 (by simp)).keep (l := [b7 g1418 g1420 a1428 a1429 a1430 a1431, b6 g1420 A1423 l1422.length n1425 a1427, r2 A1423 l1422.length n1425 l1422]) (rest := [])⟩

set_option maxHeartbeats 30000000 in
set_option maxRecDepth 100000 in
theorem store_Store_Peek.calls (l1492 : List Int) (a1497 : Int) (a1498 : Int) (g1490 : Nat) (A1493 : Option Addr) (m1494 : Nat) (n1495 : Nat) (r : Int) (w : World)   (HS : Aside0 (Sep (fps [b6 g1490 A1493 m1494 n1495 a1497, r2 A1493 m1494 n1495 l1492]) w [b6 g1490 A1493 m1494 n1495 a1497, r2 A1493 m1494 n1495 l1492] w)) (H : Aside0 (store_Store_Peek.f l1492 a1497 a1498 = some r)) :
    Calls Try.prog 20 #[.pointer (some ⟨g1490, 0, none⟩), .int .i64 a1498] w fun e w' => e = .returned (.int .u32 r) ∧ Sep (fps [b6 g1490 A1493 m1494 n1495 a1497, r2 A1493 m1494 n1495 l1492]) w [b6 g1490 A1493 m1494 n1495 a1497, r2 A1493 m1494 n1495 l1492] w' := by
  generalize (fps [b6 g1490 A1493 m1494 n1495 a1497, r2 A1493 m1494 n1495 l1492]) = FF at HS ⊢
  obtain rfl := (row_len (HS.out.at1)).symm
  unfold store_Store_Peek.f at H
  go_enter Try.func20, Try.ntmps20
  go_wp2_with fail
  obtain ⟨t1499, HA1500, H⟩ := bind_some H
  refine (store_Store_has.calls l1492 a1497 a1498 g1490 A1493 l1492.length n1495 t1499 _ ⟨HS.out.begin (l := [b6 g1490 A1493 l1492.length n1495 a1497, r2 A1493 l1492.length n1495 l1492]) (rest := [])⟩ HA1500).mono ?_
  rintro e_ w1501 ⟨rfl, hS⟩
  replace HS : Aside0 (Sep FF w [b6 g1490 A1493 l1492.length n1495 a1497, r2 A1493 l1492.length n1495 l1492] w1501) := ⟨HS.out.call (l := [b6 g1490 A1493 l1492.length n1495 a1497, r2 A1493 l1492.length n1495 l1492]) (rest := []) hS⟩
  clear hS
  by_cases c1502 : t1499 = true
  · have H := if_yes c1502 H
    have c1502b0 : t1499 = true := c1502
    have c1502b1 : (!t1499) = false := by rw [c1502b0]; rfl
    try rw [c1502b1]
    clear c1502
    by_cases c1504 : 0 ≤ a1498
    · have H := if_yes c1504 H
      have c1504b0 : decide (0 ≤ a1498) = true := decide_eq_true c1504
      have c1504p : (0 ≤ a1498) = True := eq_true c1504
      clear c1504
      by_cases c1505 : a1498 < (l1492.length : Int)
      · have H := if_yes c1505 H
        have c1505b0 : decide (a1498 < (l1492.length : Int)) = true := decide_eq_true c1505
        have c1505p : (a1498 < (l1492.length : Int)) = True := eq_true c1505
        clear c1505
        have hc1503 : w1501.cell? ⟨g1490, 0, none⟩ = some (.slice A1493 l1492.length n1495) := blk_cellv (HS.out.at0) 0 rfl
        obtain ⟨g1506, ea⟩ := row_at (HS.out.at1) (by have := (of_decide_eq_true c1504b0); have := (of_decide_eq_true c1505b0); omega); cases ea
        have hx1507 := C_at_int (row_Ci (HS.out.at1)) a1498 (of_decide_eq_true c1504b0) (of_decide_eq_true c1505b0)
        have hx1508 : w1501.cell? ⟨g1506, (a1498).toNat, none⟩ = some (.int .u32 (rd l1492 a1498)) := (row_get 0 (HS.out.at1) a1498 (of_decide_eq_true c1504b0) (of_decide_eq_true c1505b0)).1
        go_wp2_with fail
        clear hc1503 hx1507 hx1508
        go_ret
        rw [← some_eq H]
        exact ⟨(by first | rfl | (simp [IntKind.wrap_u32]; done)), (((HS.out).front 1 (by simp)).front 1 (by simp)).keep (l := [b6 g1490 (some ⟨g1506, 0, none⟩) l1492.length n1495 a1497, r2 (some ⟨g1506, 0, none⟩) l1492.length n1495 l1492]) (rest := [])⟩
      · have H := if_no c1505 H
        have c1505b0 : decide (a1498 < (l1492.length : Int)) = false := decide_eq_false c1505
        clear c1505
        exact (none_no H).elim
    · have H := if_no c1504 H
      have c1504b0 : decide (0 ≤ a1498) = false := decide_eq_false c1504
      clear c1504
      exact (none_no H).elim
  · have H := if_no c1502 H
    have c1502b0 : t1499 = false := by simpa using c1502
    have c1502b1 : (!t1499) = true := by rw [c1502b0]; rfl
    try rw [c1502b1]
    clear c1502
    go_wp2_with fail
    go_ret
    rw [← some_eq H]
    exact ⟨(by first | rfl | (simp [IntKind.wrap_u32]; done)), (((HS.out).front 1 (by simp)).front 1 (by simp)).keep (l := [b6 g1490 A1493 l1492.length n1495 a1497, r2 A1493 l1492.length n1495 l1492]) (rest := [])⟩

set_option maxHeartbeats 30000000 in
set_option maxRecDepth 100000 in
theorem ground_Ground_SeeWord.calls (l1471 : List Int) (a1476 : Int) (a1477 : Int) (a1478 : Int) (a1479 : Int) (a1480 : Int) (a1481 : Int) (a1482 : Int) (g1467 : Nat) (g1469 : Nat) (A1472 : Option Addr) (m1473 : Nat) (n1474 : Nat) (r : Int) (w : World)   (HS : Aside0 (Sep (fps [b7 g1467 g1469 a1477 a1478 a1479 a1480, b6 g1469 A1472 m1473 n1474 a1476, r2 A1472 m1473 n1474 l1471]) w [b7 g1467 g1469 a1477 a1478 a1479 a1480, b6 g1469 A1472 m1473 n1474 a1476, r2 A1472 m1473 n1474 l1471] w)) (H : Aside0 (ground_Ground_SeeWord.f l1471 a1476 a1477 a1478 a1479 a1480 a1481 a1482 = some r)) :
    Calls Try.prog 50 #[.pointer (some ⟨g1467, 0, none⟩), .int .i64 a1481, .int .i64 a1482] w fun e w' => e = .returned (.int .u32 r) ∧ Sep (fps [b7 g1467 g1469 a1477 a1478 a1479 a1480, b6 g1469 A1472 m1473 n1474 a1476, r2 A1472 m1473 n1474 l1471]) w [b7 g1467 g1469 a1477 a1478 a1479 a1480, b6 g1469 A1472 m1473 n1474 a1476, r2 A1472 m1473 n1474 l1471] w' := by
  generalize (fps [b7 g1467 g1469 a1477 a1478 a1479 a1480, b6 g1469 A1472 m1473 n1474 a1476, r2 A1472 m1473 n1474 l1471]) = FF at HS ⊢
  obtain rfl := (row_len (HS.out.at2)).symm
  unfold ground_Ground_SeeWord.f at H
  go_enter Try.func50, Try.ntmps50
  go_wp2_with fail
  obtain ⟨t1483, HA1484, H⟩ := bind_some H
  refine (ground_Ground_all.calls l1471 a1476 a1477 a1478 a1479 a1480 g1467 g1469 A1472 l1471.length n1474 t1483 _ ⟨HS.out.begin (l := [b7 g1467 g1469 a1477 a1478 a1479 a1480, b6 g1469 A1472 l1471.length n1474 a1476, r2 A1472 l1471.length n1474 l1471]) (rest := [])⟩ HA1484).mono ?_
  rintro e_ w1485 ⟨rfl, hS⟩
  replace HS : Aside0 (Sep FF w [b7 g1467 g1469 a1477 a1478 a1479 a1480, b6 g1469 A1472 l1471.length n1474 a1476, r2 A1472 l1471.length n1474 l1471] w1485) := ⟨HS.out.call (l := [b7 g1467 g1469 a1477 a1478 a1479 a1480, b6 g1469 A1472 l1471.length n1474 a1476, r2 A1472 l1471.length n1474 l1471]) (rest := []) hS⟩
  clear hS
  go_wp2_with fail
  obtain ⟨t1486, HA1487, H⟩ := bind_some H
  refine (ground_Ground_word.calls l1471 a1476 a1477 a1478 a1479 a1480 a1481 a1482 g1467 g1469 A1472 l1471.length n1474 t1486 _ ⟨HS.out.begin (l := [b7 g1467 g1469 a1477 a1478 a1479 a1480, b6 g1469 A1472 l1471.length n1474 a1476, r2 A1472 l1471.length n1474 l1471]) (rest := [])⟩ HA1487).mono ?_
  rintro e_ w1488 ⟨rfl, hS⟩
  replace HS : Aside0 (Sep FF w [b7 g1467 g1469 a1477 a1478 a1479 a1480, b6 g1469 A1472 l1471.length n1474 a1476, r2 A1472 l1471.length n1474 l1471] w1488) := ⟨HS.out.call (l := [b7 g1467 g1469 a1477 a1478 a1479 a1480, b6 g1469 A1472 l1471.length n1474 a1476, r2 A1472 l1471.length n1474 l1471]) (rest := []) hS⟩
  clear hS
  go_wp2_with fail
  replace HS : Aside0 (Sep FF w [r2 A1472 l1471.length n1474 l1471, b7 g1467 g1469 a1477 a1478 a1479 a1480, b6 g1469 A1472 l1471.length n1474 a1476] w1488) := ⟨HS.out.front 2 (by simp)⟩
  replace HS : Aside0 (Sep FF w [b6 g1469 A1472 l1471.length n1474 a1476, r2 A1472 l1471.length n1474 l1471, b7 g1467 g1469 a1477 a1478 a1479 a1480] w1488) := ⟨HS.out.front 2 (by simp)⟩
  obtain ⟨t1509, HA1510, H⟩ := bind_some H
  refine (store_Store_Peek.calls l1471 a1476 t1486 g1469 A1472 l1471.length n1474 t1509 _ ⟨HS.out.begin (l := [b6 g1469 A1472 l1471.length n1474 a1476, r2 A1472 l1471.length n1474 l1471]) (rest := [b7 g1467 g1469 a1477 a1478 a1479 a1480])⟩ HA1510).mono ?_
  rintro e_ w1511 ⟨rfl, hS⟩
  replace HS : Aside0 (Sep FF w [b6 g1469 A1472 l1471.length n1474 a1476, r2 A1472 l1471.length n1474 l1471, b7 g1467 g1469 a1477 a1478 a1479 a1480] w1511) := ⟨HS.out.call (l := [b6 g1469 A1472 l1471.length n1474 a1476, r2 A1472 l1471.length n1474 l1471]) (rest := [b7 g1467 g1469 a1477 a1478 a1479 a1480]) hS⟩
  clear hS
  go_wp2_with fail
  go_ret
  rw [← some_eq H]
  exact ⟨(by first | rfl | (simp [IntKind.wrap_u32]; done)), ((((HS.out).front 1 (by simp)).front 1 (by simp)).front 2 (by simp)).keep (l := [b7 g1467 g1469 a1477 a1478 a1479 a1480, b6 g1469 A1472 l1471.length n1474 a1476, r2 A1472 l1471.length n1474 l1471]) (rest := [])⟩

set_option maxHeartbeats 30000000 in
set_option maxRecDepth 100000 in
theorem quitrentlaw05_begun.calls (k : Nat)  (r : Bool) (w : World)   (HS : Aside0 (Sep (fps []) w [] w)) (H : Aside0 (quitrentlaw05_begun.f k = some r)) :
    Calls Try.prog 31 #[] w fun e w' => e = .returned (.bool r) ∧ Sep (fps []) w [] w' := by
  unfold quitrentlaw05_begun.f at H
  go_enter Try.func31, Try.ntmps31
  go_wp2_with fail
  obtain ⟨t1104, HA1105, H⟩ := bind_some H
  rcases t1104 with t1106 | (t1107 | t1108)
  · have H := sum_l H
    refine (ground_New.calls _ 2 16 3 1 (.inl t1106) _ ⟨HS.out.begin (l := []) (rest := [])⟩ HA1105).mono ?_
    rintro e_ w1109 ⟨rfl, hS⟩
    replace HS : Aside0 (Sep (fps []) w [] w1109) := ⟨HS.out.call (l := []) (rest := []) hS⟩
    clear hS
    go_wp2_with fail
    go_ret
    rw [← some_eq H]
    exact ⟨(by first | rfl | (simp [IntKind.wrap_u32]; done)), (HS.out).keep (l := []) (rest := [])⟩
  · have H := sum_r H
    have H := sum_l H
    refine (ground_New.calls _ 2 16 3 1 (.inr (.inl t1107)) _ ⟨HS.out.begin (l := []) (rest := [])⟩ HA1105).mono ?_
    rintro e_ w1110 ⟨g1114, rfl, g1115, A1116, m1117, n1118, hS⟩
    replace HS : Aside0 (Sep (fps []) w [b7 g1114 g1115 t1107.1 t1107.2.1 t1107.2.2.1 t1107.2.2.2.1, b6 g1115 A1116 m1117 n1118 0, r2 A1116 m1117 n1118 t1107.2.2.2.2] w1110) := ⟨HS.out.call (l := []) (rest := []) hS⟩
    clear hS
    obtain rfl := (row_len (HS.out.at2)).symm
    go_wp2_with fail
    obtain ⟨t1326, HA1327, H⟩ := bind_some H
    refine (ground_Ground_SetWord.calls t1107.2.2.2.2 0 t1107.1 t1107.2.1 t1107.2.2.1 t1107.2.2.2.1 1 5 77 g1114 g1115 A1116 ((t1107.2.2.2.2).length) n1118 t1326 _ ⟨HS.out.begin (l := [b7 g1114 g1115 t1107.1 t1107.2.1 t1107.2.2.1 t1107.2.2.2.1, b6 g1115 A1116 ((t1107.2.2.2.2).length) n1118 0, r2 A1116 ((t1107.2.2.2.2).length) n1118 t1107.2.2.2.2]) (rest := [])⟩ HA1327).mono ?_
    rintro e_ w1328 ⟨rfl, hS⟩
    replace HS : Aside0 (Sep (fps []) w [b7 g1114 g1115 t1107.1 t1107.2.1 t1107.2.2.1 t1107.2.2.2.1, b6 g1115 A1116 ((t1107.2.2.2.2).length) n1118 t1326.2.1, r2 A1116 ((t1107.2.2.2.2).length) n1118 t1326.2.2] w1328) := ⟨HS.out.call (l := [b7 g1114 g1115 t1107.1 t1107.2.1 t1107.2.2.1 t1107.2.2.2.1, b6 g1115 A1116 ((t1107.2.2.2.2).length) n1118 0, r2 A1116 ((t1107.2.2.2.2).length) n1118 t1107.2.2.2.2]) (rest := []) hS⟩
    clear hS
    by_cases c1329 : t1326.1 = true
    · have H := if_yes c1329 H
      have c1329b0 : t1326.1 = true := c1329
      have c1329b1 : (!t1326.1) = false := by rw [c1329b0]; rfl
      try rw [c1329b1]
      clear c1329
      go_wp2_with fail
      obtain ⟨t1403, HA1404, H⟩ := bind_some H
      refine (ground_Ground_Words.calls t1326.2.2 t1326.2.1 t1107.1 t1107.2.1 t1107.2.2.1 t1107.2.2.2.1 g1114 g1115 A1116 ((t1107.2.2.2.2).length) n1118 t1403 _ ⟨HS.out.begin (l := [b7 g1114 g1115 t1107.1 t1107.2.1 t1107.2.2.1 t1107.2.2.2.1, b6 g1115 A1116 ((t1107.2.2.2.2).length) n1118 t1326.2.1, r2 A1116 ((t1107.2.2.2.2).length) n1118 t1326.2.2]) (rest := [])⟩ HA1404).mono ?_
      rintro e_ w1405 ⟨A1407, m1408, n1409, rfl, hS⟩
      replace HS : Aside0 (Sep (fps []) w [b7 g1114 g1115 t1107.1 t1107.2.1 t1107.2.2.1 t1107.2.2.2.1, b6 g1115 A1116 ((t1107.2.2.2.2).length) n1118 t1326.2.1, r2 A1116 ((t1107.2.2.2.2).length) n1118 t1326.2.2, r2 A1407 m1408 n1409 t1403] w1405) := ⟨HS.out.call (l := [b7 g1114 g1115 t1107.1 t1107.2.1 t1107.2.2.1 t1107.2.2.2.1, b6 g1115 A1116 ((t1107.2.2.2.2).length) n1118 t1326.2.1, r2 A1116 ((t1107.2.2.2.2).length) n1118 t1326.2.2]) (rest := []) hS⟩
      clear hS
      obtain rfl := (row_len (HS.out.at3)).symm
      by_cases c1411 : (t1403.length : Int) = 59
      · have H := if_yes c1411 H
        have c1411b0 : ((t1403.length : Int) == 59) = true := beq_iff_eq.mpr c1411
        have c1411b1 : ((t1403.length : Int) != 59) = false := bne_eq_false_iff_eq.mpr c1411
        clear c1411
        by_cases c1412 : 48 < (t1403.length : Int)
        · have H := if_yes c1412 H
          have c1412b0 : decide (48 < (t1403.length : Int)) = true := decide_eq_true c1412
          have c1412b1 : decide (48 < t1403.length) = true := decide_eq_true (by omega)
          have c1412p : (48 < (t1403.length : Int)) = True := eq_true c1412
          clear c1412
          by_cases c1416 : (rd t1403 48) = 77
          · have H := if_yes c1416 H
            have c1416b0 : ((rd t1403 48) == 77) = true := beq_iff_eq.mpr c1416
            have c1416b1 : ((rd t1403 48) != 77) = false := bne_eq_false_iff_eq.mpr c1416
            clear c1416
            obtain ⟨g1413, ea⟩ := row_at (HS.out.at3) (by have := True.intro; have := (of_decide_eq_true c1412b0); omega); cases ea
            have hx1414 := C_at_int (row_Ci (HS.out.at3)) 48 (by decide) (of_decide_eq_true c1412b0)
            have hx1415 : w1405.cell? ⟨g1413, 48, none⟩ = some (.int .u32 (rd t1403 48)) := (row_get 0 (HS.out.at3) 48 (by decide) (of_decide_eq_true c1412b0)).1
            go_wp2_with fail
            clear hx1414 hx1415
            obtain ⟨t1462, HA1463, H⟩ := bind_some H
            refine (ground_Ground_Meter.calls t1326.2.2 t1326.2.1 t1107.1 t1107.2.1 t1107.2.2.1 t1107.2.2.2.1 g1114 g1115 A1116 ((t1107.2.2.2.2).length) n1118 t1462 _ ⟨HS.out.begin (l := [b7 g1114 g1115 t1107.1 t1107.2.1 t1107.2.2.1 t1107.2.2.2.1, b6 g1115 A1116 ((t1107.2.2.2.2).length) n1118 t1326.2.1, r2 A1116 ((t1107.2.2.2.2).length) n1118 t1326.2.2]) (rest := [r2 (some ⟨g1413, 0, none⟩) t1403.length n1409 t1403])⟩ HA1463).mono ?_
            rintro e_ w1464 ⟨rfl, hS⟩
            replace HS : Aside0 (Sep (fps []) w [b7 g1114 g1115 t1107.1 t1107.2.1 t1107.2.2.1 t1107.2.2.2.1, b6 g1115 A1116 ((t1107.2.2.2.2).length) n1118 t1326.2.1, r2 A1116 ((t1107.2.2.2.2).length) n1118 t1326.2.2, r2 (some ⟨g1413, 0, none⟩) t1403.length n1409 t1403] w1464) := ⟨HS.out.call (l := [b7 g1114 g1115 t1107.1 t1107.2.1 t1107.2.2.1 t1107.2.2.2.1, b6 g1115 A1116 ((t1107.2.2.2.2).length) n1118 t1326.2.1, r2 A1116 ((t1107.2.2.2.2).length) n1118 t1326.2.2]) (rest := [r2 (some ⟨g1413, 0, none⟩) t1403.length n1409 t1403]) hS⟩
            clear hS
            by_cases c1465 : t1462 = 1
            · have H := if_yes c1465 H
              have c1465b0 : (t1462 == 1) = true := beq_iff_eq.mpr c1465
              have c1465b1 : (t1462 != 1) = false := bne_eq_false_iff_eq.mpr c1465
              clear c1465
              go_wp2_with fail
              obtain ⟨t1512, HA1513, H⟩ := bind_some H
              refine (ground_Ground_SeeWord.calls t1326.2.2 t1326.2.1 t1107.1 t1107.2.1 t1107.2.2.1 t1107.2.2.2.1 1 5 g1114 g1115 A1116 ((t1107.2.2.2.2).length) n1118 t1512 _ ⟨HS.out.begin (l := [b7 g1114 g1115 t1107.1 t1107.2.1 t1107.2.2.1 t1107.2.2.2.1, b6 g1115 A1116 ((t1107.2.2.2.2).length) n1118 t1326.2.1, r2 A1116 ((t1107.2.2.2.2).length) n1118 t1326.2.2]) (rest := [r2 (some ⟨g1413, 0, none⟩) t1403.length n1409 t1403])⟩ HA1513).mono ?_
              rintro e_ w1514 ⟨rfl, hS⟩
              replace HS : Aside0 (Sep (fps []) w [b7 g1114 g1115 t1107.1 t1107.2.1 t1107.2.2.1 t1107.2.2.2.1, b6 g1115 A1116 ((t1107.2.2.2.2).length) n1118 t1326.2.1, r2 A1116 ((t1107.2.2.2.2).length) n1118 t1326.2.2, r2 (some ⟨g1413, 0, none⟩) t1403.length n1409 t1403] w1514) := ⟨HS.out.call (l := [b7 g1114 g1115 t1107.1 t1107.2.1 t1107.2.2.1 t1107.2.2.2.1, b6 g1115 A1116 ((t1107.2.2.2.2).length) n1118 t1326.2.1, r2 A1116 ((t1107.2.2.2.2).length) n1118 t1326.2.2]) (rest := [r2 (some ⟨g1413, 0, none⟩) t1403.length n1409 t1403]) hS⟩
              clear hS
              replace HS : Aside0 (Sep (fps []) w [] w1514) := ⟨HS.out.sub (.cons _ (.cons _ (.cons _ (.cons _ .slnil))))⟩
              go_wp2_with fail
              go_ret
              rw [← some_eq H]
              exact ⟨(by first | rfl | (simp [IntKind.wrap_u32]; done)), (HS.out).keep (l := []) (rest := [])⟩
            · have H := if_no c1465 H
              have c1465b0 : (t1462 == 1) = false := beq_eq_false_iff_ne.mpr c1465
              have c1465b1 : (t1462 != 1) = true := bne_iff_ne.mpr c1465
              clear c1465
              replace HS : Aside0 (Sep (fps []) w [] w1464) := ⟨HS.out.sub (.cons _ (.cons _ (.cons _ (.cons _ .slnil))))⟩
              go_wp2_with fail
              go_ret
              rw [← some_eq H]
              exact ⟨(by first | rfl | (simp [IntKind.wrap_u32]; done)), (HS.out).keep (l := []) (rest := [])⟩
          · have H := if_no c1416 H
            have c1416b0 : ((rd t1403 48) == 77) = false := beq_eq_false_iff_ne.mpr c1416
            have c1416b1 : ((rd t1403 48) != 77) = true := bne_iff_ne.mpr c1416
            clear c1416
            obtain ⟨g1413, ea⟩ := row_at (HS.out.at3) (by have := True.intro; have := (of_decide_eq_true c1412b0); omega); cases ea
            have hx1414 := C_at_int (row_Ci (HS.out.at3)) 48 (by decide) (of_decide_eq_true c1412b0)
            have hx1415 : w1405.cell? ⟨g1413, 48, none⟩ = some (.int .u32 (rd t1403 48)) := (row_get 0 (HS.out.at3) 48 (by decide) (of_decide_eq_true c1412b0)).1
            replace HS : Aside0 (Sep (fps []) w [] w1405) := ⟨HS.out.sub (.cons _ (.cons _ (.cons _ (.cons _ .slnil))))⟩
            go_wp2_with fail
            clear hx1414 hx1415
            go_ret
            rw [← some_eq H]
            exact ⟨(by first | rfl | (simp [IntKind.wrap_u32]; done)), (HS.out).keep (l := []) (rest := [])⟩
        · have H := if_no c1412 H
          have c1412b0 : decide (48 < (t1403.length : Int)) = false := decide_eq_false c1412
          have c1412b1 : decide (48 < t1403.length) = false := decide_eq_false (by omega)
          clear c1412
          exact (none_no H).elim
      · have H := if_no c1411 H
        have c1411b0 : ((t1403.length : Int) == 59) = false := beq_eq_false_iff_ne.mpr c1411
        have c1411b1 : ((t1403.length : Int) != 59) = true := bne_iff_ne.mpr c1411
        clear c1411
        replace HS : Aside0 (Sep (fps []) w [] w1405) := ⟨HS.out.sub (.cons _ (.cons _ (.cons _ (.cons _ .slnil))))⟩
        go_wp2_with fail
        go_ret
        rw [← some_eq H]
        exact ⟨(by first | rfl | (simp [IntKind.wrap_u32]; done)), (HS.out).keep (l := []) (rest := [])⟩
    · have H := if_no c1329 H
      have c1329b0 : t1326.1 = false := by simpa using c1329
      have c1329b1 : (!t1326.1) = true := by rw [c1329b0]; rfl
      try rw [c1329b1]
      clear c1329
      replace HS : Aside0 (Sep (fps []) w [] w1328) := ⟨HS.out.sub (.cons _ (.cons _ (.cons _ .slnil)))⟩
      go_wp2_with fail
      go_ret
      rw [← some_eq H]
      exact ⟨(by first | rfl | (simp [IntKind.wrap_u32]; done)), (HS.out).keep (l := []) (rest := [])⟩
  · have H := sum_r H
    have H := sum_r H
    refine (ground_New.calls _ 2 16 3 1 (.inr (.inr t1108)) _ ⟨HS.out.begin (l := []) (rest := [])⟩ HA1105).mono ?_
    rintro e_ w1515 ⟨rfl, hS⟩
    replace HS : Aside0 (Sep (fps []) w [] w1515) := ⟨HS.out.call (l := []) (rest := []) hS⟩
    clear hS
    by_cases c1516 : t1108 = 0
    · have H := if_yes c1516 H
      have c1516b0 : (t1108 == 0) = true := beq_iff_eq.mpr c1516
      have c1516b1 : (t1108 != 0) = false := bne_eq_false_iff_eq.mpr c1516
      clear c1516
      go_wp2_with fail
      go_ret
      rw [← some_eq H]
      exact ⟨(by first | rfl | (simp [IntKind.wrap_u32]; done)), (HS.out).keep (l := []) (rest := [])⟩
    · have H := if_no c1516 H
      have c1516b0 : (t1108 == 0) = false := beq_eq_false_iff_ne.mpr c1516
      have c1516b1 : (t1108 != 0) = true := bne_iff_ne.mpr c1516
      clear c1516
      go_wp2_with fail
      go_ret
      rw [← some_eq H]
      exact ⟨(by first | rfl | (simp [IntKind.wrap_u32]; done)), (HS.out).keep (l := []) (rest := [])⟩

set_option maxHeartbeats 30000000 in
set_option maxRecDepth 100000 in
theorem quitrentlaw05_GroundNobody.calls (k : Nat) (a1 : Int) (a2 : Int) (a3 : Int) (r : Bool) (w : World)   (HS : Aside0 (Sep (fps []) w [] w)) (H : Aside0 (quitrentlaw05_GroundNobody.f k a1 a2 a3 = some r)) :
    Calls Try.prog 10 #[.int .i64 a1, .int .i64 a2, .int .i64 a3] w fun e w' => e = .returned (.bool r) ∧ Sep (fps []) w [] w' := by
  unfold quitrentlaw05_GroundNobody.f at H
  go_enter Try.func10, Try.ntmps10
  go_wp2_with fail
  obtain ⟨t20, HA21, H⟩ := bind_some H
  refine (ground_Ground_Conf_nil.calls t20 _ ⟨HS.out.begin (l := []) (rest := [])⟩ HA21).mono ?_
  rintro e_ w22 ⟨rfl, hS⟩
  replace HS : Aside0 (Sep (fps []) w [] w22) := ⟨HS.out.call (l := []) (rest := []) hS⟩
  clear hS
  by_cases c23 : t20.1 = 0
  · have H := if_yes c23 H
    have c23b0 : (t20.1 == 0) = true := beq_iff_eq.mpr c23
    have c23b1 : (t20.1 != 0) = false := bne_eq_false_iff_eq.mpr c23
    clear c23
    by_cases c24 : t20.2.1 = 0
    · have H := if_yes c24 H
      have c24b0 : (t20.2.1 == 0) = true := beq_iff_eq.mpr c24
      have c24b1 : (t20.2.1 != 0) = false := bne_eq_false_iff_eq.mpr c24
      clear c24
      by_cases c25 : t20.2.2.1 = 0
      · have H := if_yes c25 H
        have c25b0 : (t20.2.2.1 == 0) = true := beq_iff_eq.mpr c25
        have c25b1 : (t20.2.2.1 != 0) = false := bne_eq_false_iff_eq.mpr c25
        clear c25
        by_cases c26 : t20.2.2.2 = 0
        · have H := if_yes c26 H
          have c26b0 : (t20.2.2.2 == 0) = true := beq_iff_eq.mpr c26
          have c26b1 : (t20.2.2.2 != 0) = false := bne_eq_false_iff_eq.mpr c26
          clear c26
          go_wp2_with fail
          obtain ⟨t52, HA53, H⟩ := bind_some H
          refine (ground_Ground_Reg_nil.calls a1 t52 _ ⟨HS.out.begin (l := []) (rest := [])⟩ HA53).mono ?_
          rintro e_ w54 ⟨rfl, hS⟩
          replace HS : Aside0 (Sep (fps []) w [] w54) := ⟨HS.out.call (l := []) (rest := []) hS⟩
          clear hS
          by_cases c55 : t52 = 0
          · have H := if_yes c55 H
            have c55b0 : (t52 == 0) = true := beq_iff_eq.mpr c55
            have c55b1 : (t52 != 0) = false := bne_eq_false_iff_eq.mpr c55
            clear c55
            go_wp2_with fail
            obtain ⟨t80, HA81, H⟩ := bind_some H
            refine (ground_Ground_SetReg_nil.calls a1 a3 t80 _ ⟨HS.out.begin (l := []) (rest := [])⟩ HA81).mono ?_
            rintro e_ w82 ⟨rfl, hS⟩
            replace HS : Aside0 (Sep (fps []) w [] w82) := ⟨HS.out.call (l := []) (rest := []) hS⟩
            clear hS
            by_cases c83 : t80 = true
            · have H := if_yes c83 H
              have c83b0 : t80 = true := c83
              have c83b1 : (!t80) = false := by rw [c83b0]; rfl
              clear c83
              go_wp2_with fail
              go_ret
              rw [← some_eq H]
              exact ⟨(by first | rfl | (simp [IntKind.wrap_u32]; done)), (HS.out).keep (l := []) (rest := [])⟩
            · have H := if_no c83 H
              have c83b0 : t80 = false := by simpa using c83
              have c83b1 : (!t80) = true := by rw [c83b0]; rfl
              clear c83
              go_wp2_with fail
              obtain ⟨t102, HA103, H⟩ := bind_some H
              refine (ground_Ground_Root_nil.calls a1 t102 _ ⟨HS.out.begin (l := []) (rest := [])⟩ HA103).mono ?_
              rintro e_ w104 ⟨rfl, hS⟩
              replace HS : Aside0 (Sep (fps []) w [] w104) := ⟨HS.out.call (l := []) (rest := []) hS⟩
              clear hS
              by_cases c105 : t102 = 0
              · have H := if_yes c105 H
                have c105b0 : (t102 == 0) = true := beq_iff_eq.mpr c105
                have c105b1 : (t102 != 0) = false := bne_eq_false_iff_eq.mpr c105
                clear c105
                go_wp2_with fail
                obtain ⟨t114, HA115, H⟩ := bind_some H
                refine (ground_Ground_SetRoot_nil.calls a1 a3 t114 _ ⟨HS.out.begin (l := []) (rest := [])⟩ HA115).mono ?_
                rintro e_ w116 ⟨rfl, hS⟩
                replace HS : Aside0 (Sep (fps []) w [] w116) := ⟨HS.out.call (l := []) (rest := []) hS⟩
                clear hS
                by_cases c117 : t114 = true
                · have H := if_yes c117 H
                  have c117b0 : t114 = true := c117
                  have c117b1 : (!t114) = false := by rw [c117b0]; rfl
                  clear c117
                  go_wp2_with fail
                  go_ret
                  rw [← some_eq H]
                  exact ⟨(by first | rfl | (simp [IntKind.wrap_u32]; done)), (HS.out).keep (l := []) (rest := [])⟩
                · have H := if_no c117 H
                  have c117b0 : t114 = false := by simpa using c117
                  have c117b1 : (!t114) = true := by rw [c117b0]; rfl
                  clear c117
                  go_wp2_with fail
                  obtain ⟨t156, HA157, H⟩ := bind_some H
                  refine (ground_Ground_Word_nil.calls a1 a2 t156 _ ⟨HS.out.begin (l := []) (rest := [])⟩ HA157).mono ?_
                  rintro e_ w158 ⟨rfl, hS⟩
                  replace HS : Aside0 (Sep (fps []) w [] w158) := ⟨HS.out.call (l := []) (rest := []) hS⟩
                  clear hS
                  by_cases c159 : t156 = 0
                  · have H := if_yes c159 H
                    have c159b0 : (t156 == 0) = true := beq_iff_eq.mpr c159
                    have c159b1 : (t156 != 0) = false := bne_eq_false_iff_eq.mpr c159
                    clear c159
                    go_wp2_with fail
                    obtain ⟨t172, HA173, H⟩ := bind_some H
                    refine (ground_Ground_SetWord_nil.calls a1 a2 1 t172 _ ⟨HS.out.begin (l := []) (rest := [])⟩ HA173).mono ?_
                    rintro e_ w174 ⟨rfl, hS⟩
                    replace HS : Aside0 (Sep (fps []) w [] w174) := ⟨HS.out.call (l := []) (rest := []) hS⟩
                    clear hS
                    by_cases c175 : t172 = true
                    · have H := if_yes c175 H
                      have c175b0 : t172 = true := c175
                      have c175b1 : (!t172) = false := by rw [c175b0]; rfl
                      clear c175
                      go_wp2_with fail
                      go_ret
                      rw [← some_eq H]
                      exact ⟨(by first | rfl | (simp [IntKind.wrap_u32]; done)), (HS.out).keep (l := []) (rest := [])⟩
                    · have H := if_no c175 H
                      have c175b0 : t172 = false := by simpa using c175
                      have c175b1 : (!t172) = true := by rw [c175b0]; rfl
                      clear c175
                      go_wp2_with fail
                      obtain ⟨t194, HA195, H⟩ := bind_some H
                      refine (ground_Ground_Wipe_nil.calls _ a1 t194 _ ⟨HS.out.begin (l := []) (rest := [])⟩ HA195).mono ?_
                      rintro e_ w196 ⟨rfl, hS⟩
                      replace HS : Aside0 (Sep (fps []) w [] w196) := ⟨HS.out.call (l := []) (rest := []) hS⟩
                      clear hS
                      by_cases c197 : t194 = 0
                      · have H := if_yes c197 H
                        have c197b0 : (t194 == 0) = true := beq_iff_eq.mpr c197
                        have c197b1 : (t194 != 0) = false := bne_eq_false_iff_eq.mpr c197
                        clear c197
                        go_wp2_with fail
                        obtain ⟨t204, HA205, H⟩ := bind_some H
                        refine (ground_Ground_Meter_nil.calls t204 _ ⟨HS.out.begin (l := []) (rest := [])⟩ HA205).mono ?_
                        rintro e_ w206 ⟨rfl, hS⟩
                        replace HS : Aside0 (Sep (fps []) w [] w206) := ⟨HS.out.call (l := []) (rest := []) hS⟩
                        clear hS
                        by_cases c207 : t204 = 0
                        · have H := if_yes c207 H
                          have c207b0 : (t204 == 0) = true := beq_iff_eq.mpr c207
                          have c207b1 : (t204 != 0) = false := bne_eq_false_iff_eq.mpr c207
                          clear c207
                          go_wp2_with fail
                          obtain ⟨t241, HA242, H⟩ := bind_some H
                          refine (ground_Ground_Words_nil.calls t241 _ ⟨HS.out.begin (l := []) (rest := [])⟩ HA242).mono ?_
                          rintro e_ w243 ⟨A245, m246, n247, rfl, hS⟩
                          replace HS : Aside0 (Sep (fps []) w [r2 A245 m246 n247 t241] w243) := ⟨HS.out.call (l := []) (rest := []) hS⟩
                          clear hS
                          obtain rfl := (row_len (HS.out.at0)).symm
                          by_cases c249 : (t241.length : Int) = 0
                          · have H := if_yes c249 H
                            have c249b0 : ((t241.length : Int) == 0) = true := beq_iff_eq.mpr c249
                            have c249b1 : ((t241.length : Int) != 0) = false := bne_eq_false_iff_eq.mpr c249
                            clear c249
                            go_wp2_with fail
                            obtain ⟨t264, HA265, H⟩ := bind_some H
                            refine (ground_Ground_Load_nil.calls ([] : List Int) none 0 t264 _ ⟨Rd.nil _ _ _⟩ ⟨HS.out.begin (l := []) (rest := [r2 A245 t241.length n247 t241])⟩ HA265).mono ?_
                            rintro e_ w266 ⟨rfl, hS⟩
                            replace HS : Aside0 (Sep (fps []) w [r2 A245 t241.length n247 t241] w266) := ⟨HS.out.call (l := []) (rest := [r2 A245 t241.length n247 t241]) hS⟩
                            clear hS
                            by_cases c267 : t264 = true
                            · have H := if_yes c267 H
                              have c267b0 : t264 = true := c267
                              have c267b1 : (!t264) = false := by rw [c267b0]; rfl
                              try rw [c267b1]
                              clear c267
                              replace HS : Aside0 (Sep (fps []) w [] w266) := ⟨HS.out.sub (.cons _ .slnil)⟩
                              go_wp2_with fail
                              go_ret
                              rw [← some_eq H]
                              exact ⟨(by first | rfl | (simp [IntKind.wrap_u32]; done)), (HS.out).keep (l := []) (rest := [])⟩
                            · have H := if_no c267 H
                              have c267b0 : t264 = false := by simpa using c267
                              have c267b1 : (!t264) = true := by rw [c267b0]; rfl
                              try rw [c267b1]
                              clear c267
                              go_wp2_with fail
                              obtain ⟨t283, HA284, H⟩ := bind_some H
                              refine (ground_Ground_SeeReg_nil.calls a1 t283 _ ⟨HS.out.begin (l := []) (rest := [r2 A245 t241.length n247 t241])⟩ HA284).mono ?_
                              rintro e_ w285 ⟨rfl, hS⟩
                              replace HS : Aside0 (Sep (fps []) w [r2 A245 t241.length n247 t241] w285) := ⟨HS.out.call (l := []) (rest := [r2 A245 t241.length n247 t241]) hS⟩
                              clear hS
                              by_cases c286 : t283 = 0
                              · have H := if_yes c286 H
                                have c286b0 : (t283 == 0) = true := beq_iff_eq.mpr c286
                                have c286b1 : (t283 != 0) = false := bne_eq_false_iff_eq.mpr c286
                                clear c286
                                go_wp2_with fail
                                obtain ⟨t297, HA298, H⟩ := bind_some H
                                refine (ground_Ground_SeeRoot_nil.calls a1 t297 _ ⟨HS.out.begin (l := []) (rest := [r2 A245 t241.length n247 t241])⟩ HA298).mono ?_
                                rintro e_ w299 ⟨rfl, hS⟩
                                replace HS : Aside0 (Sep (fps []) w [r2 A245 t241.length n247 t241] w299) := ⟨HS.out.call (l := []) (rest := [r2 A245 t241.length n247 t241]) hS⟩
                                clear hS
                                by_cases c300 : t297 = 0
                                · have H := if_yes c300 H
                                  have c300b0 : (t297 == 0) = true := beq_iff_eq.mpr c300
                                  have c300b1 : (t297 != 0) = false := bne_eq_false_iff_eq.mpr c300
                                  clear c300
                                  go_wp2_with fail
                                  obtain ⟨t312, HA313, H⟩ := bind_some H
                                  refine (ground_Ground_SeeWord_nil.calls a1 a2 t312 _ ⟨HS.out.begin (l := []) (rest := [r2 A245 t241.length n247 t241])⟩ HA313).mono ?_
                                  rintro e_ w314 ⟨rfl, hS⟩
                                  replace HS : Aside0 (Sep (fps []) w [r2 A245 t241.length n247 t241] w314) := ⟨HS.out.call (l := []) (rest := [r2 A245 t241.length n247 t241]) hS⟩
                                  clear hS
                                  by_cases c315 : t312 = 0
                                  · have H := if_yes c315 H
                                    have c315b0 : (t312 == 0) = true := beq_iff_eq.mpr c315
                                    have c315b1 : (t312 != 0) = false := bne_eq_false_iff_eq.mpr c315
                                    clear c315
                                    go_wp2_with fail
                                    obtain ⟨t1517, HA1518, H⟩ := bind_some H
                                    refine (quitrentlaw05_begun.calls _ t1517 _ ⟨HS.out.begin (l := []) (rest := [r2 A245 t241.length n247 t241])⟩ HA1518).mono ?_
                                    rintro e_ w1519 ⟨rfl, hS⟩
                                    replace HS : Aside0 (Sep (fps []) w [r2 A245 t241.length n247 t241] w1519) := ⟨HS.out.call (l := []) (rest := [r2 A245 t241.length n247 t241]) hS⟩
                                    clear hS
                                    replace HS : Aside0 (Sep (fps []) w [] w1519) := ⟨HS.out.sub (.cons _ .slnil)⟩
                                    go_wp2_with fail
                                    go_ret
                                    rw [← some_eq H]
                                    exact ⟨(by first | rfl | (simp [IntKind.wrap_u32]; done)), (HS.out).keep (l := []) (rest := [])⟩
                                  · have H := if_no c315 H
                                    have c315b0 : (t312 == 0) = false := beq_eq_false_iff_ne.mpr c315
                                    have c315b1 : (t312 != 0) = true := bne_iff_ne.mpr c315
                                    clear c315
                                    replace HS : Aside0 (Sep (fps []) w [] w314) := ⟨HS.out.sub (.cons _ .slnil)⟩
                                    go_wp2_with fail
                                    go_ret
                                    rw [← some_eq H]
                                    exact ⟨(by first | rfl | (simp [IntKind.wrap_u32]; done)), (HS.out).keep (l := []) (rest := [])⟩
                                · have H := if_no c300 H
                                  have c300b0 : (t297 == 0) = false := beq_eq_false_iff_ne.mpr c300
                                  have c300b1 : (t297 != 0) = true := bne_iff_ne.mpr c300
                                  clear c300
                                  replace HS : Aside0 (Sep (fps []) w [] w299) := ⟨HS.out.sub (.cons _ .slnil)⟩
                                  go_wp2_with fail
                                  go_ret
                                  rw [← some_eq H]
                                  exact ⟨(by first | rfl | (simp [IntKind.wrap_u32]; done)), (HS.out).keep (l := []) (rest := [])⟩
                              · have H := if_no c286 H
                                have c286b0 : (t283 == 0) = false := beq_eq_false_iff_ne.mpr c286
                                have c286b1 : (t283 != 0) = true := bne_iff_ne.mpr c286
                                clear c286
                                replace HS : Aside0 (Sep (fps []) w [] w285) := ⟨HS.out.sub (.cons _ .slnil)⟩
                                go_wp2_with fail
                                go_ret
                                rw [← some_eq H]
                                exact ⟨(by first | rfl | (simp [IntKind.wrap_u32]; done)), (HS.out).keep (l := []) (rest := [])⟩
                          · have H := if_no c249 H
                            have c249b0 : ((t241.length : Int) == 0) = false := beq_eq_false_iff_ne.mpr c249
                            have c249b1 : ((t241.length : Int) != 0) = true := bne_iff_ne.mpr c249
                            clear c249
                            replace HS : Aside0 (Sep (fps []) w [] w243) := ⟨HS.out.sub (.cons _ .slnil)⟩
                            go_wp2_with fail
                            go_ret
                            rw [← some_eq H]
                            exact ⟨(by first | rfl | (simp [IntKind.wrap_u32]; done)), (HS.out).keep (l := []) (rest := [])⟩
                        · have H := if_no c207 H
                          have c207b0 : (t204 == 0) = false := beq_eq_false_iff_ne.mpr c207
                          have c207b1 : (t204 != 0) = true := bne_iff_ne.mpr c207
                          clear c207
                          go_wp2_with fail
                          go_ret
                          rw [← some_eq H]
                          exact ⟨(by first | rfl | (simp [IntKind.wrap_u32]; done)), (HS.out).keep (l := []) (rest := [])⟩
                      · have H := if_no c197 H
                        have c197b0 : (t194 == 0) = false := beq_eq_false_iff_ne.mpr c197
                        have c197b1 : (t194 != 0) = true := bne_iff_ne.mpr c197
                        clear c197
                        go_wp2_with fail
                        go_ret
                        rw [← some_eq H]
                        exact ⟨(by first | rfl | (simp [IntKind.wrap_u32]; done)), (HS.out).keep (l := []) (rest := [])⟩
                  · have H := if_no c159 H
                    have c159b0 : (t156 == 0) = false := beq_eq_false_iff_ne.mpr c159
                    have c159b1 : (t156 != 0) = true := bne_iff_ne.mpr c159
                    clear c159
                    go_wp2_with fail
                    go_ret
                    rw [← some_eq H]
                    exact ⟨(by first | rfl | (simp [IntKind.wrap_u32]; done)), (HS.out).keep (l := []) (rest := [])⟩
              · have H := if_no c105 H
                have c105b0 : (t102 == 0) = false := beq_eq_false_iff_ne.mpr c105
                have c105b1 : (t102 != 0) = true := bne_iff_ne.mpr c105
                clear c105
                go_wp2_with fail
                go_ret
                rw [← some_eq H]
                exact ⟨(by first | rfl | (simp [IntKind.wrap_u32]; done)), (HS.out).keep (l := []) (rest := [])⟩
          · have H := if_no c55 H
            have c55b0 : (t52 == 0) = false := beq_eq_false_iff_ne.mpr c55
            have c55b1 : (t52 != 0) = true := bne_iff_ne.mpr c55
            clear c55
            go_wp2_with fail
            go_ret
            rw [← some_eq H]
            exact ⟨(by first | rfl | (simp [IntKind.wrap_u32]; done)), (HS.out).keep (l := []) (rest := [])⟩
        · have H := if_no c26 H
          have c26b0 : (t20.2.2.2 == 0) = false := beq_eq_false_iff_ne.mpr c26
          have c26b1 : (t20.2.2.2 != 0) = true := bne_iff_ne.mpr c26
          clear c26
          go_wp2_with fail
          go_ret
          rw [← some_eq H]
          exact ⟨(by first | rfl | (simp [IntKind.wrap_u32]; done)), (HS.out).keep (l := []) (rest := [])⟩
      · have H := if_no c25 H
        have c25b0 : (t20.2.2.1 == 0) = false := beq_eq_false_iff_ne.mpr c25
        have c25b1 : (t20.2.2.1 != 0) = true := bne_iff_ne.mpr c25
        clear c25
        go_wp2_with fail
        go_ret
        rw [← some_eq H]
        exact ⟨(by first | rfl | (simp [IntKind.wrap_u32]; done)), (HS.out).keep (l := []) (rest := [])⟩
    · have H := if_no c24 H
      have c24b0 : (t20.2.1 == 0) = false := beq_eq_false_iff_ne.mpr c24
      have c24b1 : (t20.2.1 != 0) = true := bne_iff_ne.mpr c24
      clear c24
      go_wp2_with fail
      go_ret
      rw [← some_eq H]
      exact ⟨(by first | rfl | (simp [IntKind.wrap_u32]; done)), (HS.out).keep (l := []) (rest := [])⟩
  · have H := if_no c23 H
    have c23b0 : (t20.1 == 0) = false := beq_eq_false_iff_ne.mpr c23
    have c23b1 : (t20.1 != 0) = true := bne_iff_ne.mpr c23
    clear c23
    go_wp2_with fail
    go_ret
    rw [← some_eq H]
    exact ⟨(by first | rfl | (simp [IntKind.wrap_u32]; done)), (HS.out).keep (l := []) (rest := [])⟩

set_option maxHeartbeats 30000000 in
set_option maxRecDepth 100000 in
theorem quitrentref03_May.calls (a1546 : Int) (a1547 : Int) (a1548 : Int) (a1549 : Int) (r : Bool) (w : World)   (HS : Aside0 (Sep (fps []) w [] w)) (H : Aside0 (quitrentref03_May.f a1546 a1547 a1548 a1549 = some r)) :
    Calls Try.prog 30 #[.agg #[.int .i64 a1546, .int .i64 a1547, .int .i64 a1548, .int .i64 a1549]] w fun e w' => e = .returned (.bool r) ∧ Sep (fps []) w [] w' := by
  unfold quitrentref03_May.f at H
  go_enter Try.func30, Try.ntmps30
  by_cases c1554 : a1546 < 1
  · have H := if_yes c1554 H
    have c1554b0 : decide (a1546 < 1) = true := decide_eq_true c1554
    clear c1554
    go_wp2_with (first | ((with_reducible refine gate_dst (N := 1) rfl ?_); refine box_on ?hg (N := 1) ?hd (cs := #[.int .i64 a1546, .int .i64 a1547, .int .i64 a1548, .int .i64 a1549]) (t := 49) ?hr ?_; (case hd => rfl); (case hg => rfl); (case hr => first | (go_simp; done) | (go_simp; rfl)); intro g1550 hg w1551 hbox hb; replace HS : Aside0 (Sep (fps []) w [b1 g1550 a1546 a1547 a1548 a1549] w1551) := ⟨HS.out.box hg hbox hb⟩; clear hg hbox hb; have hc1553 : w1551.cell? ⟨g1550, 0, none⟩ = some (.int .i64 a1546) := blk_cellv (HS.out.at0) 0 rfl; replace HS : Aside0 (Sep (fps []) w [] w1551) := ⟨HS.out.sub (.cons _ .slnil)⟩))
    clear hc1553
    go_ret
    rw [← some_eq H]
    exact ⟨(by first | rfl | (simp [IntKind.wrap_u32]; done)), (HS.out).keep (l := []) (rest := [])⟩
  · have H := if_no c1554 H
    have c1554b0 : decide (a1546 < 1) = false := decide_eq_false c1554
    clear c1554
    by_cases c1555 : a1546 > 1048576
    · have H := if_yes c1555 H
      have c1555b0 : decide (1048576 < a1546) = true := decide_eq_true c1555
      clear c1555
      go_wp2_with (first | ((with_reducible refine gate_dst (N := 1) rfl ?_); refine box_on ?hg (N := 1) ?hd (cs := #[.int .i64 a1546, .int .i64 a1547, .int .i64 a1548, .int .i64 a1549]) (t := 49) ?hr ?_; (case hd => rfl); (case hg => rfl); (case hr => first | (go_simp; done) | (go_simp; rfl)); intro g1550 hg w1551 hbox hb; replace HS : Aside0 (Sep (fps []) w [b1 g1550 a1546 a1547 a1548 a1549] w1551) := ⟨HS.out.box hg hbox hb⟩; clear hg hbox hb; have hc1553 : w1551.cell? ⟨g1550, 0, none⟩ = some (.int .i64 a1546) := blk_cellv (HS.out.at0) 0 rfl; replace HS : Aside0 (Sep (fps []) w [] w1551) := ⟨HS.out.sub (.cons _ .slnil)⟩))
      clear hc1553
      go_ret
      rw [← some_eq H]
      exact ⟨(by first | rfl | (simp [IntKind.wrap_u32]; done)), (HS.out).keep (l := []) (rest := [])⟩
    · have H := if_no c1555 H
      have c1555b0 : decide (1048576 < a1546) = false := decide_eq_false c1555
      clear c1555
      by_cases c1557 : a1547 < 16
      · have H := if_yes c1557 H
        have c1557b0 : decide (a1547 < 16) = true := decide_eq_true c1557
        clear c1557
        go_wp2_with (first | ((with_reducible refine gate_dst (N := 1) rfl ?_); refine box_on ?hg (N := 1) ?hd (cs := #[.int .i64 a1546, .int .i64 a1547, .int .i64 a1548, .int .i64 a1549]) (t := 49) ?hr ?_; (case hd => rfl); (case hg => rfl); (case hr => first | (go_simp; done) | (go_simp; rfl)); intro g1550 hg w1551 hbox hb; replace HS : Aside0 (Sep (fps []) w [b1 g1550 a1546 a1547 a1548 a1549] w1551) := ⟨HS.out.box hg hbox hb⟩; clear hg hbox hb; have hc1553 : w1551.cell? ⟨g1550, 0, none⟩ = some (.int .i64 a1546) := blk_cellv (HS.out.at0) 0 rfl; have hc1556 : w1551.cell? ⟨g1550, 1, none⟩ = some (.int .i64 a1547) := blk_cellv (HS.out.at0) 1 rfl; replace HS : Aside0 (Sep (fps []) w [] w1551) := ⟨HS.out.sub (.cons _ .slnil)⟩))
        clear hc1553 hc1556
        go_ret
        rw [← some_eq H]
        exact ⟨(by first | rfl | (simp [IntKind.wrap_u32]; done)), (HS.out).keep (l := []) (rest := [])⟩
      · have H := if_no c1557 H
        have c1557b0 : decide (a1547 < 16) = false := decide_eq_false c1557
        clear c1557
        by_cases c1558 : a1547 > 256
        · have H := if_yes c1558 H
          have c1558b0 : decide (256 < a1547) = true := decide_eq_true c1558
          clear c1558
          go_wp2_with (first | ((with_reducible refine gate_dst (N := 1) rfl ?_); refine box_on ?hg (N := 1) ?hd (cs := #[.int .i64 a1546, .int .i64 a1547, .int .i64 a1548, .int .i64 a1549]) (t := 49) ?hr ?_; (case hd => rfl); (case hg => rfl); (case hr => first | (go_simp; done) | (go_simp; rfl)); intro g1550 hg w1551 hbox hb; replace HS : Aside0 (Sep (fps []) w [b1 g1550 a1546 a1547 a1548 a1549] w1551) := ⟨HS.out.box hg hbox hb⟩; clear hg hbox hb; have hc1553 : w1551.cell? ⟨g1550, 0, none⟩ = some (.int .i64 a1546) := blk_cellv (HS.out.at0) 0 rfl; have hc1556 : w1551.cell? ⟨g1550, 1, none⟩ = some (.int .i64 a1547) := blk_cellv (HS.out.at0) 1 rfl; replace HS : Aside0 (Sep (fps []) w [] w1551) := ⟨HS.out.sub (.cons _ .slnil)⟩))
          clear hc1553 hc1556
          go_ret
          rw [← some_eq H]
          exact ⟨(by first | rfl | (simp [IntKind.wrap_u32]; done)), (HS.out).keep (l := []) (rest := [])⟩
        · have H := if_no c1558 H
          have c1558b0 : decide (256 < a1547) = false := decide_eq_false c1558
          clear c1558
          by_cases c1560 : a1548 < 1
          · have H := if_yes c1560 H
            have c1560b0 : decide (a1548 < 1) = true := decide_eq_true c1560
            clear c1560
            go_wp2_with (first | ((with_reducible refine gate_dst (N := 1) rfl ?_); refine box_on ?hg (N := 1) ?hd (cs := #[.int .i64 a1546, .int .i64 a1547, .int .i64 a1548, .int .i64 a1549]) (t := 49) ?hr ?_; (case hd => rfl); (case hg => rfl); (case hr => first | (go_simp; done) | (go_simp; rfl)); intro g1550 hg w1551 hbox hb; replace HS : Aside0 (Sep (fps []) w [b1 g1550 a1546 a1547 a1548 a1549] w1551) := ⟨HS.out.box hg hbox hb⟩; clear hg hbox hb; have hc1553 : w1551.cell? ⟨g1550, 0, none⟩ = some (.int .i64 a1546) := blk_cellv (HS.out.at0) 0 rfl; have hc1556 : w1551.cell? ⟨g1550, 1, none⟩ = some (.int .i64 a1547) := blk_cellv (HS.out.at0) 1 rfl; have hc1559 : w1551.cell? ⟨g1550, 2, none⟩ = some (.int .i64 a1548) := blk_cellv (HS.out.at0) 2 rfl; replace HS : Aside0 (Sep (fps []) w [] w1551) := ⟨HS.out.sub (.cons _ .slnil)⟩))
            clear hc1553 hc1556 hc1559
            go_ret
            rw [← some_eq H]
            exact ⟨(by first | rfl | (simp [IntKind.wrap_u32]; done)), (HS.out).keep (l := []) (rest := [])⟩
          · have H := if_no c1560 H
            have c1560b0 : decide (a1548 < 1) = false := decide_eq_false c1560
            clear c1560
            by_cases c1561 : a1548 > 4096
            · have H := if_yes c1561 H
              have c1561b0 : decide (4096 < a1548) = true := decide_eq_true c1561
              clear c1561
              go_wp2_with (first | ((with_reducible refine gate_dst (N := 1) rfl ?_); refine box_on ?hg (N := 1) ?hd (cs := #[.int .i64 a1546, .int .i64 a1547, .int .i64 a1548, .int .i64 a1549]) (t := 49) ?hr ?_; (case hd => rfl); (case hg => rfl); (case hr => first | (go_simp; done) | (go_simp; rfl)); intro g1550 hg w1551 hbox hb; replace HS : Aside0 (Sep (fps []) w [b1 g1550 a1546 a1547 a1548 a1549] w1551) := ⟨HS.out.box hg hbox hb⟩; clear hg hbox hb; have hc1553 : w1551.cell? ⟨g1550, 0, none⟩ = some (.int .i64 a1546) := blk_cellv (HS.out.at0) 0 rfl; have hc1556 : w1551.cell? ⟨g1550, 1, none⟩ = some (.int .i64 a1547) := blk_cellv (HS.out.at0) 1 rfl; have hc1559 : w1551.cell? ⟨g1550, 2, none⟩ = some (.int .i64 a1548) := blk_cellv (HS.out.at0) 2 rfl; replace HS : Aside0 (Sep (fps []) w [] w1551) := ⟨HS.out.sub (.cons _ .slnil)⟩))
              clear hc1553 hc1556 hc1559
              go_ret
              rw [← some_eq H]
              exact ⟨(by first | rfl | (simp [IntKind.wrap_u32]; done)), (HS.out).keep (l := []) (rest := [])⟩
            · have H := if_no c1561 H
              have c1561b0 : decide (4096 < a1548) = false := decide_eq_false c1561
              clear c1561
              by_cases c1563 : a1549 < 1
              · have H := if_yes c1563 H
                have c1563b0 : decide (a1549 < 1) = true := decide_eq_true c1563
                clear c1563
                go_wp2_with (first | ((with_reducible refine gate_dst (N := 1) rfl ?_); refine box_on ?hg (N := 1) ?hd (cs := #[.int .i64 a1546, .int .i64 a1547, .int .i64 a1548, .int .i64 a1549]) (t := 49) ?hr ?_; (case hd => rfl); (case hg => rfl); (case hr => first | (go_simp; done) | (go_simp; rfl)); intro g1550 hg w1551 hbox hb; replace HS : Aside0 (Sep (fps []) w [b1 g1550 a1546 a1547 a1548 a1549] w1551) := ⟨HS.out.box hg hbox hb⟩; clear hg hbox hb; have hc1553 : w1551.cell? ⟨g1550, 0, none⟩ = some (.int .i64 a1546) := blk_cellv (HS.out.at0) 0 rfl; have hc1556 : w1551.cell? ⟨g1550, 1, none⟩ = some (.int .i64 a1547) := blk_cellv (HS.out.at0) 1 rfl; have hc1559 : w1551.cell? ⟨g1550, 2, none⟩ = some (.int .i64 a1548) := blk_cellv (HS.out.at0) 2 rfl; have hc1562 : w1551.cell? ⟨g1550, 3, none⟩ = some (.int .i64 a1549) := blk_cellv (HS.out.at0) 3 rfl; replace HS : Aside0 (Sep (fps []) w [] w1551) := ⟨HS.out.sub (.cons _ .slnil)⟩))
                clear hc1553 hc1556 hc1559 hc1562
                go_ret
                rw [← some_eq H]
                exact ⟨(by first | rfl | (simp [IntKind.wrap_u32]; done)), (HS.out).keep (l := []) (rest := [])⟩
              · have H := if_no c1563 H
                have c1563b0 : decide (a1549 < 1) = false := decide_eq_false c1563
                clear c1563
                by_cases c1564 : a1549 > 65536
                · have H := if_yes c1564 H
                  have c1564b0 : decide (65536 < a1549) = true := decide_eq_true c1564
                  clear c1564
                  go_wp2_with (first | ((with_reducible refine gate_dst (N := 1) rfl ?_); refine box_on ?hg (N := 1) ?hd (cs := #[.int .i64 a1546, .int .i64 a1547, .int .i64 a1548, .int .i64 a1549]) (t := 49) ?hr ?_; (case hd => rfl); (case hg => rfl); (case hr => first | (go_simp; done) | (go_simp; rfl)); intro g1550 hg w1551 hbox hb; replace HS : Aside0 (Sep (fps []) w [b1 g1550 a1546 a1547 a1548 a1549] w1551) := ⟨HS.out.box hg hbox hb⟩; clear hg hbox hb; have hc1553 : w1551.cell? ⟨g1550, 0, none⟩ = some (.int .i64 a1546) := blk_cellv (HS.out.at0) 0 rfl; have hc1556 : w1551.cell? ⟨g1550, 1, none⟩ = some (.int .i64 a1547) := blk_cellv (HS.out.at0) 1 rfl; have hc1559 : w1551.cell? ⟨g1550, 2, none⟩ = some (.int .i64 a1548) := blk_cellv (HS.out.at0) 2 rfl; have hc1562 : w1551.cell? ⟨g1550, 3, none⟩ = some (.int .i64 a1549) := blk_cellv (HS.out.at0) 3 rfl; replace HS : Aside0 (Sep (fps []) w [] w1551) := ⟨HS.out.sub (.cons _ .slnil)⟩))
                  clear hc1553 hc1556 hc1559 hc1562
                  go_ret
                  rw [← some_eq H]
                  exact ⟨(by first | rfl | (simp [IntKind.wrap_u32]; done)), (HS.out).keep (l := []) (rest := [])⟩
                · have H := if_no c1564 H
                  have c1564b0 : decide (65536 < a1549) = false := decide_eq_false c1564
                  clear c1564
                  go_wp2_with (first | ((with_reducible refine gate_dst (N := 1) rfl ?_); refine box_on ?hg (N := 1) ?hd (cs := #[.int .i64 a1546, .int .i64 a1547, .int .i64 a1548, .int .i64 a1549]) (t := 49) ?hr ?_; (case hd => rfl); (case hg => rfl); (case hr => first | (go_simp; done) | (go_simp; rfl)); intro g1550 hg w1551 hbox hb; replace HS : Aside0 (Sep (fps []) w [b1 g1550 a1546 a1547 a1548 a1549] w1551) := ⟨HS.out.box hg hbox hb⟩; clear hg hbox hb; have hc1553 : w1551.cell? ⟨g1550, 0, none⟩ = some (.int .i64 a1546) := blk_cellv (HS.out.at0) 0 rfl; have hc1556 : w1551.cell? ⟨g1550, 1, none⟩ = some (.int .i64 a1547) := blk_cellv (HS.out.at0) 1 rfl; have hc1559 : w1551.cell? ⟨g1550, 2, none⟩ = some (.int .i64 a1548) := blk_cellv (HS.out.at0) 2 rfl; have hc1562 : w1551.cell? ⟨g1550, 3, none⟩ = some (.int .i64 a1549) := blk_cellv (HS.out.at0) 3 rfl; replace HS : Aside0 (Sep (fps []) w [] w1551) := ⟨HS.out.sub (.cons _ .slnil)⟩))
                  clear hc1553 hc1556 hc1559 hc1562
                  go_ret
                  rw [← some_eq H]
                  exact ⟨(by first | rfl | (simp [IntKind.wrap_u32]; done)), (HS.out).keep (l := []) (rest := [])⟩

set_option maxHeartbeats 30000000 in
set_option maxRecDepth 100000 in
theorem quitrentref05_Little.calls (a1586 : Int) (a1587 : Int) (a1588 : Int) (a1589 : Int) (r : Bool) (w : World)   (HS : Aside0 (Sep (fps []) w [] w)) (H : Aside0 (quitrentref05_Little.f a1586 a1587 a1588 a1589 = some r)) :
    Calls Try.prog 32 #[.agg #[.int .i64 a1586, .int .i64 a1587, .int .i64 a1588, .int .i64 a1589]] w fun e w' => e = .returned (.bool r) ∧ Sep (fps []) w [] w' := by
  unfold quitrentref05_Little.f at H
  go_enter Try.func32, Try.ntmps32
  by_cases c1594 : a1586 ≤ 300
  · have H := if_yes c1594 H
    have c1594b0 : decide (a1586 ≤ 300) = true := decide_eq_true c1594
    clear c1594
    by_cases c1596 : a1587 ≤ 64
    · have H := if_yes c1596 H
      have c1596b0 : decide (a1587 ≤ 64) = true := decide_eq_true c1596
      clear c1596
      go_wp2_with (first | ((with_reducible refine gate_dst (N := 1) rfl ?_); refine box_on ?hg (N := 1) ?hd (cs := #[.int .i64 a1586, .int .i64 a1587, .int .i64 a1588, .int .i64 a1589]) (t := 49) ?hr ?_; (case hd => rfl); (case hg => rfl); (case hr => first | (go_simp; done) | (go_simp; rfl)); intro g1590 hg w1591 hbox hb; replace HS : Aside0 (Sep (fps []) w [b1 g1590 a1586 a1587 a1588 a1589] w1591) := ⟨HS.out.box hg hbox hb⟩; clear hg hbox hb; have hc1593 : w1591.cell? ⟨g1590, 0, none⟩ = some (.int .i64 a1586) := blk_cellv (HS.out.at0) 0 rfl; have hc1595 : w1591.cell? ⟨g1590, 1, none⟩ = some (.int .i64 a1587) := blk_cellv (HS.out.at0) 1 rfl; have hc1597 : w1591.cell? ⟨g1590, 2, none⟩ = some (.int .i64 a1588) := blk_cellv (HS.out.at0) 2 rfl; replace HS : Aside0 (Sep (fps []) w [] w1591) := ⟨HS.out.sub (.cons _ .slnil)⟩))
      clear hc1593 hc1595 hc1597
      go_ret
      rw [← some_eq H]
      exact ⟨(by first | rfl | (simp [IntKind.wrap_u32]; done)), (HS.out).keep (l := []) (rest := [])⟩
    · have H := if_no c1596 H
      have c1596b0 : decide (a1587 ≤ 64) = false := decide_eq_false c1596
      clear c1596
      go_wp2_with (first | ((with_reducible refine gate_dst (N := 1) rfl ?_); refine box_on ?hg (N := 1) ?hd (cs := #[.int .i64 a1586, .int .i64 a1587, .int .i64 a1588, .int .i64 a1589]) (t := 49) ?hr ?_; (case hd => rfl); (case hg => rfl); (case hr => first | (go_simp; done) | (go_simp; rfl)); intro g1590 hg w1591 hbox hb; replace HS : Aside0 (Sep (fps []) w [b1 g1590 a1586 a1587 a1588 a1589] w1591) := ⟨HS.out.box hg hbox hb⟩; clear hg hbox hb; have hc1593 : w1591.cell? ⟨g1590, 0, none⟩ = some (.int .i64 a1586) := blk_cellv (HS.out.at0) 0 rfl; have hc1595 : w1591.cell? ⟨g1590, 1, none⟩ = some (.int .i64 a1587) := blk_cellv (HS.out.at0) 1 rfl; replace HS : Aside0 (Sep (fps []) w [] w1591) := ⟨HS.out.sub (.cons _ .slnil)⟩))
      clear hc1593 hc1595
      go_ret
      rw [← some_eq H]
      exact ⟨(by first | rfl | (simp [IntKind.wrap_u32]; done)), (HS.out).keep (l := []) (rest := [])⟩
  · have H := if_no c1594 H
    have c1594b0 : decide (a1586 ≤ 300) = false := decide_eq_false c1594
    clear c1594
    go_wp2_with (first | ((with_reducible refine gate_dst (N := 1) rfl ?_); refine box_on ?hg (N := 1) ?hd (cs := #[.int .i64 a1586, .int .i64 a1587, .int .i64 a1588, .int .i64 a1589]) (t := 49) ?hr ?_; (case hd => rfl); (case hg => rfl); (case hr => first | (go_simp; done) | (go_simp; rfl)); intro g1590 hg w1591 hbox hb; replace HS : Aside0 (Sep (fps []) w [b1 g1590 a1586 a1587 a1588 a1589] w1591) := ⟨HS.out.box hg hbox hb⟩; clear hg hbox hb; have hc1593 : w1591.cell? ⟨g1590, 0, none⟩ = some (.int .i64 a1586) := blk_cellv (HS.out.at0) 0 rfl; replace HS : Aside0 (Sep (fps []) w [] w1591) := ⟨HS.out.sub (.cons _ .slnil)⟩))
    clear hc1593
    go_ret
    rw [← some_eq H]
    exact ⟨(by first | rfl | (simp [IntKind.wrap_u32]; done)), (HS.out).keep (l := []) (rest := [])⟩

set_option maxHeartbeats 30000000 in
set_option maxRecDepth 100000 in
theorem store_Store_Load.calls (l1639 : List Int) (a1644 : Int) (l1645 : List Int) (g1637 : Nat) (A1640 : Option Addr) (m1641 : Nat) (n1642 : Nat) (A1646 : Option Addr) (n1647 : Nat) (r : Bool × List Int) (w : World) (HR1648 : Aside0 (Rd (Kd.int .u32) (fps [b6 g1637 A1640 m1641 n1642 a1644, r2 A1640 m1641 n1642 l1639]) w A1646 l1645.length l1645))  (HS : Aside0 (Sep (fps [b6 g1637 A1640 m1641 n1642 a1644, r2 A1640 m1641 n1642 l1639]) w [b6 g1637 A1640 m1641 n1642 a1644, r2 A1640 m1641 n1642 l1639] w)) (H : Aside0 (store_Store_Load.f l1639 a1644 l1645 = some r)) :
    Calls Try.prog 18 #[.pointer (some ⟨g1637, 0, none⟩), .slice A1646 l1645.length n1647] w fun e w' => e = .returned (.bool r.1) ∧ Sep (fps [b6 g1637 A1640 m1641 n1642 a1644, r2 A1640 m1641 n1642 l1639]) w [b6 g1637 A1640 m1641 n1642 a1644, r2 A1640 m1641 n1642 r.2] w' := by
  generalize (fps [b6 g1637 A1640 m1641 n1642 a1644, r2 A1640 m1641 n1642 l1639]) = FF at HS HR1648 ⊢
  obtain rfl := (row_len (HS.out.at1)).symm
  unfold store_Store_Load.f at H
  go_enter Try.func18, Try.ntmps18
  by_cases c1655 : (l1645.length : Int) = (l1639.length : Int)
  · have H := if_yes c1655 H
    have c1655b0 : ((l1645.length : Int) == (l1639.length : Int)) = true := beq_iff_eq.mpr c1655
    have c1655b1 : ((l1645.length : Int) != (l1639.length : Int)) = false := bne_eq_false_iff_eq.mpr c1655
    clear c1655
    obtain ⟨y1656, HA1657, H⟩ := bind_some H
    have hc1654 : w.cell? ⟨g1637, 0, none⟩ = some (.slice A1640 l1639.length n1642) := blk_cellv (HS.out.at0) 0 rfl
    go_wp2_with (first | ((with_reducible refine gate_dst (N := 22) rfl ?_); refine copy_event (l1 := [b6 g1637 A1640 l1639.length n1642 a1644]) (l2 := []) rfl (.tmp 20) (.tmp 21) 22 22 23 rfl Try.underlying22 (by kernel_rfl) (enc := Value.int .u32) (h1 := fun _ => rfl) 0 (.slice A1640 l1639.length n1642) l1639 l1645 A1646 l1645.length n1647 rfl rfl (Rd.read (fun _ _ _ _ h => h) HR1648.out HS.out.fr) HS.out HA1657 ?_; intro w1658 HS1; clear hc1654; replace HS : Aside0 (Sep FF w [b6 g1637 A1640 l1639.length n1642 a1644, r2 A1640 l1639.length n1642 y1656] w1658) := ⟨HS1⟩; clear HS1))
    go_ret
    rw [← some_eq H]
    exact ⟨(by first | rfl | (simp [IntKind.wrap_u32]; done)), (((HS.out).front 1 (by simp)).front 1 (by simp)).keep (l := [b6 g1637 A1640 l1639.length n1642 a1644, r2 A1640 l1639.length n1642 y1656]) (rest := [])⟩
  · have H := if_no c1655 H
    have c1655b0 : ((l1645.length : Int) == (l1639.length : Int)) = false := beq_eq_false_iff_ne.mpr c1655
    have c1655b1 : ((l1645.length : Int) != (l1639.length : Int)) = true := bne_iff_ne.mpr c1655
    clear c1655
    have hc1654 : w.cell? ⟨g1637, 0, none⟩ = some (.slice A1640 l1639.length n1642) := blk_cellv (HS.out.at0) 0 rfl
    go_wp2_with fail
    clear hc1654
    go_ret
    rw [← some_eq H]
    exact ⟨(by first | rfl | (simp [IntKind.wrap_u32]; done)), (((HS.out).front 1 (by simp)).front 1 (by simp)).keep (l := [b6 g1637 A1640 l1639.length n1642 a1644, r2 A1640 l1639.length n1642 l1639]) (rest := [])⟩

set_option maxHeartbeats 30000000 in
set_option maxRecDepth 100000 in
theorem ground_Ground_Load.calls (l1619 : List Int) (a1624 : Int) (a1625 : Int) (a1626 : Int) (a1627 : Int) (a1628 : Int) (l1629 : List Int) (g1615 : Nat) (g1617 : Nat) (A1620 : Option Addr) (m1621 : Nat) (n1622 : Nat) (A1630 : Option Addr) (n1631 : Nat) (r : Bool × List Int) (w : World) (HR1632 : Aside0 (Rd (Kd.int .u32) (fps [b7 g1615 g1617 a1625 a1626 a1627 a1628, b6 g1617 A1620 m1621 n1622 a1624, r2 A1620 m1621 n1622 l1619]) w A1630 l1629.length l1629))  (HS : Aside0 (Sep (fps [b7 g1615 g1617 a1625 a1626 a1627 a1628, b6 g1617 A1620 m1621 n1622 a1624, r2 A1620 m1621 n1622 l1619]) w [b7 g1615 g1617 a1625 a1626 a1627 a1628, b6 g1617 A1620 m1621 n1622 a1624, r2 A1620 m1621 n1622 l1619] w)) (H : Aside0 (ground_Ground_Load.f l1619 a1624 a1625 a1626 a1627 a1628 l1629 = some r)) :
    Calls Try.prog 34 #[.pointer (some ⟨g1615, 0, none⟩), .slice A1630 l1629.length n1631] w fun e w' => e = .returned (.bool r.1) ∧ Sep (fps [b7 g1615 g1617 a1625 a1626 a1627 a1628, b6 g1617 A1620 m1621 n1622 a1624, r2 A1620 m1621 n1622 l1619]) w [b7 g1615 g1617 a1625 a1626 a1627 a1628, b6 g1617 A1620 m1621 n1622 a1624, r2 A1620 m1621 n1622 r.2] w' := by
  generalize (fps [b7 g1615 g1617 a1625 a1626 a1627 a1628, b6 g1617 A1620 m1621 n1622 a1624, r2 A1620 m1621 n1622 l1619]) = FF at HS HR1632 ⊢
  obtain rfl := (row_len (HS.out.at2)).symm
  unfold ground_Ground_Load.f at H
  go_enter Try.func34, Try.ntmps34
  go_wp2_with fail
  obtain ⟨t1662, HA1663, H⟩ := bind_some H
  refine (ground_Ground_all.calls l1619 a1624 a1625 a1626 a1627 a1628 g1615 g1617 A1620 l1619.length n1622 t1662 _ ⟨HS.out.begin (l := [b7 g1615 g1617 a1625 a1626 a1627 a1628, b6 g1617 A1620 l1619.length n1622 a1624, r2 A1620 l1619.length n1622 l1619]) (rest := [])⟩ HA1663).mono ?_
  rintro e_ w1664 ⟨rfl, hS⟩
  replace HS : Aside0 (Sep FF w [b7 g1615 g1617 a1625 a1626 a1627 a1628, b6 g1617 A1620 l1619.length n1622 a1624, r2 A1620 l1619.length n1622 l1619] w1664) := ⟨HS.out.call (l := [b7 g1615 g1617 a1625 a1626 a1627 a1628, b6 g1617 A1620 l1619.length n1622 a1624, r2 A1620 l1619.length n1622 l1619]) (rest := []) hS⟩
  clear hS
  go_wp2_with fail
  replace HS : Aside0 (Sep FF w [r2 A1620 l1619.length n1622 l1619, b7 g1615 g1617 a1625 a1626 a1627 a1628, b6 g1617 A1620 l1619.length n1622 a1624] w1664) := ⟨HS.out.front 2 (by simp)⟩
  replace HS : Aside0 (Sep FF w [b6 g1617 A1620 l1619.length n1622 a1624, r2 A1620 l1619.length n1622 l1619, b7 g1615 g1617 a1625 a1626 a1627 a1628] w1664) := ⟨HS.out.front 2 (by simp)⟩
  obtain ⟨t1665, HA1666, H⟩ := bind_some H
  refine (store_Store_Load.calls l1619 a1624 l1629 g1617 A1620 l1619.length n1622 A1630 n1631 t1665 _ ⟨Rd.pass (l := [b6 g1617 A1620 l1619.length n1622 a1624, r2 A1620 l1619.length n1622 l1619]) (rest := [b7 g1615 g1617 a1625 a1626 a1627 a1628]) (by decide) (fun _ _ _ _ h => h) HR1632.out HS.out⟩ ⟨HS.out.begin (l := [b6 g1617 A1620 l1619.length n1622 a1624, r2 A1620 l1619.length n1622 l1619]) (rest := [b7 g1615 g1617 a1625 a1626 a1627 a1628])⟩ HA1666).mono ?_
  rintro e_ w1667 ⟨rfl, hS⟩
  replace HS : Aside0 (Sep FF w [b6 g1617 A1620 l1619.length n1622 a1624, r2 A1620 l1619.length n1622 t1665.2, b7 g1615 g1617 a1625 a1626 a1627 a1628] w1667) := ⟨HS.out.call (l := [b6 g1617 A1620 l1619.length n1622 a1624, r2 A1620 l1619.length n1622 l1619]) (rest := [b7 g1615 g1617 a1625 a1626 a1627 a1628]) hS⟩
  clear hS
  go_wp2_with fail
  go_ret
  rw [← some_eq H]
  exact ⟨(by first | rfl | (simp [IntKind.wrap_u32]; done)), ((((HS.out).front 1 (by simp)).front 1 (by simp)).front 2 (by simp)).keep (l := [b7 g1615 g1617 a1625 a1626 a1627 a1628, b6 g1617 A1620 l1619.length n1622 a1624, r2 A1620 l1619.length n1622 t1665.2]) (rest := [])⟩

set_option maxHeartbeats 30000000 in
set_option maxRecDepth 100000 in
theorem quitrentref01_Same.calls (k : Nat) (l1681 : List Int) (l1685 : List Int) (A1682 : Option Addr) (n1683 : Nat) (A1686 : Option Addr) (n1687 : Nat) (r : Bool) (w : World) (HR1684 : Aside0 (Rd (Kd.int .u32) (fps []) w A1682 l1681.length l1681)) (HR1688 : Aside0 (Rd (Kd.int .u32) (fps []) w A1686 l1685.length l1685))  (HS : Aside0 (Sep (fps []) w [] w)) (H : Aside0 (quitrentref01_Same.f k l1681 l1685 = some r)) :
    Calls Try.prog 23 #[.slice A1682 l1681.length n1683, .slice A1686 l1685.length n1687] w fun e w' => e = .returned (.bool r) ∧ Sep (fps []) w [] w' := by
  unfold quitrentref01_Same.f at H
  go_enter Try.func23, Try.ntmps23
  by_cases c1689 : (l1681.length : Int) = (l1685.length : Int)
  · have H := if_yes c1689 H
    have c1689b0 : ((l1681.length : Int) == (l1685.length : Int)) = true := beq_iff_eq.mpr c1689
    have c1689b1 : ((l1681.length : Int) != (l1685.length : Int)) = false := bne_eq_false_iff_eq.mpr c1689
    clear c1689
    go_wp2_with fail
    obtain ⟨o1705, AL1706, H⟩ := bind_some H
    go_loopg [5] k (fun kq v5 wc => ∃ (x1709 : Int), v5 = .int .i64 x1709 ∧ Aside0 (quitrentref01_Same.lo0 kq l1681 l1685 x1709 = some o1705) ∧ Aside0 (Sep (fps []) w [] wc))
    case atStart => exact ⟨(0), (by first | rfl | (simp [IntKind.wrap_u32]; done)), AL1706, ⟨HS.out⟩⟩
    case round =>
      clear AL1706 HS
      obtain ⟨x1709, rfl, AL1706, HS⟩ := hrel
      obtain ⟨w1707, rfl⟩ : ∃ x : World, x = wr := ⟨_, rfl⟩
      cases gk with
      | zero => exact absurd AL1706.out (by simp [quitrentref01_Same.lo0])
      | succ k1708 =>
        have AL0 := AL1706.out
        rw [quitrentref01_Same.lo0] at AL0
        clear AL1706
        have AL1706 := Aside0.mk AL0
        clear AL0
        by_cases c1710 : x1709 < (l1681.length : Int)
        · have AL1706 := if_yes c1710 AL1706
          have c1710b0 : decide (x1709 < (l1681.length : Int)) = true := decide_eq_true c1710
          clear c1710
          go_wp2_with fail
          refine start_ (n := 9) (S := (fun w' => Kd.C (Kd.int .u32) w' A1682 l1681.length l1681 ∧ Kd.C (Kd.int .u32) w' A1686 l1685.length l1685)) (ds := []) #[false, false, false, false, false, false, false, false, false] (by kernel_rfl) rfl rfl (⟨Rd.read (fun _ _ _ _ h => h) HR1684.out (HS.out.drew).fr, Rd.read (fun _ _ _ _ h => h) HR1688.out (HS.out.drew).fr⟩) (fun hHeld => ?_)
          have HS_ := Aside0.mk HS.out.drew
          clear HS
          generalize World.drew _ = w1712 at HS_ hHeld ⊢
          have HS := HS_
          clear HS_
          refine pure_ (i := 0) (N := some 17) (v := ?_) (a' := ?_) #[true, false, false, false, false, false, false, false, false] rfl rfl (by kernel_rfl) (fun _ _ _ h => h) (Or.inl ⟨by rfl, ?_⟩) ?_ ?_
          rotate_left
          · intro w'
            go_simp
            with_reducible rfl
          rotate_left
          · simp only [Act.put, List.setIfInBounds_toArray, List.set_cons_zero, List.set_cons_succ, i64_w, i32_w]
            rfl
          refine pure_ (i := 1) (N := some 18) (v := ?_) (a' := ?_) #[true, true, false, false, false, false, false, false, false] rfl rfl (by kernel_rfl) (fun _ _ _ h => h) (Or.inl ⟨by rfl, ?_⟩) ?_ ?_
          rotate_left
          · intro w'
            go_simp
            with_reducible rfl
          rotate_left
          · simp only [Act.put, List.setIfInBounds_toArray, List.set_cons_zero, List.set_cons_succ, i64_w, i32_w]
            rfl
          by_cases c1713 : 0 ≤ x1709
          · have AL1706 := if_yes c1713 AL1706
            have c1713b0 : decide (0 ≤ x1709) = true := decide_eq_true c1713
            have c1713p : (0 ≤ x1709) = True := eq_true c1713
            clear c1713
            have ip1714 : (x1709 < (l1681.length : Int)) = True := eq_true (of_decide_eq_true c1710b0)
            obtain ⟨ad1715, ea, _⟩ := Kd.at_int (Rd.read (fun _ _ _ _ h => h) HR1684.out HS.out.fr) x1709 (of_decide_eq_true c1713b0) (of_decide_eq_true c1710b0)
            cases ea
            refine pure_ (i := 2) (N := some 19) (v := ?_) (a' := ?_) #[true, true, true, false, false, false, false, false, false] rfl rfl (by kernel_rfl) (fun _ _ _ h => h) (Or.inl ⟨by rfl, ?_⟩) ?_ ?_
            rotate_left
            · intro w'
              go_simp
              with_reducible rfl
            rotate_left
            · simp only [Act.put, List.setIfInBounds_toArray, List.set_cons_zero, List.set_cons_succ, i64_w, i32_w]
              rfl
            refine pure_ (i := 4) (N := some 21) (v := ?_) (a' := ?_) #[true, true, true, false, true, false, false, false, false] rfl rfl (by kernel_rfl) (fun _ _ _ h => h) (Or.inl ⟨by rfl, ?_⟩) ?_ ?_
            rotate_left
            · intro w'
              go_simp
              with_reducible rfl
            rotate_left
            · simp only [Act.put, List.setIfInBounds_toArray, List.set_cons_zero, List.set_cons_succ, i64_w, i32_w]
              rfl
            refine pure_ (i := 5) (N := some 22) (v := ?_) (a' := ?_) #[true, true, true, false, true, true, false, false, false] rfl rfl (by kernel_rfl) (fun _ _ _ h => h) (Or.inl ⟨by rfl, ?_⟩) ?_ ?_
            rotate_left
            · intro w'
              go_simp
              with_reducible rfl
            rotate_left
            · simp only [Act.put, List.setIfInBounds_toArray, List.set_cons_zero, List.set_cons_succ, i64_w, i32_w]
              rfl
            by_cases c1716 : x1709 < (l1685.length : Int)
            · have AL1706 := if_yes c1716 AL1706
              have c1716b0 : decide (x1709 < (l1685.length : Int)) = true := decide_eq_true c1716
              have c1716p : (x1709 < (l1685.length : Int)) = True := eq_true c1716
              clear c1716
              obtain ⟨ad1717, ea, _⟩ := Kd.at_int (Rd.read (fun _ _ _ _ h => h) HR1688.out HS.out.fr) x1709 (of_decide_eq_true c1713b0) (of_decide_eq_true c1716b0)
              cases ea
              refine pure_ (i := 6) (N := some 23) (v := ?_) (a' := ?_) #[true, true, true, false, true, true, true, false, false] rfl rfl (by kernel_rfl) (fun _ _ _ h => h) (Or.inl ⟨by rfl, ?_⟩) ?_ ?_
              rotate_left
              · intro w'
                go_simp
                with_reducible rfl
              rotate_left
              · simp only [Act.put, List.setIfInBounds_toArray, List.set_cons_zero, List.set_cons_succ, i64_w, i32_w]
                rfl
              refine take_ (i := 3) (N := some 20) (v := ?_) (a' := ?_) #[true, true, true, true, true, true, true, false, false] rfl rfl (by kernel_rfl) (fun _ _ _ h => h) (Or.inl ⟨by rfl, ?_⟩) hHeld ?_ ?_
              rotate_left
              · rintro w' hS'
                obtain ⟨s0, s1⟩ := hS'
                have hx := C_at_int s0 x1709 (of_decide_eq_true c1713b0) (of_decide_eq_true c1710b0)
                go_simp
                with_reducible rfl
              rotate_left
              · simp only [Act.put, List.setIfInBounds_toArray, List.set_cons_zero, List.set_cons_succ, i64_w, i32_w]
                rfl
              refine take_ (i := 7) (N := some 24) (v := ?_) (a' := ?_) #[true, true, true, true, true, true, true, true, false] rfl rfl (by kernel_rfl) (fun _ _ _ h => h) (Or.inl ⟨by rfl, ?_⟩) hHeld ?_ ?_
              rotate_left
              · rintro w' hS'
                obtain ⟨s0, s1⟩ := hS'
                have hx := C_at_int s1 x1709 (of_decide_eq_true c1713b0) (of_decide_eq_true c1716b0)
                go_simp
                with_reducible rfl
              rotate_left
              · simp only [Act.put, List.setIfInBounds_toArray, List.set_cons_zero, List.set_cons_succ, i64_w, i32_w]
                rfl
              refine pure_ (i := 8) (N := some 25) (v := ?_) (a' := ?_) #[true, true, true, true, true, true, true, true, true] rfl rfl (by kernel_rfl) (fun _ _ _ h => h) (Or.inl ⟨by rfl, ?_⟩) ?_ ?_
              rotate_left
              · intro w'
                go_simp
                with_reducible rfl
              rotate_left
              · simp only [Act.put, List.setIfInBounds_toArray, List.set_cons_zero, List.set_cons_succ, i64_w, i32_w]
                rfl
              refine done_ (by kernel_rfl) ?_
              by_cases c1718 : (rd l1681 x1709) = (rd l1685 x1709)
              · have AL1706 := if_yes c1718 AL1706
                have c1718b0 : ((rd l1681 x1709) == (rd l1685 x1709)) = true := beq_iff_eq.mpr c1718
                have c1718b1 : ((rd l1681 x1709) != (rd l1685 x1709)) = false := bne_eq_false_iff_eq.mpr c1718
                clear c1718
                go_wp2_with fail
                go_roundg k1708
                case measure => exact Nat.lt_succ_self _
                case rel => exact ⟨(wrap64 (x1709 + 1)), (by first | rfl | (simp [IntKind.wrap_u32]; done)), Aside0.mk AL1706.out, ⟨(HS.out).keep (l := []) (rest := [])⟩⟩
              · have AL1706 := if_no c1718 AL1706
                have c1718b0 : ((rd l1681 x1709) == (rd l1685 x1709)) = false := beq_eq_false_iff_ne.mpr c1718
                have c1718b1 : ((rd l1681 x1709) != (rd l1685 x1709)) = true := bne_iff_ne.mpr c1718
                clear c1718
                go_wp2_with fail
                have ho := some_eq AL1706
                subst ho
                have H := lp_ret H
                go_ret
                rw [← some_eq H]
                exact ⟨(by first | rfl | (simp [IntKind.wrap_u32]; done)), (HS.out).keep (l := []) (rest := [])⟩
            · have AL1706 := if_no c1716 AL1706
              have c1716b0 : decide (x1709 < (l1685.length : Int)) = false := decide_eq_false c1716
              clear c1716
              exact (none_no AL1706).elim
          · have AL1706 := if_no c1713 AL1706
            have c1713b0 : decide (0 ≤ x1709) = false := decide_eq_false c1713
            clear c1713
            exact (none_no AL1706).elim
        · have AL1706 := if_no c1710 AL1706
          have c1710b0 : decide (x1709 < (l1681.length : Int)) = false := decide_eq_false c1710
          clear c1710
          have ho := some_eq AL1706
          subst ho
          clear AL1706
          have H := lp_out H
          go_wp2_with fail
          go_ret
          rw [← some_eq H]
          exact ⟨(by first | rfl | (simp [IntKind.wrap_u32]; done)), (HS.out).keep (l := []) (rest := [])⟩
  · have H := if_no c1689 H
    have c1689b0 : ((l1681.length : Int) == (l1685.length : Int)) = false := beq_eq_false_iff_ne.mpr c1689
    have c1689b1 : ((l1681.length : Int) != (l1685.length : Int)) = true := bne_iff_ne.mpr c1689
    clear c1689
    go_wp2_with fail
    go_ret
    rw [← some_eq H]
    exact ⟨(by first | rfl | (simp [IntKind.wrap_u32]; done)), (HS.out).keep (l := []) (rest := [])⟩

set_option maxHeartbeats 30000000 in
set_option maxRecDepth 100000 in
theorem store_Store_Get.calls (l1764 : List Int) (a1769 : Int) (a1770 : Int) (g1762 : Nat) (A1765 : Option Addr) (m1766 : Nat) (n1767 : Nat) (r : Int × Int) (w : World)   (HS : Aside0 (Sep (fps [b6 g1762 A1765 m1766 n1767 a1769, r2 A1765 m1766 n1767 l1764]) w [b6 g1762 A1765 m1766 n1767 a1769, r2 A1765 m1766 n1767 l1764] w)) (H : Aside0 (store_Store_Get.f l1764 a1769 a1770 = some r)) :
    Calls Try.prog 25 #[.pointer (some ⟨g1762, 0, none⟩), .int .i64 a1770] w fun e w' => e = .returned (.int .u32 r.1) ∧ Sep (fps [b6 g1762 A1765 m1766 n1767 a1769, r2 A1765 m1766 n1767 l1764]) w [b6 g1762 A1765 m1766 n1767 r.2, r2 A1765 m1766 n1767 l1764] w' := by
  generalize (fps [b6 g1762 A1765 m1766 n1767 a1769, r2 A1765 m1766 n1767 l1764]) = FF at HS ⊢
  obtain rfl := (row_len (HS.out.at1)).symm
  unfold store_Store_Get.f at H
  go_enter Try.func25, Try.ntmps25
  go_wp2_with fail
  obtain ⟨t1784, HA1785, H⟩ := bind_some H
  refine (store_Store_has.calls l1764 a1769 a1770 g1762 A1765 l1764.length n1767 t1784 _ ⟨HS.out.begin (l := [b6 g1762 A1765 l1764.length n1767 a1769, r2 A1765 l1764.length n1767 l1764]) (rest := [])⟩ HA1785).mono ?_
  rintro e_ w1786 ⟨rfl, hS⟩
  replace HS : Aside0 (Sep FF w [b6 g1762 A1765 l1764.length n1767 a1769, r2 A1765 l1764.length n1767 l1764] w1786) := ⟨HS.out.call (l := [b6 g1762 A1765 l1764.length n1767 a1769, r2 A1765 l1764.length n1767 l1764]) (rest := []) hS⟩
  clear hS
  by_cases c1787 : t1784 = true
  · have H := if_yes c1787 H
    have c1787b0 : t1784 = true := c1787
    have c1787b1 : (!t1784) = false := by rw [c1787b0]; rfl
    try rw [c1787b1]
    clear c1787
    go_wp2_with fail
    obtain ⟨t1788, HA1789, H⟩ := bind_some H
    refine (atomic_Uint64_Add.calls l1764 a1769 1 g1762 A1765 l1764.length n1767 t1788 _ ⟨HS.out.begin (l := [b6 g1762 A1765 l1764.length n1767 a1769, r2 A1765 l1764.length n1767 l1764]) (rest := [])⟩ HA1789).mono ?_
    rintro e_ w1790 ⟨rfl, hS⟩
    replace HS : Aside0 (Sep FF w [b6 g1762 A1765 l1764.length n1767 t1788.2, r2 A1765 l1764.length n1767 l1764] w1790) := ⟨HS.out.call (l := [b6 g1762 A1765 l1764.length n1767 a1769, r2 A1765 l1764.length n1767 l1764]) (rest := []) hS⟩
    clear hS
    by_cases c1792 : 0 ≤ a1770
    · have H := if_yes c1792 H
      have c1792b0 : decide (0 ≤ a1770) = true := decide_eq_true c1792
      have c1792p : (0 ≤ a1770) = True := eq_true c1792
      clear c1792
      by_cases c1793 : a1770 < (l1764.length : Int)
      · have H := if_yes c1793 H
        have c1793b0 : decide (a1770 < (l1764.length : Int)) = true := decide_eq_true c1793
        have c1793p : (a1770 < (l1764.length : Int)) = True := eq_true c1793
        clear c1793
        have hc1791 : w1790.cell? ⟨g1762, 0, none⟩ = some (.slice A1765 l1764.length n1767) := blk_cellv (HS.out.at0) 0 rfl
        obtain ⟨g1794, ea⟩ := row_at (HS.out.at1) (by have := (of_decide_eq_true c1792b0); have := (of_decide_eq_true c1793b0); omega); cases ea
        have hx1795 := C_at_int (row_Ci (HS.out.at1)) a1770 (of_decide_eq_true c1792b0) (of_decide_eq_true c1793b0)
        have hx1796 : w1790.cell? ⟨g1794, (a1770).toNat, none⟩ = some (.int .u32 (rd l1764 a1770)) := (row_get 0 (HS.out.at1) a1770 (of_decide_eq_true c1792b0) (of_decide_eq_true c1793b0)).1
        go_wp2_with fail
        clear hc1791 hx1795 hx1796
        go_ret
        rw [← some_eq H]
        exact ⟨(by first | rfl | (simp [IntKind.wrap_u32]; done)), (((HS.out).front 1 (by simp)).front 1 (by simp)).keep (l := [b6 g1762 (some ⟨g1794, 0, none⟩) l1764.length n1767 t1788.2, r2 (some ⟨g1794, 0, none⟩) l1764.length n1767 l1764]) (rest := [])⟩
      · have H := if_no c1793 H
        have c1793b0 : decide (a1770 < (l1764.length : Int)) = false := decide_eq_false c1793
        clear c1793
        exact (none_no H).elim
    · have H := if_no c1792 H
      have c1792b0 : decide (0 ≤ a1770) = false := decide_eq_false c1792
      clear c1792
      exact (none_no H).elim
  · have H := if_no c1787 H
    have c1787b0 : t1784 = false := by simpa using c1787
    have c1787b1 : (!t1784) = true := by rw [c1787b0]; rfl
    try rw [c1787b1]
    clear c1787
    go_wp2_with fail
    go_ret
    rw [← some_eq H]
    exact ⟨(by first | rfl | (simp [IntKind.wrap_u32]; done)), (((HS.out).front 1 (by simp)).front 1 (by simp)).keep (l := [b6 g1762 A1765 l1764.length n1767 a1769, r2 A1765 l1764.length n1767 l1764]) (rest := [])⟩

set_option maxHeartbeats 30000000 in
set_option maxRecDepth 100000 in
theorem ground_Ground_Reg.calls (l1744 : List Int) (a1749 : Int) (a1750 : Int) (a1751 : Int) (a1752 : Int) (a1753 : Int) (a1754 : Int) (g1740 : Nat) (g1742 : Nat) (A1745 : Option Addr) (m1746 : Nat) (n1747 : Nat) (r : Int × Int) (w : World)   (HS : Aside0 (Sep (fps [b7 g1740 g1742 a1750 a1751 a1752 a1753, b6 g1742 A1745 m1746 n1747 a1749, r2 A1745 m1746 n1747 l1744]) w [b7 g1740 g1742 a1750 a1751 a1752 a1753, b6 g1742 A1745 m1746 n1747 a1749, r2 A1745 m1746 n1747 l1744] w)) (H : Aside0 (ground_Ground_Reg.f l1744 a1749 a1750 a1751 a1752 a1753 a1754 = some r)) :
    Calls Try.prog 36 #[.pointer (some ⟨g1740, 0, none⟩), .int .i64 a1754] w fun e w' => e = .returned (.int .i64 r.1) ∧ Sep (fps [b7 g1740 g1742 a1750 a1751 a1752 a1753, b6 g1742 A1745 m1746 n1747 a1749, r2 A1745 m1746 n1747 l1744]) w [b7 g1740 g1742 a1750 a1751 a1752 a1753, b6 g1742 A1745 m1746 n1747 r.2, r2 A1745 m1746 n1747 l1744] w' := by
  generalize (fps [b7 g1740 g1742 a1750 a1751 a1752 a1753, b6 g1742 A1745 m1746 n1747 a1749, r2 A1745 m1746 n1747 l1744]) = FF at HS ⊢
  obtain rfl := (row_len (HS.out.at2)).symm
  unfold ground_Ground_Reg.f at H
  go_enter Try.func36, Try.ntmps36
  go_wp2_with fail
  obtain ⟨t1800, HA1801, H⟩ := bind_some H
  refine (ground_Ground_all.calls l1744 a1749 a1750 a1751 a1752 a1753 g1740 g1742 A1745 l1744.length n1747 t1800 _ ⟨HS.out.begin (l := [b7 g1740 g1742 a1750 a1751 a1752 a1753, b6 g1742 A1745 l1744.length n1747 a1749, r2 A1745 l1744.length n1747 l1744]) (rest := [])⟩ HA1801).mono ?_
  rintro e_ w1802 ⟨rfl, hS⟩
  replace HS : Aside0 (Sep FF w [b7 g1740 g1742 a1750 a1751 a1752 a1753, b6 g1742 A1745 l1744.length n1747 a1749, r2 A1745 l1744.length n1747 l1744] w1802) := ⟨HS.out.call (l := [b7 g1740 g1742 a1750 a1751 a1752 a1753, b6 g1742 A1745 l1744.length n1747 a1749, r2 A1745 l1744.length n1747 l1744]) (rest := []) hS⟩
  clear hS
  go_wp2_with fail
  obtain ⟨t1803, HA1804, H⟩ := bind_some H
  refine (ground_reg.calls a1754 t1803 _ ⟨HS.out.begin (l := []) (rest := [b7 g1740 g1742 a1750 a1751 a1752 a1753, b6 g1742 A1745 l1744.length n1747 a1749, r2 A1745 l1744.length n1747 l1744])⟩ HA1804).mono ?_
  rintro e_ w1805 ⟨rfl, hS⟩
  replace HS : Aside0 (Sep FF w [b7 g1740 g1742 a1750 a1751 a1752 a1753, b6 g1742 A1745 l1744.length n1747 a1749, r2 A1745 l1744.length n1747 l1744] w1805) := ⟨HS.out.call (l := []) (rest := [b7 g1740 g1742 a1750 a1751 a1752 a1753, b6 g1742 A1745 l1744.length n1747 a1749, r2 A1745 l1744.length n1747 l1744]) hS⟩
  clear hS
  go_wp2_with fail
  replace HS : Aside0 (Sep FF w [r2 A1745 l1744.length n1747 l1744, b7 g1740 g1742 a1750 a1751 a1752 a1753, b6 g1742 A1745 l1744.length n1747 a1749] w1805) := ⟨HS.out.front 2 (by simp)⟩
  replace HS : Aside0 (Sep FF w [b6 g1742 A1745 l1744.length n1747 a1749, r2 A1745 l1744.length n1747 l1744, b7 g1740 g1742 a1750 a1751 a1752 a1753] w1805) := ⟨HS.out.front 2 (by simp)⟩
  obtain ⟨t1806, HA1807, H⟩ := bind_some H
  refine (store_Store_Get.calls l1744 a1749 t1803 g1742 A1745 l1744.length n1747 t1806 _ ⟨HS.out.begin (l := [b6 g1742 A1745 l1744.length n1747 a1749, r2 A1745 l1744.length n1747 l1744]) (rest := [b7 g1740 g1742 a1750 a1751 a1752 a1753])⟩ HA1807).mono ?_
  rintro e_ w1808 ⟨rfl, hS⟩
  replace HS : Aside0 (Sep FF w [b6 g1742 A1745 l1744.length n1747 t1806.2, r2 A1745 l1744.length n1747 l1744, b7 g1740 g1742 a1750 a1751 a1752 a1753] w1808) := ⟨HS.out.call (l := [b6 g1742 A1745 l1744.length n1747 a1749, r2 A1745 l1744.length n1747 l1744]) (rest := [b7 g1740 g1742 a1750 a1751 a1752 a1753]) hS⟩
  clear hS
  go_wp2_with fail
  go_ret
  rw [← some_eq H]
  exact ⟨(by first | rfl | (simp [IntKind.wrap_u32]; done)), ((((HS.out).front 1 (by simp)).front 1 (by simp)).front 2 (by simp)).keep (l := [b7 g1740 g1742 a1750 a1751 a1752 a1753, b6 g1742 A1745 l1744.length n1747 t1806.2, r2 A1745 l1744.length n1747 l1744]) (rest := [])⟩

set_option maxHeartbeats 30000000 in
set_option maxRecDepth 100000 in
theorem quitrentlaw05_GroundLoads.calls (k : Nat) (a1520 : Int) (a1521 : Int) (a1522 : Int) (a1523 : Int) (l1524 : List Int) (a1528 : Int) (A1525 : Option Addr) (n1526 : Nat) (r : Bool) (w : World) (HR1527 : Aside0 (Rd (Kd.int .u32) (fps []) w A1525 l1524.length l1524))  (HS : Aside0 (Sep (fps []) w [] w)) (H : Aside0 (quitrentlaw05_GroundLoads.f k a1520 a1521 a1522 a1523 l1524 a1528 = some r)) :
    Calls Try.prog 7 #[.agg #[.int .i64 a1520, .int .i64 a1521, .int .i64 a1522, .int .i64 a1523], .slice A1525 l1524.length n1526, .int .i64 a1528] w fun e w' => e = .returned (.bool r) ∧ Sep (fps []) w [] w' := by
  unfold quitrentlaw05_GroundLoads.f at H
  go_enter Try.func7, Try.ntmps7
  go_wp2_with (first | ((with_reducible refine gate_dst (N := 3) rfl ?_); refine box_on ?hg (N := 3) ?hd (cs := #[.int .i64 a1520, .int .i64 a1521, .int .i64 a1522, .int .i64 a1523]) (t := 49) ?hr ?_; (case hd => rfl); (case hg => rfl); (case hr => first | (go_simp; done) | (go_simp; rfl)); intro g1529 hg w1530 hbox hb; replace HS : Aside0 (Sep (fps []) w [b1 g1529 a1520 a1521 a1522 a1523] w1530) := ⟨HS.out.box hg hbox hb⟩; clear hg hbox hb; have hc1532 : w1530.cell? ⟨g1529, 0, none⟩ = some (.int .i64 a1520) := blk_cellv (HS.out.at0) 0 rfl; have hc1533 : w1530.cell? ⟨g1529, 1, none⟩ = some (.int .i64 a1521) := blk_cellv (HS.out.at0) 1 rfl; have hc1534 : w1530.cell? ⟨g1529, 2, none⟩ = some (.int .i64 a1522) := blk_cellv (HS.out.at0) 2 rfl; have hc1535 : w1530.cell? ⟨g1529, 3, none⟩ = some (.int .i64 a1523) := blk_cellv (HS.out.at0) 3 rfl))
  clear hc1532 hc1533 hc1534 hc1535
  obtain ⟨t1536, HA1537, H⟩ := bind_some H
  rcases t1536 with t1538 | (t1539 | t1540)
  · have H := sum_l H
    refine (ground_New.calls _ a1520 a1521 a1522 a1523 (.inl t1538) _ ⟨HS.out.begin (l := []) (rest := [b1 g1529 a1520 a1521 a1522 a1523])⟩ HA1537).mono ?_
    rintro e_ w1541 ⟨rfl, hS⟩
    replace HS : Aside0 (Sep (fps []) w [b1 g1529 a1520 a1521 a1522 a1523] w1541) := ⟨HS.out.call (l := []) (rest := [b1 g1529 a1520 a1521 a1522 a1523]) hS⟩
    clear hS
    have hc1542 : w1541.cell? ⟨g1529, 0, none⟩ = some (.int .i64 a1520) := blk_cellv (HS.out.at0) 0 rfl
    have hc1543 : w1541.cell? ⟨g1529, 1, none⟩ = some (.int .i64 a1521) := blk_cellv (HS.out.at0) 1 rfl
    have hc1544 : w1541.cell? ⟨g1529, 2, none⟩ = some (.int .i64 a1522) := blk_cellv (HS.out.at0) 2 rfl
    have hc1545 : w1541.cell? ⟨g1529, 3, none⟩ = some (.int .i64 a1523) := blk_cellv (HS.out.at0) 3 rfl
    go_wp2_with fail
    clear hc1542 hc1543 hc1544 hc1545
    obtain ⟨t1565, HA1566, H⟩ := bind_some H
    refine (quitrentref03_May.calls a1520 a1521 a1522 a1523 t1565 _ ⟨HS.out.begin (l := []) (rest := [b1 g1529 a1520 a1521 a1522 a1523])⟩ HA1566).mono ?_
    rintro e_ w1567 ⟨rfl, hS⟩
    replace HS : Aside0 (Sep (fps []) w [b1 g1529 a1520 a1521 a1522 a1523] w1567) := ⟨HS.out.call (l := []) (rest := [b1 g1529 a1520 a1521 a1522 a1523]) hS⟩
    clear hS
    by_cases c1568 : t1565 = true
    · have H := if_yes c1568 H
      have c1568b0 : t1565 = true := c1568
      have c1568b1 : (!t1565) = false := by rw [c1568b0]; rfl
      try rw [c1568b1]
      clear c1568
      replace HS : Aside0 (Sep (fps []) w [] w1567) := ⟨HS.out.sub (.cons _ .slnil)⟩
      go_wp2_with fail
      go_ret
      rw [← some_eq H]
      exact ⟨(by first | rfl | (simp [IntKind.wrap_u32]; done)), (HS.out).keep (l := []) (rest := [])⟩
    · have H := if_no c1568 H
      have c1568b0 : t1565 = false := by simpa using c1568
      have c1568b1 : (!t1565) = true := by rw [c1568b0]; rfl
      try rw [c1568b1]
      clear c1568
      go_wp2_with fail
      obtain ⟨t1569, HA1570, H⟩ := bind_some H
      refine (quitrentlaw05_begun.calls _ t1569 _ ⟨HS.out.begin (l := []) (rest := [b1 g1529 a1520 a1521 a1522 a1523])⟩ HA1570).mono ?_
      rintro e_ w1571 ⟨rfl, hS⟩
      replace HS : Aside0 (Sep (fps []) w [b1 g1529 a1520 a1521 a1522 a1523] w1571) := ⟨HS.out.call (l := []) (rest := [b1 g1529 a1520 a1521 a1522 a1523]) hS⟩
      clear hS
      replace HS : Aside0 (Sep (fps []) w [] w1571) := ⟨HS.out.sub (.cons _ .slnil)⟩
      go_wp2_with fail
      go_ret
      rw [← some_eq H]
      exact ⟨(by first | rfl | (simp [IntKind.wrap_u32]; done)), (HS.out).keep (l := []) (rest := [])⟩
  · have H := sum_r H
    have H := sum_l H
    refine (ground_New.calls _ a1520 a1521 a1522 a1523 (.inr (.inl t1539)) _ ⟨HS.out.begin (l := []) (rest := [b1 g1529 a1520 a1521 a1522 a1523])⟩ HA1537).mono ?_
    rintro e_ w1572 ⟨g1576, rfl, g1577, A1578, m1579, n1580, hS⟩
    replace HS : Aside0 (Sep (fps []) w [b7 g1576 g1577 t1539.1 t1539.2.1 t1539.2.2.1 t1539.2.2.2.1, b6 g1577 A1578 m1579 n1580 0, r2 A1578 m1579 n1580 t1539.2.2.2.2, b1 g1529 a1520 a1521 a1522 a1523] w1572) := ⟨HS.out.call (l := []) (rest := [b1 g1529 a1520 a1521 a1522 a1523]) hS⟩
    clear hS
    obtain rfl := (row_len (HS.out.at2)).symm
    have hc1582 : w1572.cell? ⟨g1529, 0, none⟩ = some (.int .i64 a1520) := blk_cellv (HS.out.at3) 0 rfl
    have hc1583 : w1572.cell? ⟨g1529, 1, none⟩ = some (.int .i64 a1521) := blk_cellv (HS.out.at3) 1 rfl
    have hc1584 : w1572.cell? ⟨g1529, 2, none⟩ = some (.int .i64 a1522) := blk_cellv (HS.out.at3) 2 rfl
    have hc1585 : w1572.cell? ⟨g1529, 3, none⟩ = some (.int .i64 a1523) := blk_cellv (HS.out.at3) 3 rfl
    go_wp2_with fail
    clear hc1582 hc1583 hc1584 hc1585
    obtain ⟨t1598, HA1599, H⟩ := bind_some H
    refine (quitrentref05_Little.calls a1520 a1521 a1522 a1523 t1598 _ ⟨HS.out.begin (l := []) (rest := [b7 g1576 g1577 t1539.1 t1539.2.1 t1539.2.2.1 t1539.2.2.2.1, b6 g1577 A1578 ((t1539.2.2.2.2).length) n1580 0, r2 A1578 ((t1539.2.2.2.2).length) n1580 t1539.2.2.2.2, b1 g1529 a1520 a1521 a1522 a1523])⟩ HA1599).mono ?_
    rintro e_ w1600 ⟨rfl, hS⟩
    replace HS : Aside0 (Sep (fps []) w [b7 g1576 g1577 t1539.1 t1539.2.1 t1539.2.2.1 t1539.2.2.2.1, b6 g1577 A1578 ((t1539.2.2.2.2).length) n1580 0, r2 A1578 ((t1539.2.2.2.2).length) n1580 t1539.2.2.2.2, b1 g1529 a1520 a1521 a1522 a1523] w1600) := ⟨HS.out.call (l := []) (rest := [b7 g1576 g1577 t1539.1 t1539.2.1 t1539.2.2.1 t1539.2.2.2.1, b6 g1577 A1578 ((t1539.2.2.2.2).length) n1580 0, r2 A1578 ((t1539.2.2.2.2).length) n1580 t1539.2.2.2.2, b1 g1529 a1520 a1521 a1522 a1523]) hS⟩
    clear hS
    by_cases c1601 : t1598 = true
    · have H := if_yes c1601 H
      have c1601b0 : t1598 = true := c1601
      have c1601b1 : (!t1598) = false := by rw [c1601b0]; rfl
      try rw [c1601b1]
      clear c1601
      by_cases c1602 : (l1524.length : Int) > 30000
      · have H := if_yes c1602 H
        have c1602b0 : decide (30000 < (l1524.length : Int)) = true := decide_eq_true c1602
        have c1602b1 : decide (30000 < l1524.length) = true := decide_eq_true (by omega)
        clear c1602
        replace HS : Aside0 (Sep (fps []) w [b7 g1576 g1577 t1539.1 t1539.2.1 t1539.2.2.1 t1539.2.2.2.1, b6 g1577 A1578 ((t1539.2.2.2.2).length) n1580 0, r2 A1578 ((t1539.2.2.2.2).length) n1580 t1539.2.2.2.2] w1600) := ⟨HS.out.sub (.cons_cons _ (.cons_cons _ (.cons_cons _ (.cons _ .slnil))))⟩
        go_wp2_with fail
        obtain ⟨t1603, HA1604, H⟩ := bind_some H
        refine (quitrentlaw05_begun.calls _ t1603 _ ⟨HS.out.begin (l := []) (rest := [b7 g1576 g1577 t1539.1 t1539.2.1 t1539.2.2.1 t1539.2.2.2.1, b6 g1577 A1578 ((t1539.2.2.2.2).length) n1580 0, r2 A1578 ((t1539.2.2.2.2).length) n1580 t1539.2.2.2.2])⟩ HA1604).mono ?_
        rintro e_ w1605 ⟨rfl, hS⟩
        replace HS : Aside0 (Sep (fps []) w [b7 g1576 g1577 t1539.1 t1539.2.1 t1539.2.2.1 t1539.2.2.2.1, b6 g1577 A1578 ((t1539.2.2.2.2).length) n1580 0, r2 A1578 ((t1539.2.2.2.2).length) n1580 t1539.2.2.2.2] w1605) := ⟨HS.out.call (l := []) (rest := [b7 g1576 g1577 t1539.1 t1539.2.1 t1539.2.2.1 t1539.2.2.2.1, b6 g1577 A1578 ((t1539.2.2.2.2).length) n1580 0, r2 A1578 ((t1539.2.2.2.2).length) n1580 t1539.2.2.2.2]) hS⟩
        clear hS
        replace HS : Aside0 (Sep (fps []) w [] w1605) := ⟨HS.out.sub (.cons _ (.cons _ (.cons _ .slnil)))⟩
        go_wp2_with fail
        go_ret
        rw [← some_eq H]
        exact ⟨(by first | rfl | (simp [IntKind.wrap_u32]; done)), (HS.out).keep (l := []) (rest := [])⟩
      · have H := if_no c1602 H
        have c1602b0 : decide (30000 < (l1524.length : Int)) = false := decide_eq_false c1602
        have c1602b1 : decide (30000 < l1524.length) = false := decide_eq_false (by omega)
        clear c1602
        replace HS : Aside0 (Sep (fps []) w [b7 g1576 g1577 t1539.1 t1539.2.1 t1539.2.2.1 t1539.2.2.2.1, b6 g1577 A1578 ((t1539.2.2.2.2).length) n1580 0, r2 A1578 ((t1539.2.2.2.2).length) n1580 t1539.2.2.2.2] w1600) := ⟨HS.out.sub (.cons_cons _ (.cons_cons _ (.cons_cons _ (.cons _ .slnil))))⟩
        go_wp2_with fail
        obtain ⟨t1606, HA1607, H⟩ := bind_some H
        refine (ground_Ground_Words.calls t1539.2.2.2.2 0 t1539.1 t1539.2.1 t1539.2.2.1 t1539.2.2.2.1 g1576 g1577 A1578 ((t1539.2.2.2.2).length) n1580 t1606 _ ⟨HS.out.begin (l := [b7 g1576 g1577 t1539.1 t1539.2.1 t1539.2.2.1 t1539.2.2.2.1, b6 g1577 A1578 ((t1539.2.2.2.2).length) n1580 0, r2 A1578 ((t1539.2.2.2.2).length) n1580 t1539.2.2.2.2]) (rest := [])⟩ HA1607).mono ?_
        rintro e_ w1608 ⟨A1610, m1611, n1612, rfl, hS⟩
        replace HS : Aside0 (Sep (fps []) w [b7 g1576 g1577 t1539.1 t1539.2.1 t1539.2.2.1 t1539.2.2.2.1, b6 g1577 A1578 ((t1539.2.2.2.2).length) n1580 0, r2 A1578 ((t1539.2.2.2.2).length) n1580 t1539.2.2.2.2, r2 A1610 m1611 n1612 t1606] w1608) := ⟨HS.out.call (l := [b7 g1576 g1577 t1539.1 t1539.2.1 t1539.2.2.1 t1539.2.2.2.1, b6 g1577 A1578 ((t1539.2.2.2.2).length) n1580 0, r2 A1578 ((t1539.2.2.2.2).length) n1580 t1539.2.2.2.2]) (rest := []) hS⟩
        clear hS
        obtain rfl := (row_len (HS.out.at3)).symm
        go_wp2_with fail
        obtain ⟨t1668, HA1669, H⟩ := bind_some H
        refine (ground_Ground_Load.calls t1539.2.2.2.2 0 t1539.1 t1539.2.1 t1539.2.2.1 t1539.2.2.2.1 l1524 g1576 g1577 A1578 ((t1539.2.2.2.2).length) n1580 A1525 n1526 t1668 _ ⟨Rd.pass (l := [b7 g1576 g1577 t1539.1 t1539.2.1 t1539.2.2.1 t1539.2.2.2.1, b6 g1577 A1578 ((t1539.2.2.2.2).length) n1580 0, r2 A1578 ((t1539.2.2.2.2).length) n1580 t1539.2.2.2.2]) (rest := [r2 A1610 t1606.length n1612 t1606]) (by decide) (fun _ _ _ _ h => h) HR1527.out HS.out⟩ ⟨HS.out.begin (l := [b7 g1576 g1577 t1539.1 t1539.2.1 t1539.2.2.1 t1539.2.2.2.1, b6 g1577 A1578 ((t1539.2.2.2.2).length) n1580 0, r2 A1578 ((t1539.2.2.2.2).length) n1580 t1539.2.2.2.2]) (rest := [r2 A1610 t1606.length n1612 t1606])⟩ HA1669).mono ?_
        rintro e_ w1670 ⟨rfl, hS⟩
        replace HS : Aside0 (Sep (fps []) w [b7 g1576 g1577 t1539.1 t1539.2.1 t1539.2.2.1 t1539.2.2.2.1, b6 g1577 A1578 ((t1539.2.2.2.2).length) n1580 0, r2 A1578 ((t1539.2.2.2.2).length) n1580 t1668.2, r2 A1610 t1606.length n1612 t1606] w1670) := ⟨HS.out.call (l := [b7 g1576 g1577 t1539.1 t1539.2.1 t1539.2.2.1 t1539.2.2.2.1, b6 g1577 A1578 ((t1539.2.2.2.2).length) n1580 0, r2 A1578 ((t1539.2.2.2.2).length) n1580 t1539.2.2.2.2]) (rest := [r2 A1610 t1606.length n1612 t1606]) hS⟩
        clear hS
        by_cases c1671 : t1668.1 = true
        · have H := if_yes c1671 H
          have c1671b0 : t1668.1 = true := c1671
          have c1671b1 : (!t1668.1) = false := by rw [c1671b0]; rfl
          try rw [c1671b1]
          clear c1671
          by_cases c1672 : (l1524.length : Int) = (t1606.length : Int)
          · have H := if_yes c1672 H
            have c1672b0 : ((l1524.length : Int) == (t1606.length : Int)) = true := beq_iff_eq.mpr c1672
            have c1672b1 : ((l1524.length : Int) != (t1606.length : Int)) = false := bne_eq_false_iff_eq.mpr c1672
            clear c1672
            go_wp2_with fail
            obtain ⟨t1673, HA1674, H⟩ := bind_some H
            refine (ground_Ground_Words.calls t1668.2 0 t1539.1 t1539.2.1 t1539.2.2.1 t1539.2.2.2.1 g1576 g1577 A1578 ((t1539.2.2.2.2).length) n1580 t1673 _ ⟨HS.out.begin (l := [b7 g1576 g1577 t1539.1 t1539.2.1 t1539.2.2.1 t1539.2.2.2.1, b6 g1577 A1578 ((t1539.2.2.2.2).length) n1580 0, r2 A1578 ((t1539.2.2.2.2).length) n1580 t1668.2]) (rest := [r2 A1610 t1606.length n1612 t1606])⟩ HA1674).mono ?_
            rintro e_ w1675 ⟨A1677, m1678, n1679, rfl, hS⟩
            replace HS : Aside0 (Sep (fps []) w [b7 g1576 g1577 t1539.1 t1539.2.1 t1539.2.2.1 t1539.2.2.2.1, b6 g1577 A1578 ((t1539.2.2.2.2).length) n1580 0, r2 A1578 ((t1539.2.2.2.2).length) n1580 t1668.2, r2 A1677 m1678 n1679 t1673, r2 A1610 t1606.length n1612 t1606] w1675) := ⟨HS.out.call (l := [b7 g1576 g1577 t1539.1 t1539.2.1 t1539.2.2.1 t1539.2.2.2.1, b6 g1577 A1578 ((t1539.2.2.2.2).length) n1580 0, r2 A1578 ((t1539.2.2.2.2).length) n1580 t1668.2]) (rest := [r2 A1610 t1606.length n1612 t1606]) hS⟩
            clear hS
            obtain rfl := (row_len (HS.out.at3)).symm
            go_wp2_with fail
            obtain ⟨t1720, HA1721, H⟩ := bind_some H
            refine (quitrentref01_Same.calls _ t1673 l1524 A1677 n1679 A1525 n1526 t1720 _ ⟨Rd.ownI (l := []) (rest := [b7 g1576 g1577 t1539.1 t1539.2.1 t1539.2.2.1 t1539.2.2.2.1, b6 g1577 A1578 ((t1539.2.2.2.2).length) n1580 0, r2 A1578 ((t1539.2.2.2.2).length) n1580 t1668.2, r2 A1677 t1673.length n1679 t1673, r2 A1610 t1606.length n1612 t1606]) HS.out 3 rfl⟩ ⟨Rd.pass (l := []) (rest := [b7 g1576 g1577 t1539.1 t1539.2.1 t1539.2.2.1 t1539.2.2.2.1, b6 g1577 A1578 ((t1539.2.2.2.2).length) n1580 0, r2 A1578 ((t1539.2.2.2.2).length) n1580 t1668.2, r2 A1677 t1673.length n1679 t1673, r2 A1610 t1606.length n1612 t1606]) (by decide) (fun _ _ _ _ h => h) HR1527.out HS.out⟩ ⟨HS.out.begin (l := []) (rest := [b7 g1576 g1577 t1539.1 t1539.2.1 t1539.2.2.1 t1539.2.2.2.1, b6 g1577 A1578 ((t1539.2.2.2.2).length) n1580 0, r2 A1578 ((t1539.2.2.2.2).length) n1580 t1668.2, r2 A1677 t1673.length n1679 t1673, r2 A1610 t1606.length n1612 t1606])⟩ HA1721).mono ?_
            rintro e_ w1722 ⟨rfl, hS⟩
            replace HS : Aside0 (Sep (fps []) w [b7 g1576 g1577 t1539.1 t1539.2.1 t1539.2.2.1 t1539.2.2.2.1, b6 g1577 A1578 ((t1539.2.2.2.2).length) n1580 0, r2 A1578 ((t1539.2.2.2.2).length) n1580 t1668.2, r2 A1677 t1673.length n1679 t1673, r2 A1610 t1606.length n1612 t1606] w1722) := ⟨HS.out.call (l := []) (rest := [b7 g1576 g1577 t1539.1 t1539.2.1 t1539.2.2.1 t1539.2.2.2.1, b6 g1577 A1578 ((t1539.2.2.2.2).length) n1580 0, r2 A1578 ((t1539.2.2.2.2).length) n1580 t1668.2, r2 A1677 t1673.length n1679 t1673, r2 A1610 t1606.length n1612 t1606]) hS⟩
            clear hS
            by_cases c1723 : t1720 = true
            · have H := if_yes c1723 H
              have c1723b0 : t1720 = true := c1723
              have c1723b1 : (!t1720) = false := by rw [c1723b0]; rfl
              try rw [c1723b1]
              clear c1723
              go_wp2_with fail
              obtain ⟨t1724, HA1725, H⟩ := bind_some H
              refine (ground_Ground_Meter.calls t1668.2 0 t1539.1 t1539.2.1 t1539.2.2.1 t1539.2.2.2.1 g1576 g1577 A1578 ((t1539.2.2.2.2).length) n1580 t1724 _ ⟨HS.out.begin (l := [b7 g1576 g1577 t1539.1 t1539.2.1 t1539.2.2.1 t1539.2.2.2.1, b6 g1577 A1578 ((t1539.2.2.2.2).length) n1580 0, r2 A1578 ((t1539.2.2.2.2).length) n1580 t1668.2]) (rest := [r2 A1677 t1673.length n1679 t1673, r2 A1610 t1606.length n1612 t1606])⟩ HA1725).mono ?_
              rintro e_ w1726 ⟨rfl, hS⟩
              replace HS : Aside0 (Sep (fps []) w [b7 g1576 g1577 t1539.1 t1539.2.1 t1539.2.2.1 t1539.2.2.2.1, b6 g1577 A1578 ((t1539.2.2.2.2).length) n1580 0, r2 A1578 ((t1539.2.2.2.2).length) n1580 t1668.2, r2 A1677 t1673.length n1679 t1673, r2 A1610 t1606.length n1612 t1606] w1726) := ⟨HS.out.call (l := [b7 g1576 g1577 t1539.1 t1539.2.1 t1539.2.2.1 t1539.2.2.2.1, b6 g1577 A1578 ((t1539.2.2.2.2).length) n1580 0, r2 A1578 ((t1539.2.2.2.2).length) n1580 t1668.2]) (rest := [r2 A1677 t1673.length n1679 t1673, r2 A1610 t1606.length n1612 t1606]) hS⟩
              clear hS
              by_cases c1727 : t1724 = 0
              · have H := if_yes c1727 H
                have c1727b0 : (t1724 == 0) = true := beq_iff_eq.mpr c1727
                have c1727b1 : (t1724 != 0) = false := bne_eq_false_iff_eq.mpr c1727
                clear c1727
                replace HS : Aside0 (Sep (fps []) w [b7 g1576 g1577 t1539.1 t1539.2.1 t1539.2.2.1 t1539.2.2.2.1, b6 g1577 A1578 ((t1539.2.2.2.2).length) n1580 0, r2 A1578 ((t1539.2.2.2.2).length) n1580 t1668.2] w1726) := ⟨HS.out.sub (.cons_cons _ (.cons_cons _ (.cons_cons _ (.cons _ (.cons _ .slnil)))))⟩
                go_wp2_with fail
                refine start_ (n := 21) (S := (fun w' => Kd.C (Kd.int .u32) w' A1525 l1524.length l1524)) (ds := []) #[false, false, false, false, false, false, false, false, false, false, false, false, false, false, false, false, false, false, false, false, false] (by kernel_rfl) rfl rfl (Rd.read (fun _ _ _ _ h => h) HR1527.out (HS.out.drew).fr) (fun hHeld => ?_)
                have HS_ := Aside0.mk HS.out.drew
                clear HS
                generalize World.drew _ = w1729 at HS_ hHeld ⊢
                have HS := HS_
                clear HS_
                refine one_ (i := 0) (N := some 73) #[true, false, false, false, false, false, false, false, false, false, false, false, false, false, false, false, false, false, false, false, false] rfl rfl (by kernel_rfl) (by decide) (fun K hK => ?_)
                obtain ⟨t1730, HA1731, H⟩ := bind_some H
                refine goes_ Try.func31 (by kernel_rfl) rfl #[] (by rfl) rfl rfl (by (try simp only [List.map_toArray, List.map_cons, List.map_nil]); first | done | rfl) ?_
                refine (quitrentlaw05_begun.calls _ t1730 _ ⟨HS.out.begin (l := []) (rest := [b7 g1576 g1577 t1539.1 t1539.2.1 t1539.2.2.1 t1539.2.2.2.1, b6 g1577 A1578 ((t1539.2.2.2.2).length) n1580 0, r2 A1578 ((t1539.2.2.2.2).length) n1580 t1668.2])⟩ HA1731).mono ?_
                rintro e_ w1732 ⟨rfl, hS⟩
                replace HS : Aside0 (Sep (fps []) w [b7 g1576 g1577 t1539.1 t1539.2.1 t1539.2.2.1 t1539.2.2.2.1, b6 g1577 A1578 ((t1539.2.2.2.2).length) n1580 0, r2 A1578 ((t1539.2.2.2.2).length) n1580 t1668.2] w1732) := ⟨HS.out.call (l := []) (rest := [b7 g1576 g1577 t1539.1 t1539.2.1 t1539.2.2.1 t1539.2.2.2.1, b6 g1577 A1578 ((t1539.2.2.2.2).length) n1580 0, r2 A1578 ((t1539.2.2.2.2).length) n1580 t1668.2]) hS⟩
                clear hS
                refine ⟨_, rfl, ?_⟩
                refine hK.out _ _ (Rd.read (fun _ _ _ _ h => h) HR1527.out HS.out.fr) (fun hHeld => ?_)
                clear hK K
                refine norm_ (a' := ?_) ?_ ?_
                rotate_left
                · show Act.put _ (some 73) _ = _
                  simp only [Act.put, List.setIfInBounds_toArray, List.set_cons_zero, List.set_cons_succ, i64_w, i32_w]
                  rfl
                refine pure_ (i := 1) (N := some 74) (v := ?_) (a' := ?_) #[true, true, false, false, false, false, false, false, false, false, false, false, false, false, false, false, false, false, false, false, false] rfl rfl (by kernel_rfl) (fun _ _ _ h => h) (Or.inl ⟨by rfl, ?_⟩) ?_ ?_
                rotate_left
                · intro w'
                  go_simp
                  with_reducible rfl
                rotate_left
                · simp only [Act.put, List.setIfInBounds_toArray, List.set_cons_zero, List.set_cons_succ, i64_w, i32_w]
                  rfl
                by_cases c1733 : t1730 = true
                · have H := if_yes c1733 H
                  have c1733b0 : t1730 = true := c1733
                  have c1733b1 : (!t1730) = false := by rw [c1733b0]; rfl
                  clear c1733
                  try simp only [c1733b0, Bool.not_true, Bool.not_false]
                  refine pure_ (i := 2) (N := some 75) (v := ?_) (a' := ?_) #[true, true, true, false, false, false, false, false, false, false, false, false, false, false, false, false, false, false, false, false, false] rfl rfl (by kernel_rfl) (fun _ _ _ h => h) (Or.inl ⟨by rfl, ?_⟩) ?_ ?_
                  rotate_left
                  · intro w'
                    go_simp
                    with_reducible rfl
                  rotate_left
                  · simp only [Act.put, List.setIfInBounds_toArray, List.set_cons_zero, List.set_cons_succ, i64_w, i32_w]
                    rfl
                  try simp only [c1733b0, Bool.not_true, Bool.not_false]
                  refine pure_ (i := 3) (N := some 76) (v := ?_) (a' := ?_) #[true, true, true, true, false, false, false, false, false, false, false, false, false, false, false, false, false, false, false, false, false] rfl rfl (by kernel_rfl) (fun _ _ _ h => h) (Or.inl ⟨by rfl, ?_⟩) ?_ ?_
                  rotate_left
                  · intro w'
                    go_simp
                    with_reducible rfl
                  rotate_left
                  · simp only [Act.put, List.setIfInBounds_toArray, List.set_cons_zero, List.set_cons_succ, i64_w, i32_w]
                    rfl
                  try simp only [c1733b0, Bool.not_true, Bool.not_false]
                  refine pure_ (i := 4) (N := some 77) (v := ?_) (a' := ?_) #[true, true, true, true, true, false, false, false, false, false, false, false, false, false, false, false, false, false, false, false, false] rfl rfl (by kernel_rfl) (fun _ _ _ h => h) (Or.inl ⟨by rfl, ?_⟩) ?_ ?_
                  rotate_left
                  · intro w'
                    go_simp
                    with_reducible rfl
                  rotate_left
                  · simp only [Act.put, List.setIfInBounds_toArray, List.set_cons_zero, List.set_cons_succ, i64_w, i32_w]
                    rfl
                  by_cases c1734 : a1528 < 0
                  · have H := if_yes c1734 H
                    have c1734b0 : decide (a1528 < 0) = true := decide_eq_true c1734
                    clear c1734
                    try simp only [c1734b0, Bool.not_true, Bool.not_false]
                    refine pure_ (i := 5) (N := some 78) (v := undef) (a' := ?_) #[true, true, true, true, true, true, false, false, false, false, false, false, false, false, false, false, false, false, false, false, false] rfl rfl (by kernel_rfl) (fun _ _ _ h => h) (Or.inr ⟨by rfl, rfl⟩) ?_ ?_
                    rotate_left
                    · simp only [Act.put, List.setIfInBounds_toArray, List.set_cons_zero, List.set_cons_succ, i64_w, i32_w]
                      rfl
                    try simp only [c1734b0, Bool.not_true, Bool.not_false]
                    refine pure_ (i := 6) (N := some 79) (v := undef) (a' := ?_) #[true, true, true, true, true, true, true, false, false, false, false, false, false, false, false, false, false, false, false, false, false] rfl rfl (by kernel_rfl) (fun _ _ _ h => h) (Or.inr ⟨by rfl, rfl⟩) ?_ ?_
                    rotate_left
                    · simp only [Act.put, List.setIfInBounds_toArray, List.set_cons_zero, List.set_cons_succ, i64_w, i32_w]
                      rfl
                    try simp only [c1733b0, Bool.not_true, Bool.not_false]
                    refine pure_ (i := 7) (N := some 80) (v := ?_) (a' := ?_) #[true, true, true, true, true, true, true, true, false, false, false, false, false, false, false, false, false, false, false, false, false] rfl rfl (by kernel_rfl) (fun _ _ _ h => h) (Or.inl ⟨by rfl, ?_⟩) ?_ ?_
                    rotate_left
                    · intro w'
                      go_simp
                      with_reducible rfl
                    rotate_left
                    · simp only [Act.put, List.setIfInBounds_toArray, List.set_cons_zero, List.set_cons_succ, i64_w, i32_w]
                      rfl
                    try simp only [c1733b0, Bool.not_true, Bool.not_false]
                    refine pure_ (i := 8) (N := some 81) (v := ?_) (a' := ?_) #[true, true, true, true, true, true, true, true, true, false, false, false, false, false, false, false, false, false, false, false, false] rfl rfl (by kernel_rfl) (fun _ _ _ h => h) (Or.inl ⟨by rfl, ?_⟩) ?_ ?_
                    rotate_left
                    · intro w'
                      go_simp
                      with_reducible rfl
                    rotate_left
                    · simp only [Act.put, List.setIfInBounds_toArray, List.set_cons_zero, List.set_cons_succ, i64_w, i32_w]
                      rfl
                    refine pure_ (i := 9) (N := some 82) (v := undef) (a' := ?_) #[true, true, true, true, true, true, true, true, true, true, false, false, false, false, false, false, false, false, false, false, false] rfl rfl (by kernel_rfl) (fun _ _ _ h => h) (Or.inr ⟨by rfl, rfl⟩) ?_ ?_
                    rotate_left
                    · simp only [Act.put, List.setIfInBounds_toArray, List.set_cons_zero, List.set_cons_succ, i64_w, i32_w]
                      rfl
                    refine pure_ (i := 10) (N := some 83) (v := undef) (a' := ?_) #[true, true, true, true, true, true, true, true, true, true, true, false, false, false, false, false, false, false, false, false, false] rfl rfl (by kernel_rfl) (fun _ _ _ h => h) (Or.inr ⟨by rfl, rfl⟩) ?_ ?_
                    rotate_left
                    · simp only [Act.put, List.setIfInBounds_toArray, List.set_cons_zero, List.set_cons_succ, i64_w, i32_w]
                      rfl
                    refine pure_ (i := 11) (N := some 84) (v := undef) (a' := ?_) #[true, true, true, true, true, true, true, true, true, true, true, true, false, false, false, false, false, false, false, false, false] rfl rfl (by kernel_rfl) (fun _ _ _ h => h) (Or.inr ⟨by rfl, rfl⟩) ?_ ?_
                    rotate_left
                    · simp only [Act.put, List.setIfInBounds_toArray, List.set_cons_zero, List.set_cons_succ, i64_w, i32_w]
                      rfl
                    refine pure_ (i := 12) (N := some 85) (v := undef) (a' := ?_) #[true, true, true, true, true, true, true, true, true, true, true, true, true, false, false, false, false, false, false, false, false] rfl rfl (by kernel_rfl) (fun _ _ _ h => h) (Or.inr ⟨by rfl, rfl⟩) ?_ ?_
                    rotate_left
                    · simp only [Act.put, List.setIfInBounds_toArray, List.set_cons_zero, List.set_cons_succ, i64_w, i32_w]
                      rfl
                    refine pure_ (i := 13) (N := some 86) (v := undef) (a' := ?_) #[true, true, true, true, true, true, true, true, true, true, true, true, true, true, false, false, false, false, false, false, false] rfl rfl (by kernel_rfl) (fun _ _ _ h => h) (Or.inr ⟨by rfl, rfl⟩) ?_ ?_
                    rotate_left
                    · simp only [Act.put, List.setIfInBounds_toArray, List.set_cons_zero, List.set_cons_succ, i64_w, i32_w]
                      rfl
                    refine pure_ (i := 14) (N := some 87) (v := undef) (a' := ?_) #[true, true, true, true, true, true, true, true, true, true, true, true, true, true, true, false, false, false, false, false, false] rfl rfl (by kernel_rfl) (fun _ _ _ h => h) (Or.inr ⟨by rfl, rfl⟩) ?_ ?_
                    rotate_left
                    · simp only [Act.put, List.setIfInBounds_toArray, List.set_cons_zero, List.set_cons_succ, i64_w, i32_w]
                      rfl
                    refine pure_ (i := 15) (N := some 88) (v := undef) (a' := ?_) #[true, true, true, true, true, true, true, true, true, true, true, true, true, true, true, true, false, false, false, false, false] rfl rfl (by kernel_rfl) (fun _ _ _ h => h) (Or.inr ⟨by rfl, rfl⟩) ?_ ?_
                    rotate_left
                    · simp only [Act.put, List.setIfInBounds_toArray, List.set_cons_zero, List.set_cons_succ, i64_w, i32_w]
                      rfl
                    refine pure_ (i := 16) (N := some 89) (v := undef) (a' := ?_) #[true, true, true, true, true, true, true, true, true, true, true, true, true, true, true, true, true, false, false, false, false] rfl rfl (by kernel_rfl) (fun _ _ _ h => h) (Or.inr ⟨by rfl, rfl⟩) ?_ ?_
                    rotate_left
                    · simp only [Act.put, List.setIfInBounds_toArray, List.set_cons_zero, List.set_cons_succ, i64_w, i32_w]
                      rfl
                    refine pure_ (i := 17) (N := some 90) (v := undef) (a' := ?_) #[true, true, true, true, true, true, true, true, true, true, true, true, true, true, true, true, true, true, false, false, false] rfl rfl (by kernel_rfl) (fun _ _ _ h => h) (Or.inr ⟨by rfl, rfl⟩) ?_ ?_
                    rotate_left
                    · simp only [Act.put, List.setIfInBounds_toArray, List.set_cons_zero, List.set_cons_succ, i64_w, i32_w]
                      rfl
                    try simp only [c1733b0, Bool.not_true, Bool.not_false]
                    refine pure_ (i := 18) (N := some 91) (v := ?_) (a' := ?_) #[true, true, true, true, true, true, true, true, true, true, true, true, true, true, true, true, true, true, true, false, false] rfl rfl (by kernel_rfl) (fun _ _ _ h => h) (Or.inl ⟨by rfl, ?_⟩) ?_ ?_
                    rotate_left
                    · intro w'
                      go_simp
                      with_reducible rfl
                    rotate_left
                    · simp only [Act.put, List.setIfInBounds_toArray, List.set_cons_zero, List.set_cons_succ, i64_w, i32_w]
                      rfl
                    refine pure_ (i := 19) (N := some 92) (v := ?_) (a' := ?_) #[true, true, true, true, true, true, true, true, true, true, true, true, true, true, true, true, true, true, true, true, false] rfl rfl (by kernel_rfl) (fun _ _ _ h => h) (Or.inl ⟨by rfl, ?_⟩) ?_ ?_
                    rotate_left
                    · intro w'
                      go_simp
                      with_reducible rfl
                    rotate_left
                    · simp only [Act.put, List.setIfInBounds_toArray, List.set_cons_zero, List.set_cons_succ, i64_w, i32_w]
                      rfl
                    refine pure_ (i := 20) (N := some 6) (v := ?_) (a' := ?_) #[true, true, true, true, true, true, true, true, true, true, true, true, true, true, true, true, true, true, true, true, true] rfl rfl (by kernel_rfl) (fun _ _ _ h => h) (Or.inl ⟨by rfl, ?_⟩) ?_ ?_
                    rotate_left
                    · intro w'
                      go_simp
                      with_reducible rfl
                    rotate_left
                    · simp only [Act.put, List.setIfInBounds_toArray, List.set_cons_zero, List.set_cons_succ, i64_w, i32_w]
                      rfl
                    refine done_ (by kernel_rfl) ?_
                    replace HS : Aside0 (Sep (fps []) w [] w1732) := ⟨HS.out.sub (.cons _ (.cons _ (.cons _ .slnil)))⟩
                    go_wp2_with fail
                    go_ret
                    rw [← some_eq H]
                    exact ⟨(by first | rfl | (simp [IntKind.wrap_u32]; done)), (HS.out).keep (l := []) (rest := [])⟩
                  · have H := if_no c1734 H
                    have c1734b0 : decide (a1528 < 0) = false := decide_eq_false c1734
                    clear c1734
                    try simp only [c1734b0, Bool.not_true, Bool.not_false]
                    refine pure_ (i := 5) (N := some 78) (v := ?_) (a' := ?_) #[true, true, true, true, true, true, false, false, false, false, false, false, false, false, false, false, false, false, false, false, false] rfl rfl (by kernel_rfl) (fun _ _ _ h => h) (Or.inl ⟨by rfl, ?_⟩) ?_ ?_
                    rotate_left
                    · intro w'
                      go_simp
                      with_reducible rfl
                    rotate_left
                    · simp only [Act.put, List.setIfInBounds_toArray, List.set_cons_zero, List.set_cons_succ, i64_w, i32_w]
                      rfl
                    try simp only [c1734b0, Bool.not_true, Bool.not_false]
                    refine pure_ (i := 6) (N := some 79) (v := ?_) (a' := ?_) #[true, true, true, true, true, true, true, false, false, false, false, false, false, false, false, false, false, false, false, false, false] rfl rfl (by kernel_rfl) (fun _ _ _ h => h) (Or.inl ⟨by rfl, ?_⟩) ?_ ?_
                    rotate_left
                    · intro w'
                      go_simp
                      with_reducible rfl
                    rotate_left
                    · simp only [Act.put, List.setIfInBounds_toArray, List.set_cons_zero, List.set_cons_succ, i64_w, i32_w]
                      rfl
                    try simp only [c1733b0, Bool.not_true, Bool.not_false]
                    refine pure_ (i := 7) (N := some 80) (v := ?_) (a' := ?_) #[true, true, true, true, true, true, true, true, false, false, false, false, false, false, false, false, false, false, false, false, false] rfl rfl (by kernel_rfl) (fun _ _ _ h => h) (Or.inl ⟨by rfl, ?_⟩) ?_ ?_
                    rotate_left
                    · intro w'
                      go_simp
                      with_reducible rfl
                    rotate_left
                    · simp only [Act.put, List.setIfInBounds_toArray, List.set_cons_zero, List.set_cons_succ, i64_w, i32_w]
                      rfl
                    try simp only [c1733b0, Bool.not_true, Bool.not_false]
                    refine pure_ (i := 8) (N := some 81) (v := ?_) (a' := ?_) #[true, true, true, true, true, true, true, true, true, false, false, false, false, false, false, false, false, false, false, false, false] rfl rfl (by kernel_rfl) (fun _ _ _ h => h) (Or.inl ⟨by rfl, ?_⟩) ?_ ?_
                    rotate_left
                    · intro w'
                      go_simp
                      with_reducible rfl
                    rotate_left
                    · simp only [Act.put, List.setIfInBounds_toArray, List.set_cons_zero, List.set_cons_succ, i64_w, i32_w]
                      rfl
                    by_cases c1735 : a1528 ≥ 24
                    · have H := if_yes c1735 H
                      have c1735b0 : decide (24 ≤ a1528) = true := decide_eq_true c1735
                      clear c1735
                      try simp only [c1735b0, Bool.not_true, Bool.not_false]
                      refine pure_ (i := 9) (N := some 82) (v := undef) (a' := ?_) #[true, true, true, true, true, true, true, true, true, true, false, false, false, false, false, false, false, false, false, false, false] rfl rfl (by kernel_rfl) (fun _ _ _ h => h) (Or.inr ⟨by rfl, rfl⟩) ?_ ?_
                      rotate_left
                      · simp only [Act.put, List.setIfInBounds_toArray, List.set_cons_zero, List.set_cons_succ, i64_w, i32_w]
                        rfl
                      try simp only [c1735b0, Bool.not_true, Bool.not_false]
                      refine pure_ (i := 10) (N := some 83) (v := undef) (a' := ?_) #[true, true, true, true, true, true, true, true, true, true, true, false, false, false, false, false, false, false, false, false, false] rfl rfl (by kernel_rfl) (fun _ _ _ h => h) (Or.inr ⟨by rfl, rfl⟩) ?_ ?_
                      rotate_left
                      · simp only [Act.put, List.setIfInBounds_toArray, List.set_cons_zero, List.set_cons_succ, i64_w, i32_w]
                        rfl
                      try simp only [c1735b0, Bool.not_true, Bool.not_false]
                      refine pure_ (i := 11) (N := some 84) (v := undef) (a' := ?_) #[true, true, true, true, true, true, true, true, true, true, true, true, false, false, false, false, false, false, false, false, false] rfl rfl (by kernel_rfl) (fun _ _ _ h => h) (Or.inr ⟨by rfl, rfl⟩) ?_ ?_
                      rotate_left
                      · simp only [Act.put, List.setIfInBounds_toArray, List.set_cons_zero, List.set_cons_succ, i64_w, i32_w]
                        rfl
                      try simp only [c1735b0, Bool.not_true, Bool.not_false]
                      refine pure_ (i := 12) (N := some 85) (v := undef) (a' := ?_) #[true, true, true, true, true, true, true, true, true, true, true, true, true, false, false, false, false, false, false, false, false] rfl rfl (by kernel_rfl) (fun _ _ _ h => h) (Or.inr ⟨by rfl, rfl⟩) ?_ ?_
                      rotate_left
                      · simp only [Act.put, List.setIfInBounds_toArray, List.set_cons_zero, List.set_cons_succ, i64_w, i32_w]
                        rfl
                      try simp only [c1735b0, Bool.not_true, Bool.not_false]
                      refine pure_ (i := 13) (N := some 86) (v := undef) (a' := ?_) #[true, true, true, true, true, true, true, true, true, true, true, true, true, true, false, false, false, false, false, false, false] rfl rfl (by kernel_rfl) (fun _ _ _ h => h) (Or.inr ⟨by rfl, rfl⟩) ?_ ?_
                      rotate_left
                      · simp only [Act.put, List.setIfInBounds_toArray, List.set_cons_zero, List.set_cons_succ, i64_w, i32_w]
                        rfl
                      try simp only [c1735b0, Bool.not_true, Bool.not_false]
                      refine pure_ (i := 14) (N := some 87) (v := undef) (a' := ?_) #[true, true, true, true, true, true, true, true, true, true, true, true, true, true, true, false, false, false, false, false, false] rfl rfl (by kernel_rfl) (fun _ _ _ h => h) (Or.inr ⟨by rfl, rfl⟩) ?_ ?_
                      rotate_left
                      · simp only [Act.put, List.setIfInBounds_toArray, List.set_cons_zero, List.set_cons_succ, i64_w, i32_w]
                        rfl
                      try simp only [c1735b0, Bool.not_true, Bool.not_false]
                      refine pure_ (i := 15) (N := some 88) (v := undef) (a' := ?_) #[true, true, true, true, true, true, true, true, true, true, true, true, true, true, true, true, false, false, false, false, false] rfl rfl (by kernel_rfl) (fun _ _ _ h => h) (Or.inr ⟨by rfl, rfl⟩) ?_ ?_
                      rotate_left
                      · simp only [Act.put, List.setIfInBounds_toArray, List.set_cons_zero, List.set_cons_succ, i64_w, i32_w]
                        rfl
                      try simp only [c1735b0, Bool.not_true, Bool.not_false]
                      refine pure_ (i := 16) (N := some 89) (v := undef) (a' := ?_) #[true, true, true, true, true, true, true, true, true, true, true, true, true, true, true, true, true, false, false, false, false] rfl rfl (by kernel_rfl) (fun _ _ _ h => h) (Or.inr ⟨by rfl, rfl⟩) ?_ ?_
                      rotate_left
                      · simp only [Act.put, List.setIfInBounds_toArray, List.set_cons_zero, List.set_cons_succ, i64_w, i32_w]
                        rfl
                      try simp only [c1735b0, Bool.not_true, Bool.not_false]
                      refine pure_ (i := 17) (N := some 90) (v := undef) (a' := ?_) #[true, true, true, true, true, true, true, true, true, true, true, true, true, true, true, true, true, true, false, false, false] rfl rfl (by kernel_rfl) (fun _ _ _ h => h) (Or.inr ⟨by rfl, rfl⟩) ?_ ?_
                      rotate_left
                      · simp only [Act.put, List.setIfInBounds_toArray, List.set_cons_zero, List.set_cons_succ, i64_w, i32_w]
                        rfl
                      try simp only [c1733b0, Bool.not_true, Bool.not_false]
                      refine pure_ (i := 18) (N := some 91) (v := ?_) (a' := ?_) #[true, true, true, true, true, true, true, true, true, true, true, true, true, true, true, true, true, true, true, false, false] rfl rfl (by kernel_rfl) (fun _ _ _ h => h) (Or.inl ⟨by rfl, ?_⟩) ?_ ?_
                      rotate_left
                      · intro w'
                        go_simp
                        with_reducible rfl
                      rotate_left
                      · simp only [Act.put, List.setIfInBounds_toArray, List.set_cons_zero, List.set_cons_succ, i64_w, i32_w]
                        rfl
                      refine pure_ (i := 19) (N := some 92) (v := ?_) (a' := ?_) #[true, true, true, true, true, true, true, true, true, true, true, true, true, true, true, true, true, true, true, true, false] rfl rfl (by kernel_rfl) (fun _ _ _ h => h) (Or.inl ⟨by rfl, ?_⟩) ?_ ?_
                      rotate_left
                      · intro w'
                        go_simp
                        with_reducible rfl
                      rotate_left
                      · simp only [Act.put, List.setIfInBounds_toArray, List.set_cons_zero, List.set_cons_succ, i64_w, i32_w]
                        rfl
                      refine pure_ (i := 20) (N := some 6) (v := ?_) (a' := ?_) #[true, true, true, true, true, true, true, true, true, true, true, true, true, true, true, true, true, true, true, true, true] rfl rfl (by kernel_rfl) (fun _ _ _ h => h) (Or.inl ⟨by rfl, ?_⟩) ?_ ?_
                      rotate_left
                      · intro w'
                        go_simp
                        with_reducible rfl
                      rotate_left
                      · simp only [Act.put, List.setIfInBounds_toArray, List.set_cons_zero, List.set_cons_succ, i64_w, i32_w]
                        rfl
                      refine done_ (by kernel_rfl) ?_
                      replace HS : Aside0 (Sep (fps []) w [] w1732) := ⟨HS.out.sub (.cons _ (.cons _ (.cons _ .slnil)))⟩
                      go_wp2_with fail
                      go_ret
                      rw [← some_eq H]
                      exact ⟨(by first | rfl | (simp [IntKind.wrap_u32]; done)), (HS.out).keep (l := []) (rest := [])⟩
                    · have H := if_no c1735 H
                      have c1735b0 : decide (24 ≤ a1528) = false := decide_eq_false c1735
                      clear c1735
                      try simp only [c1735b0, Bool.not_true, Bool.not_false]
                      refine pure_ (i := 9) (N := some 82) (v := ?_) (a' := ?_) #[true, true, true, true, true, true, true, true, true, true, false, false, false, false, false, false, false, false, false, false, false] rfl rfl (by kernel_rfl) (fun _ _ _ h => h) (Or.inl ⟨by rfl, ?_⟩) ?_ ?_
                      rotate_left
                      · intro w'
                        go_simp
                        with_reducible rfl
                      rotate_left
                      · simp only [Act.put, List.setIfInBounds_toArray, List.set_cons_zero, List.set_cons_succ, i64_w, i32_w]
                        rfl
                      try simp only [c1735b0, Bool.not_true, Bool.not_false]
                      refine pure_ (i := 10) (N := some 83) (v := ?_) (a' := ?_) #[true, true, true, true, true, true, true, true, true, true, true, false, false, false, false, false, false, false, false, false, false] rfl rfl (by kernel_rfl) (fun _ _ _ h => h) (Or.inl ⟨by rfl, ?_⟩) ?_ ?_
                      rotate_left
                      · intro w'
                        go_simp
                        with_reducible rfl
                      rotate_left
                      · simp only [Act.put, List.setIfInBounds_toArray, List.set_cons_zero, List.set_cons_succ, i64_w, i32_w]
                        rfl
                      try simp only [c1735b0, Bool.not_true, Bool.not_false]
                      refine pure_ (i := 12) (N := some 85) (v := ?_) (a' := ?_) #[true, true, true, true, true, true, true, true, true, true, true, false, true, false, false, false, false, false, false, false, false] rfl rfl (by kernel_rfl) (fun _ _ _ h => h) (Or.inl ⟨by rfl, ?_⟩) ?_ ?_
                      rotate_left
                      · intro w'
                        go_simp
                        with_reducible rfl
                      rotate_left
                      · simp only [Act.put, List.setIfInBounds_toArray, List.set_cons_zero, List.set_cons_succ, i64_w, i32_w]
                        rfl
                      try simp only [c1735b0, Bool.not_true, Bool.not_false]
                      refine pure_ (i := 13) (N := some 86) (v := ?_) (a' := ?_) #[true, true, true, true, true, true, true, true, true, true, true, false, true, true, false, false, false, false, false, false, false] rfl rfl (by kernel_rfl) (fun _ _ _ h => h) (Or.inl ⟨by rfl, ?_⟩) ?_ ?_
                      rotate_left
                      · intro w'
                        go_simp
                        with_reducible rfl
                      rotate_left
                      · simp only [Act.put, List.setIfInBounds_toArray, List.set_cons_zero, List.set_cons_succ, i64_w, i32_w]
                        rfl
                      by_cases c1736 : 0 ≤ a1528
                      · have H := if_yes c1736 H
                        have c1736b0 : decide (0 ≤ a1528) = true := decide_eq_true c1736
                        have c1736p : (0 ≤ a1528) = True := eq_true c1736
                        clear c1736
                        by_cases c1737 : a1528 < (l1524.length : Int)
                        · have H := if_yes c1737 H
                          have c1737b0 : decide (a1528 < (l1524.length : Int)) = true := decide_eq_true c1737
                          have c1737p : (a1528 < (l1524.length : Int)) = True := eq_true c1737
                          clear c1737
                          obtain ⟨ad1738, ea, _⟩ := Kd.at_int (Rd.read (fun _ _ _ _ h => h) HR1527.out HS.out.fr) a1528 (of_decide_eq_true c1736b0) (of_decide_eq_true c1737b0)
                          cases ea
                          try simp only [c1735b0, Bool.not_true, Bool.not_false]
                          refine pure_ (i := 14) (N := some 87) (v := ?_) (a' := ?_) #[true, true, true, true, true, true, true, true, true, true, true, false, true, true, true, false, false, false, false, false, false] rfl rfl (by kernel_rfl) (fun _ _ _ h => h) (Or.inl ⟨by rfl, ?_⟩) ?_ ?_
                          rotate_left
                          · intro w'
                            go_simp
                            with_reducible rfl
                          rotate_left
                          · simp only [Act.put, List.setIfInBounds_toArray, List.set_cons_zero, List.set_cons_succ, i64_w, i32_w]
                            rfl
                          try simp only [c1735b0, Bool.not_true, Bool.not_false]
                          refine take_ (i := 15) (N := some 88) (v := ?_) (a' := ?_) #[true, true, true, true, true, true, true, true, true, true, true, false, true, true, true, true, false, false, false, false, false] rfl rfl (by kernel_rfl) (fun _ _ _ h => h) (Or.inl ⟨by rfl, ?_⟩) hHeld ?_ ?_
                          rotate_left
                          · rintro w' hS'
                            have s0 := hS'
                            have hx := C_at_int s0 a1528 (of_decide_eq_true c1736b0) (of_decide_eq_true c1737b0)
                            go_simp
                            with_reducible rfl
                          rotate_left
                          · simp only [Act.put, List.setIfInBounds_toArray, List.set_cons_zero, List.set_cons_succ, i64_w, i32_w]
                            rfl
                          try simp only [c1735b0, Bool.not_true, Bool.not_false]
                          refine pure_ (i := 16) (N := some 89) (v := ?_) (a' := ?_) #[true, true, true, true, true, true, true, true, true, true, true, false, true, true, true, true, true, false, false, false, false] rfl rfl (by kernel_rfl) (fun _ _ _ h => h) (Or.inl ⟨by rfl, ?_⟩) ?_ ?_
                          rotate_left
                          · intro w'
                            go_simp
                            with_reducible rfl
                          rotate_left
                          · simp only [Act.put, List.setIfInBounds_toArray, List.set_cons_zero, List.set_cons_succ, i64_w, i32_w]
                            rfl
                          try simp only [c1735b0, Bool.not_true, Bool.not_false]
                          refine one_ (i := 11) (N := some 84) #[true, true, true, true, true, true, true, true, true, true, true, true, true, true, true, true, true, false, false, false, false] rfl rfl (by kernel_rfl) (by decide) (fun K hK => ?_)
                          obtain ⟨t1809, HA1810, H⟩ := bind_some H
                          refine goes_ Try.func36 (by kernel_rfl) rfl #[.pointer (some ⟨g1576, 0, none⟩), .int .i64 a1528] (by rfl) rfl rfl (by (try simp only [List.map_toArray, List.map_cons, List.map_nil]); first | done | rfl) ?_
                          refine (ground_Ground_Reg.calls t1668.2 0 t1539.1 t1539.2.1 t1539.2.2.1 t1539.2.2.2.1 a1528 g1576 g1577 A1578 ((t1539.2.2.2.2).length) n1580 t1809 _ ⟨HS.out.begin (l := [b7 g1576 g1577 t1539.1 t1539.2.1 t1539.2.2.1 t1539.2.2.2.1, b6 g1577 A1578 ((t1539.2.2.2.2).length) n1580 0, r2 A1578 ((t1539.2.2.2.2).length) n1580 t1668.2]) (rest := [])⟩ HA1810).mono ?_
                          rintro e_ w1811 ⟨rfl, hS⟩
                          replace HS : Aside0 (Sep (fps []) w [b7 g1576 g1577 t1539.1 t1539.2.1 t1539.2.2.1 t1539.2.2.2.1, b6 g1577 A1578 ((t1539.2.2.2.2).length) n1580 t1809.2, r2 A1578 ((t1539.2.2.2.2).length) n1580 t1668.2] w1811) := ⟨HS.out.call (l := [b7 g1576 g1577 t1539.1 t1539.2.1 t1539.2.2.1 t1539.2.2.2.1, b6 g1577 A1578 ((t1539.2.2.2.2).length) n1580 0, r2 A1578 ((t1539.2.2.2.2).length) n1580 t1668.2]) (rest := []) hS⟩
                          clear hS
                          refine ⟨_, rfl, ?_⟩
                          refine hK.out _ _ (Rd.read (fun _ _ _ _ h => h) HR1527.out HS.out.fr) (fun hHeld => ?_)
                          clear hK K
                          refine norm_ (a' := ?_) ?_ ?_
                          rotate_left
                          · show Act.put _ (some 84) _ = _
                            simp only [Act.put, List.setIfInBounds_toArray, List.set_cons_zero, List.set_cons_succ, i64_w, i32_w]
                            rfl
                          try simp only [c1735b0, Bool.not_true, Bool.not_false]
                          refine pure_ (i := 17) (N := some 90) (v := ?_) (a' := ?_) #[true, true, true, true, true, true, true, true, true, true, true, true, true, true, true, true, true, true, false, false, false] rfl rfl (by kernel_rfl) (fun _ _ _ h => h) (Or.inl ⟨by rfl, ?_⟩) ?_ ?_
                          rotate_left
                          · intro w'
                            go_simp
                            with_reducible rfl
                          rotate_left
                          · simp only [Act.put, List.setIfInBounds_toArray, List.set_cons_zero, List.set_cons_succ, i64_w, i32_w]
                            rfl
                          try simp only [c1733b0, Bool.not_true, Bool.not_false]
                          refine pure_ (i := 18) (N := some 91) (v := ?_) (a' := ?_) #[true, true, true, true, true, true, true, true, true, true, true, true, true, true, true, true, true, true, true, false, false] rfl rfl (by kernel_rfl) (fun _ _ _ h => h) (Or.inl ⟨by rfl, ?_⟩) ?_ ?_
                          rotate_left
                          · intro w'
                            go_simp
                            with_reducible rfl
                          rotate_left
                          · simp only [Act.put, List.setIfInBounds_toArray, List.set_cons_zero, List.set_cons_succ, i64_w, i32_w]
                            rfl
                          refine pure_ (i := 19) (N := some 92) (v := ?_) (a' := ?_) #[true, true, true, true, true, true, true, true, true, true, true, true, true, true, true, true, true, true, true, true, false] rfl rfl (by kernel_rfl) (fun _ _ _ h => h) (Or.inl ⟨by rfl, ?_⟩) ?_ ?_
                          rotate_left
                          · intro w'
                            go_simp
                            with_reducible rfl
                          rotate_left
                          · simp only [Act.put, List.setIfInBounds_toArray, List.set_cons_zero, List.set_cons_succ, i64_w, i32_w]
                            rfl
                          refine pure_ (i := 20) (N := some 6) (v := ?_) (a' := ?_) #[true, true, true, true, true, true, true, true, true, true, true, true, true, true, true, true, true, true, true, true, true] rfl rfl (by kernel_rfl) (fun _ _ _ h => h) (Or.inl ⟨by rfl, ?_⟩) ?_ ?_
                          rotate_left
                          · intro w'
                            go_simp
                            with_reducible rfl
                          rotate_left
                          · simp only [Act.put, List.setIfInBounds_toArray, List.set_cons_zero, List.set_cons_succ, i64_w, i32_w]
                            rfl
                          refine done_ (by kernel_rfl) ?_
                          replace HS : Aside0 (Sep (fps []) w [] w1811) := ⟨HS.out.sub (.cons _ (.cons _ (.cons _ .slnil)))⟩
                          go_wp2_with fail
                          go_ret
                          rw [← some_eq H]
                          exact ⟨(by first | rfl | (simp [IntKind.wrap_u32]; done)), (HS.out).keep (l := []) (rest := [])⟩
                        · have H := if_no c1737 H
                          have c1737b0 : decide (a1528 < (l1524.length : Int)) = false := decide_eq_false c1737
                          clear c1737
                          exact (none_no H).elim
                      · have H := if_no c1736 H
                        have c1736b0 : decide (0 ≤ a1528) = false := decide_eq_false c1736
                        clear c1736
                        exact (none_no H).elim
                · have H := if_no c1733 H
                  have c1733b0 : t1730 = false := by simpa using c1733
                  have c1733b1 : (!t1730) = true := by rw [c1733b0]; rfl
                  clear c1733
                  try simp only [c1733b0, Bool.not_true, Bool.not_false]
                  refine pure_ (i := 2) (N := some 75) (v := undef) (a' := ?_) #[true, true, true, false, false, false, false, false, false, false, false, false, false, false, false, false, false, false, false, false, false] rfl rfl (by kernel_rfl) (fun _ _ _ h => h) (Or.inr ⟨by rfl, rfl⟩) ?_ ?_
                  rotate_left
                  · simp only [Act.put, List.setIfInBounds_toArray, List.set_cons_zero, List.set_cons_succ, i64_w, i32_w]
                    rfl
                  try simp only [c1733b0, Bool.not_true, Bool.not_false]
                  refine pure_ (i := 3) (N := some 76) (v := undef) (a' := ?_) #[true, true, true, true, false, false, false, false, false, false, false, false, false, false, false, false, false, false, false, false, false] rfl rfl (by kernel_rfl) (fun _ _ _ h => h) (Or.inr ⟨by rfl, rfl⟩) ?_ ?_
                  rotate_left
                  · simp only [Act.put, List.setIfInBounds_toArray, List.set_cons_zero, List.set_cons_succ, i64_w, i32_w]
                    rfl
                  try simp only [c1733b0, Bool.not_true, Bool.not_false]
                  refine pure_ (i := 4) (N := some 77) (v := undef) (a' := ?_) #[true, true, true, true, true, false, false, false, false, false, false, false, false, false, false, false, false, false, false, false, false] rfl rfl (by kernel_rfl) (fun _ _ _ h => h) (Or.inr ⟨by rfl, rfl⟩) ?_ ?_
                  rotate_left
                  · simp only [Act.put, List.setIfInBounds_toArray, List.set_cons_zero, List.set_cons_succ, i64_w, i32_w]
                    rfl
                  refine pure_ (i := 5) (N := some 78) (v := undef) (a' := ?_) #[true, true, true, true, true, true, false, false, false, false, false, false, false, false, false, false, false, false, false, false, false] rfl rfl (by kernel_rfl) (fun _ _ _ h => h) (Or.inr ⟨by rfl, rfl⟩) ?_ ?_
                  rotate_left
                  · simp only [Act.put, List.setIfInBounds_toArray, List.set_cons_zero, List.set_cons_succ, i64_w, i32_w]
                    rfl
                  refine pure_ (i := 6) (N := some 79) (v := undef) (a' := ?_) #[true, true, true, true, true, true, true, false, false, false, false, false, false, false, false, false, false, false, false, false, false] rfl rfl (by kernel_rfl) (fun _ _ _ h => h) (Or.inr ⟨by rfl, rfl⟩) ?_ ?_
                  rotate_left
                  · simp only [Act.put, List.setIfInBounds_toArray, List.set_cons_zero, List.set_cons_succ, i64_w, i32_w]
                    rfl
                  try simp only [c1733b0, Bool.not_true, Bool.not_false]
                  refine pure_ (i := 7) (N := some 80) (v := undef) (a' := ?_) #[true, true, true, true, true, true, true, true, false, false, false, false, false, false, false, false, false, false, false, false, false] rfl rfl (by kernel_rfl) (fun _ _ _ h => h) (Or.inr ⟨by rfl, rfl⟩) ?_ ?_
                  rotate_left
                  · simp only [Act.put, List.setIfInBounds_toArray, List.set_cons_zero, List.set_cons_succ, i64_w, i32_w]
                    rfl
                  try simp only [c1733b0, Bool.not_true, Bool.not_false]
                  refine pure_ (i := 8) (N := some 81) (v := undef) (a' := ?_) #[true, true, true, true, true, true, true, true, true, false, false, false, false, false, false, false, false, false, false, false, false] rfl rfl (by kernel_rfl) (fun _ _ _ h => h) (Or.inr ⟨by rfl, rfl⟩) ?_ ?_
                  rotate_left
                  · simp only [Act.put, List.setIfInBounds_toArray, List.set_cons_zero, List.set_cons_succ, i64_w, i32_w]
                    rfl
                  refine pure_ (i := 9) (N := some 82) (v := undef) (a' := ?_) #[true, true, true, true, true, true, true, true, true, true, false, false, false, false, false, false, false, false, false, false, false] rfl rfl (by kernel_rfl) (fun _ _ _ h => h) (Or.inr ⟨by rfl, rfl⟩) ?_ ?_
                  rotate_left
                  · simp only [Act.put, List.setIfInBounds_toArray, List.set_cons_zero, List.set_cons_succ, i64_w, i32_w]
                    rfl
                  refine pure_ (i := 10) (N := some 83) (v := undef) (a' := ?_) #[true, true, true, true, true, true, true, true, true, true, true, false, false, false, false, false, false, false, false, false, false] rfl rfl (by kernel_rfl) (fun _ _ _ h => h) (Or.inr ⟨by rfl, rfl⟩) ?_ ?_
                  rotate_left
                  · simp only [Act.put, List.setIfInBounds_toArray, List.set_cons_zero, List.set_cons_succ, i64_w, i32_w]
                    rfl
                  refine pure_ (i := 11) (N := some 84) (v := undef) (a' := ?_) #[true, true, true, true, true, true, true, true, true, true, true, true, false, false, false, false, false, false, false, false, false] rfl rfl (by kernel_rfl) (fun _ _ _ h => h) (Or.inr ⟨by rfl, rfl⟩) ?_ ?_
                  rotate_left
                  · simp only [Act.put, List.setIfInBounds_toArray, List.set_cons_zero, List.set_cons_succ, i64_w, i32_w]
                    rfl
                  refine pure_ (i := 12) (N := some 85) (v := undef) (a' := ?_) #[true, true, true, true, true, true, true, true, true, true, true, true, true, false, false, false, false, false, false, false, false] rfl rfl (by kernel_rfl) (fun _ _ _ h => h) (Or.inr ⟨by rfl, rfl⟩) ?_ ?_
                  rotate_left
                  · simp only [Act.put, List.setIfInBounds_toArray, List.set_cons_zero, List.set_cons_succ, i64_w, i32_w]
                    rfl
                  refine pure_ (i := 13) (N := some 86) (v := undef) (a' := ?_) #[true, true, true, true, true, true, true, true, true, true, true, true, true, true, false, false, false, false, false, false, false] rfl rfl (by kernel_rfl) (fun _ _ _ h => h) (Or.inr ⟨by rfl, rfl⟩) ?_ ?_
                  rotate_left
                  · simp only [Act.put, List.setIfInBounds_toArray, List.set_cons_zero, List.set_cons_succ, i64_w, i32_w]
                    rfl
                  refine pure_ (i := 14) (N := some 87) (v := undef) (a' := ?_) #[true, true, true, true, true, true, true, true, true, true, true, true, true, true, true, false, false, false, false, false, false] rfl rfl (by kernel_rfl) (fun _ _ _ h => h) (Or.inr ⟨by rfl, rfl⟩) ?_ ?_
                  rotate_left
                  · simp only [Act.put, List.setIfInBounds_toArray, List.set_cons_zero, List.set_cons_succ, i64_w, i32_w]
                    rfl
                  refine pure_ (i := 15) (N := some 88) (v := undef) (a' := ?_) #[true, true, true, true, true, true, true, true, true, true, true, true, true, true, true, true, false, false, false, false, false] rfl rfl (by kernel_rfl) (fun _ _ _ h => h) (Or.inr ⟨by rfl, rfl⟩) ?_ ?_
                  rotate_left
                  · simp only [Act.put, List.setIfInBounds_toArray, List.set_cons_zero, List.set_cons_succ, i64_w, i32_w]
                    rfl
                  refine pure_ (i := 16) (N := some 89) (v := undef) (a' := ?_) #[true, true, true, true, true, true, true, true, true, true, true, true, true, true, true, true, true, false, false, false, false] rfl rfl (by kernel_rfl) (fun _ _ _ h => h) (Or.inr ⟨by rfl, rfl⟩) ?_ ?_
                  rotate_left
                  · simp only [Act.put, List.setIfInBounds_toArray, List.set_cons_zero, List.set_cons_succ, i64_w, i32_w]
                    rfl
                  refine pure_ (i := 17) (N := some 90) (v := undef) (a' := ?_) #[true, true, true, true, true, true, true, true, true, true, true, true, true, true, true, true, true, true, false, false, false] rfl rfl (by kernel_rfl) (fun _ _ _ h => h) (Or.inr ⟨by rfl, rfl⟩) ?_ ?_
                  rotate_left
                  · simp only [Act.put, List.setIfInBounds_toArray, List.set_cons_zero, List.set_cons_succ, i64_w, i32_w]
                    rfl
                  try simp only [c1733b0, Bool.not_true, Bool.not_false]
                  refine pure_ (i := 18) (N := some 91) (v := undef) (a' := ?_) #[true, true, true, true, true, true, true, true, true, true, true, true, true, true, true, true, true, true, true, false, false] rfl rfl (by kernel_rfl) (fun _ _ _ h => h) (Or.inr ⟨by rfl, rfl⟩) ?_ ?_
                  rotate_left
                  · simp only [Act.put, List.setIfInBounds_toArray, List.set_cons_zero, List.set_cons_succ, i64_w, i32_w]
                    rfl
                  refine pure_ (i := 19) (N := some 92) (v := ?_) (a' := ?_) #[true, true, true, true, true, true, true, true, true, true, true, true, true, true, true, true, true, true, true, true, false] rfl rfl (by kernel_rfl) (fun _ _ _ h => h) (Or.inl ⟨by rfl, ?_⟩) ?_ ?_
                  rotate_left
                  · intro w'
                    go_simp
                    with_reducible rfl
                  rotate_left
                  · simp only [Act.put, List.setIfInBounds_toArray, List.set_cons_zero, List.set_cons_succ, i64_w, i32_w]
                    rfl
                  refine pure_ (i := 20) (N := some 6) (v := ?_) (a' := ?_) #[true, true, true, true, true, true, true, true, true, true, true, true, true, true, true, true, true, true, true, true, true] rfl rfl (by kernel_rfl) (fun _ _ _ h => h) (Or.inl ⟨by rfl, ?_⟩) ?_ ?_
                  rotate_left
                  · intro w'
                    go_simp
                    with_reducible rfl
                  rotate_left
                  · simp only [Act.put, List.setIfInBounds_toArray, List.set_cons_zero, List.set_cons_succ, i64_w, i32_w]
                    rfl
                  refine done_ (by kernel_rfl) ?_
                  replace HS : Aside0 (Sep (fps []) w [] w1732) := ⟨HS.out.sub (.cons _ (.cons _ (.cons _ .slnil)))⟩
                  go_wp2_with fail
                  go_ret
                  rw [← some_eq H]
                  exact ⟨(by first | rfl | (simp [IntKind.wrap_u32]; done)), (HS.out).keep (l := []) (rest := [])⟩
              · have H := if_no c1727 H
                have c1727b0 : (t1724 == 0) = false := beq_eq_false_iff_ne.mpr c1727
                have c1727b1 : (t1724 != 0) = true := bne_iff_ne.mpr c1727
                clear c1727
                replace HS : Aside0 (Sep (fps []) w [b7 g1576 g1577 t1539.1 t1539.2.1 t1539.2.2.1 t1539.2.2.2.1, b6 g1577 A1578 ((t1539.2.2.2.2).length) n1580 0, r2 A1578 ((t1539.2.2.2.2).length) n1580 t1668.2] w1726) := ⟨HS.out.sub (.cons_cons _ (.cons_cons _ (.cons_cons _ (.cons _ (.cons _ .slnil)))))⟩
                replace HS : Aside0 (Sep (fps []) w [] w1726) := ⟨HS.out.sub (.cons _ (.cons _ (.cons _ .slnil)))⟩
                go_wp2_with fail
                go_ret
                rw [← some_eq H]
                exact ⟨(by first | rfl | (simp [IntKind.wrap_u32]; done)), (HS.out).keep (l := []) (rest := [])⟩
            · have H := if_no c1723 H
              have c1723b0 : t1720 = false := by simpa using c1723
              have c1723b1 : (!t1720) = true := by rw [c1723b0]; rfl
              try rw [c1723b1]
              clear c1723
              replace HS : Aside0 (Sep (fps []) w [b7 g1576 g1577 t1539.1 t1539.2.1 t1539.2.2.1 t1539.2.2.2.1, b6 g1577 A1578 ((t1539.2.2.2.2).length) n1580 0, r2 A1578 ((t1539.2.2.2.2).length) n1580 t1668.2] w1722) := ⟨HS.out.sub (.cons_cons _ (.cons_cons _ (.cons_cons _ (.cons _ (.cons _ .slnil)))))⟩
              replace HS : Aside0 (Sep (fps []) w [] w1722) := ⟨HS.out.sub (.cons _ (.cons _ (.cons _ .slnil)))⟩
              go_wp2_with fail
              go_ret
              rw [← some_eq H]
              exact ⟨(by first | rfl | (simp [IntKind.wrap_u32]; done)), (HS.out).keep (l := []) (rest := [])⟩
          · have H := if_no c1672 H
            have c1672b0 : ((l1524.length : Int) == (t1606.length : Int)) = false := beq_eq_false_iff_ne.mpr c1672
            have c1672b1 : ((l1524.length : Int) != (t1606.length : Int)) = true := bne_iff_ne.mpr c1672
            clear c1672
            replace HS : Aside0 (Sep (fps []) w [b7 g1576 g1577 t1539.1 t1539.2.1 t1539.2.2.1 t1539.2.2.2.1, b6 g1577 A1578 ((t1539.2.2.2.2).length) n1580 0, r2 A1578 ((t1539.2.2.2.2).length) n1580 t1668.2] w1670) := ⟨HS.out.sub (.cons_cons _ (.cons_cons _ (.cons_cons _ (.cons _ .slnil))))⟩
            replace HS : Aside0 (Sep (fps []) w [] w1670) := ⟨HS.out.sub (.cons _ (.cons _ (.cons _ .slnil)))⟩
            go_wp2_with fail
            go_ret
            rw [← some_eq H]
            exact ⟨(by first | rfl | (simp [IntKind.wrap_u32]; done)), (HS.out).keep (l := []) (rest := [])⟩
        · have H := if_no c1671 H
          have c1671b0 : t1668.1 = false := by simpa using c1671
          have c1671b1 : (!t1668.1) = true := by rw [c1671b0]; rfl
          try rw [c1671b1]
          clear c1671
          by_cases c1812 : (l1524.length : Int) = (t1606.length : Int)
          · have H := if_yes c1812 H
            have c1812b0 : ((l1524.length : Int) == (t1606.length : Int)) = true := beq_iff_eq.mpr c1812
            have c1812b1 : ((l1524.length : Int) != (t1606.length : Int)) = false := bne_eq_false_iff_eq.mpr c1812
            clear c1812
            replace HS : Aside0 (Sep (fps []) w [] w1670) := ⟨HS.out.sub (.cons _ (.cons _ (.cons _ (.cons _ .slnil))))⟩
            go_wp2_with fail
            go_ret
            rw [← some_eq H]
            exact ⟨(by first | rfl | (simp [IntKind.wrap_u32]; done)), (HS.out).keep (l := []) (rest := [])⟩
          · have H := if_no c1812 H
            have c1812b0 : ((l1524.length : Int) == (t1606.length : Int)) = false := beq_eq_false_iff_ne.mpr c1812
            have c1812b1 : ((l1524.length : Int) != (t1606.length : Int)) = true := bne_iff_ne.mpr c1812
            clear c1812
            go_wp2_with fail
            obtain ⟨t1813, HA1814, H⟩ := bind_some H
            refine (ground_Ground_Words.calls t1668.2 0 t1539.1 t1539.2.1 t1539.2.2.1 t1539.2.2.2.1 g1576 g1577 A1578 ((t1539.2.2.2.2).length) n1580 t1813 _ ⟨HS.out.begin (l := [b7 g1576 g1577 t1539.1 t1539.2.1 t1539.2.2.1 t1539.2.2.2.1, b6 g1577 A1578 ((t1539.2.2.2.2).length) n1580 0, r2 A1578 ((t1539.2.2.2.2).length) n1580 t1668.2]) (rest := [r2 A1610 t1606.length n1612 t1606])⟩ HA1814).mono ?_
            rintro e_ w1815 ⟨A1817, m1818, n1819, rfl, hS⟩
            replace HS : Aside0 (Sep (fps []) w [b7 g1576 g1577 t1539.1 t1539.2.1 t1539.2.2.1 t1539.2.2.2.1, b6 g1577 A1578 ((t1539.2.2.2.2).length) n1580 0, r2 A1578 ((t1539.2.2.2.2).length) n1580 t1668.2, r2 A1817 m1818 n1819 t1813, r2 A1610 t1606.length n1612 t1606] w1815) := ⟨HS.out.call (l := [b7 g1576 g1577 t1539.1 t1539.2.1 t1539.2.2.1 t1539.2.2.2.1, b6 g1577 A1578 ((t1539.2.2.2.2).length) n1580 0, r2 A1578 ((t1539.2.2.2.2).length) n1580 t1668.2]) (rest := [r2 A1610 t1606.length n1612 t1606]) hS⟩
            clear hS
            obtain rfl := (row_len (HS.out.at3)).symm
            go_wp2_with fail
            obtain ⟨t1821, HA1822, H⟩ := bind_some H
            refine (quitrentref01_Same.calls _ t1813 t1606 A1817 n1819 A1610 n1612 t1821 _ ⟨Rd.ownI (l := []) (rest := [b7 g1576 g1577 t1539.1 t1539.2.1 t1539.2.2.1 t1539.2.2.2.1, b6 g1577 A1578 ((t1539.2.2.2.2).length) n1580 0, r2 A1578 ((t1539.2.2.2.2).length) n1580 t1668.2, r2 A1817 t1813.length n1819 t1813, r2 A1610 t1606.length n1612 t1606]) HS.out 3 rfl⟩ ⟨Rd.ownI (l := []) (rest := [b7 g1576 g1577 t1539.1 t1539.2.1 t1539.2.2.1 t1539.2.2.2.1, b6 g1577 A1578 ((t1539.2.2.2.2).length) n1580 0, r2 A1578 ((t1539.2.2.2.2).length) n1580 t1668.2, r2 A1817 t1813.length n1819 t1813, r2 A1610 t1606.length n1612 t1606]) HS.out 4 rfl⟩ ⟨HS.out.begin (l := []) (rest := [b7 g1576 g1577 t1539.1 t1539.2.1 t1539.2.2.1 t1539.2.2.2.1, b6 g1577 A1578 ((t1539.2.2.2.2).length) n1580 0, r2 A1578 ((t1539.2.2.2.2).length) n1580 t1668.2, r2 A1817 t1813.length n1819 t1813, r2 A1610 t1606.length n1612 t1606])⟩ HA1822).mono ?_
            rintro e_ w1823 ⟨rfl, hS⟩
            replace HS : Aside0 (Sep (fps []) w [b7 g1576 g1577 t1539.1 t1539.2.1 t1539.2.2.1 t1539.2.2.2.1, b6 g1577 A1578 ((t1539.2.2.2.2).length) n1580 0, r2 A1578 ((t1539.2.2.2.2).length) n1580 t1668.2, r2 A1817 t1813.length n1819 t1813, r2 A1610 t1606.length n1612 t1606] w1823) := ⟨HS.out.call (l := []) (rest := [b7 g1576 g1577 t1539.1 t1539.2.1 t1539.2.2.1 t1539.2.2.2.1, b6 g1577 A1578 ((t1539.2.2.2.2).length) n1580 0, r2 A1578 ((t1539.2.2.2.2).length) n1580 t1668.2, r2 A1817 t1813.length n1819 t1813, r2 A1610 t1606.length n1612 t1606]) hS⟩
            clear hS
            by_cases c1824 : t1821 = true
            · have H := if_yes c1824 H
              have c1824b0 : t1821 = true := c1824
              have c1824b1 : (!t1821) = false := by rw [c1824b0]; rfl
              clear c1824
              go_wp2_with fail
              obtain ⟨t1825, HA1826, H⟩ := bind_some H
              refine (quitrentlaw05_begun.calls _ t1825 _ ⟨HS.out.begin (l := []) (rest := [b7 g1576 g1577 t1539.1 t1539.2.1 t1539.2.2.1 t1539.2.2.2.1, b6 g1577 A1578 ((t1539.2.2.2.2).length) n1580 0, r2 A1578 ((t1539.2.2.2.2).length) n1580 t1668.2, r2 A1817 t1813.length n1819 t1813, r2 A1610 t1606.length n1612 t1606])⟩ HA1826).mono ?_
              rintro e_ w1827 ⟨rfl, hS⟩
              replace HS : Aside0 (Sep (fps []) w [b7 g1576 g1577 t1539.1 t1539.2.1 t1539.2.2.1 t1539.2.2.2.1, b6 g1577 A1578 ((t1539.2.2.2.2).length) n1580 0, r2 A1578 ((t1539.2.2.2.2).length) n1580 t1668.2, r2 A1817 t1813.length n1819 t1813, r2 A1610 t1606.length n1612 t1606] w1827) := ⟨HS.out.call (l := []) (rest := [b7 g1576 g1577 t1539.1 t1539.2.1 t1539.2.2.1 t1539.2.2.2.1, b6 g1577 A1578 ((t1539.2.2.2.2).length) n1580 0, r2 A1578 ((t1539.2.2.2.2).length) n1580 t1668.2, r2 A1817 t1813.length n1819 t1813, r2 A1610 t1606.length n1612 t1606]) hS⟩
              clear hS
              replace HS : Aside0 (Sep (fps []) w [] w1827) := ⟨HS.out.sub (.cons _ (.cons _ (.cons _ (.cons _ (.cons _ .slnil)))))⟩
              go_wp2_with fail
              go_ret
              rw [← some_eq H]
              exact ⟨(by first | rfl | (simp [IntKind.wrap_u32]; done)), (HS.out).keep (l := []) (rest := [])⟩
            · have H := if_no c1824 H
              have c1824b0 : t1821 = false := by simpa using c1824
              have c1824b1 : (!t1821) = true := by rw [c1824b0]; rfl
              clear c1824
              replace HS : Aside0 (Sep (fps []) w [] w1823) := ⟨HS.out.sub (.cons _ (.cons _ (.cons _ (.cons _ (.cons _ .slnil)))))⟩
              go_wp2_with fail
              go_ret
              rw [← some_eq H]
              exact ⟨(by first | rfl | (simp [IntKind.wrap_u32]; done)), (HS.out).keep (l := []) (rest := [])⟩
    · have H := if_no c1601 H
      have c1601b0 : t1598 = false := by simpa using c1601
      have c1601b1 : (!t1598) = true := by rw [c1601b0]; rfl
      try rw [c1601b1]
      clear c1601
      replace HS : Aside0 (Sep (fps []) w [b7 g1576 g1577 t1539.1 t1539.2.1 t1539.2.2.1 t1539.2.2.2.1, b6 g1577 A1578 ((t1539.2.2.2.2).length) n1580 0, r2 A1578 ((t1539.2.2.2.2).length) n1580 t1539.2.2.2.2] w1600) := ⟨HS.out.sub (.cons_cons _ (.cons_cons _ (.cons_cons _ (.cons _ .slnil))))⟩
      go_wp2_with fail
      obtain ⟨t1603, HA1828, H⟩ := bind_some H
      refine (quitrentlaw05_begun.calls _ t1603 _ ⟨HS.out.begin (l := []) (rest := [b7 g1576 g1577 t1539.1 t1539.2.1 t1539.2.2.1 t1539.2.2.2.1, b6 g1577 A1578 ((t1539.2.2.2.2).length) n1580 0, r2 A1578 ((t1539.2.2.2.2).length) n1580 t1539.2.2.2.2])⟩ HA1828).mono ?_
      rintro e_ w1829 ⟨rfl, hS⟩
      replace HS : Aside0 (Sep (fps []) w [b7 g1576 g1577 t1539.1 t1539.2.1 t1539.2.2.1 t1539.2.2.2.1, b6 g1577 A1578 ((t1539.2.2.2.2).length) n1580 0, r2 A1578 ((t1539.2.2.2.2).length) n1580 t1539.2.2.2.2] w1829) := ⟨HS.out.call (l := []) (rest := [b7 g1576 g1577 t1539.1 t1539.2.1 t1539.2.2.1 t1539.2.2.2.1, b6 g1577 A1578 ((t1539.2.2.2.2).length) n1580 0, r2 A1578 ((t1539.2.2.2.2).length) n1580 t1539.2.2.2.2]) hS⟩
      clear hS
      replace HS : Aside0 (Sep (fps []) w [] w1829) := ⟨HS.out.sub (.cons _ (.cons _ (.cons _ .slnil)))⟩
      go_wp2_with fail
      go_ret
      rw [← some_eq H]
      exact ⟨(by first | rfl | (simp [IntKind.wrap_u32]; done)), (HS.out).keep (l := []) (rest := [])⟩
  · have H := sum_r H
    have H := sum_r H
    refine (ground_New.calls _ a1520 a1521 a1522 a1523 (.inr (.inr t1540)) _ ⟨HS.out.begin (l := []) (rest := [b1 g1529 a1520 a1521 a1522 a1523])⟩ HA1537).mono ?_
    rintro e_ w1830 ⟨rfl, hS⟩
    replace HS : Aside0 (Sep (fps []) w [b1 g1529 a1520 a1521 a1522 a1523] w1830) := ⟨HS.out.call (l := []) (rest := [b1 g1529 a1520 a1521 a1522 a1523]) hS⟩
    clear hS
    by_cases c1831 : t1540 = 0
    · have H := if_yes c1831 H
      have c1831b0 : (t1540 == 0) = true := beq_iff_eq.mpr c1831
      have c1831b1 : (t1540 != 0) = false := bne_eq_false_iff_eq.mpr c1831
      clear c1831
      have hc1832 : w1830.cell? ⟨g1529, 0, none⟩ = some (.int .i64 a1520) := blk_cellv (HS.out.at0) 0 rfl
      have hc1833 : w1830.cell? ⟨g1529, 1, none⟩ = some (.int .i64 a1521) := blk_cellv (HS.out.at0) 1 rfl
      have hc1834 : w1830.cell? ⟨g1529, 2, none⟩ = some (.int .i64 a1522) := blk_cellv (HS.out.at0) 2 rfl
      have hc1835 : w1830.cell? ⟨g1529, 3, none⟩ = some (.int .i64 a1523) := blk_cellv (HS.out.at0) 3 rfl
      go_wp2_with fail
      clear hc1832 hc1833 hc1834 hc1835
      obtain ⟨t1565, HA1836, H⟩ := bind_some H
      refine (quitrentref03_May.calls a1520 a1521 a1522 a1523 t1565 _ ⟨HS.out.begin (l := []) (rest := [b1 g1529 a1520 a1521 a1522 a1523])⟩ HA1836).mono ?_
      rintro e_ w1837 ⟨rfl, hS⟩
      replace HS : Aside0 (Sep (fps []) w [b1 g1529 a1520 a1521 a1522 a1523] w1837) := ⟨HS.out.call (l := []) (rest := [b1 g1529 a1520 a1521 a1522 a1523]) hS⟩
      clear hS
      by_cases c1838 : t1565 = true
      · have H := if_yes c1838 H
        have c1838b0 : t1565 = true := c1838
        have c1838b1 : (!t1565) = false := by rw [c1838b0]; rfl
        try rw [c1838b1]
        clear c1838
        replace HS : Aside0 (Sep (fps []) w [] w1837) := ⟨HS.out.sub (.cons _ .slnil)⟩
        go_wp2_with fail
        go_ret
        rw [← some_eq H]
        exact ⟨(by first | rfl | (simp [IntKind.wrap_u32]; done)), (HS.out).keep (l := []) (rest := [])⟩
      · have H := if_no c1838 H
        have c1838b0 : t1565 = false := by simpa using c1838
        have c1838b1 : (!t1565) = true := by rw [c1838b0]; rfl
        try rw [c1838b1]
        clear c1838
        go_wp2_with fail
        obtain ⟨t1569, HA1839, H⟩ := bind_some H
        refine (quitrentlaw05_begun.calls _ t1569 _ ⟨HS.out.begin (l := []) (rest := [b1 g1529 a1520 a1521 a1522 a1523])⟩ HA1839).mono ?_
        rintro e_ w1840 ⟨rfl, hS⟩
        replace HS : Aside0 (Sep (fps []) w [b1 g1529 a1520 a1521 a1522 a1523] w1840) := ⟨HS.out.call (l := []) (rest := [b1 g1529 a1520 a1521 a1522 a1523]) hS⟩
        clear hS
        replace HS : Aside0 (Sep (fps []) w [] w1840) := ⟨HS.out.sub (.cons _ .slnil)⟩
        go_wp2_with fail
        go_ret
        rw [← some_eq H]
        exact ⟨(by first | rfl | (simp [IntKind.wrap_u32]; done)), (HS.out).keep (l := []) (rest := [])⟩
    · have H := if_no c1831 H
      have c1831b0 : (t1540 == 0) = false := beq_eq_false_iff_ne.mpr c1831
      have c1831b1 : (t1540 != 0) = true := bne_iff_ne.mpr c1831
      clear c1831
      have hc1841 : w1830.cell? ⟨g1529, 0, none⟩ = some (.int .i64 a1520) := blk_cellv (HS.out.at0) 0 rfl
      have hc1842 : w1830.cell? ⟨g1529, 1, none⟩ = some (.int .i64 a1521) := blk_cellv (HS.out.at0) 1 rfl
      have hc1843 : w1830.cell? ⟨g1529, 2, none⟩ = some (.int .i64 a1522) := blk_cellv (HS.out.at0) 2 rfl
      have hc1844 : w1830.cell? ⟨g1529, 3, none⟩ = some (.int .i64 a1523) := blk_cellv (HS.out.at0) 3 rfl
      go_wp2_with fail
      clear hc1841 hc1842 hc1843 hc1844
      obtain ⟨t1565, HA1845, H⟩ := bind_some H
      refine (quitrentref03_May.calls a1520 a1521 a1522 a1523 t1565 _ ⟨HS.out.begin (l := []) (rest := [b1 g1529 a1520 a1521 a1522 a1523])⟩ HA1845).mono ?_
      rintro e_ w1846 ⟨rfl, hS⟩
      replace HS : Aside0 (Sep (fps []) w [b1 g1529 a1520 a1521 a1522 a1523] w1846) := ⟨HS.out.call (l := []) (rest := [b1 g1529 a1520 a1521 a1522 a1523]) hS⟩
      clear hS
      by_cases c1847 : t1565 = true
      · have H := if_yes c1847 H
        have c1847b0 : t1565 = true := c1847
        have c1847b1 : (!t1565) = false := by rw [c1847b0]; rfl
        try rw [c1847b1]
        clear c1847
        replace HS : Aside0 (Sep (fps []) w [] w1846) := ⟨HS.out.sub (.cons _ .slnil)⟩
        go_wp2_with fail
        go_ret
        rw [← some_eq H]
        exact ⟨(by first | rfl | (simp [IntKind.wrap_u32]; done)), (HS.out).keep (l := []) (rest := [])⟩
      · have H := if_no c1847 H
        have c1847b0 : t1565 = false := by simpa using c1847
        have c1847b1 : (!t1565) = true := by rw [c1847b0]; rfl
        try rw [c1847b1]
        clear c1847
        go_wp2_with fail
        obtain ⟨t1569, HA1848, H⟩ := bind_some H
        refine (quitrentlaw05_begun.calls _ t1569 _ ⟨HS.out.begin (l := []) (rest := [b1 g1529 a1520 a1521 a1522 a1523])⟩ HA1848).mono ?_
        rintro e_ w1849 ⟨rfl, hS⟩
        replace HS : Aside0 (Sep (fps []) w [b1 g1529 a1520 a1521 a1522 a1523] w1849) := ⟨HS.out.call (l := []) (rest := [b1 g1529 a1520 a1521 a1522 a1523]) hS⟩
        clear hS
        replace HS : Aside0 (Sep (fps []) w [] w1849) := ⟨HS.out.sub (.cons _ .slnil)⟩
        go_wp2_with fail
        go_ret
        rw [← some_eq H]
        exact ⟨(by first | rfl | (simp [IntKind.wrap_u32]; done)), (HS.out).keep (l := []) (rest := [])⟩

set_option maxHeartbeats 30000000 in
set_option maxRecDepth 100000 in
theorem ground_Ground_set.calls (l1979 : List Int) (a1984 : Int) (a1985 : Int) (a1986 : Int) (a1987 : Int) (a1988 : Int) (a1989 : Int) (a1990 : Int) (g1975 : Nat) (g1977 : Nat) (A1980 : Option Addr) (m1981 : Nat) (n1982 : Nat) (r : Bool × Int × List Int) (w : World)   (HS : Aside0 (Sep (fps [b7 g1975 g1977 a1985 a1986 a1987 a1988, b6 g1977 A1980 m1981 n1982 a1984, r2 A1980 m1981 n1982 l1979]) w [b7 g1975 g1977 a1985 a1986 a1987 a1988, b6 g1977 A1980 m1981 n1982 a1984, r2 A1980 m1981 n1982 l1979] w)) (H : Aside0 (ground_Ground_set.f l1979 a1984 a1985 a1986 a1987 a1988 a1989 a1990 = some r)) :
    Calls Try.prog 85 #[.pointer (some ⟨g1975, 0, none⟩), .int .i64 a1989, .int .i64 a1990] w fun e w' => e = .returned (.bool r.1) ∧ Sep (fps [b7 g1975 g1977 a1985 a1986 a1987 a1988, b6 g1977 A1980 m1981 n1982 a1984, r2 A1980 m1981 n1982 l1979]) w [b7 g1975 g1977 a1985 a1986 a1987 a1988, b6 g1977 A1980 m1981 n1982 r.2.1, r2 A1980 m1981 n1982 r.2.2] w' := by
  generalize (fps [b7 g1975 g1977 a1985 a1986 a1987 a1988, b6 g1977 A1980 m1981 n1982 a1984, r2 A1980 m1981 n1982 l1979]) = FF at HS ⊢
  obtain rfl := (row_len (HS.out.at2)).symm
  unfold ground_Ground_set.f at H
  go_enter Try.func85, Try.ntmps85
  by_cases c1999 : a1990 < 0
  · have H := if_yes c1999 H
    have c1999b0 : decide (a1990 < 0) = true := decide_eq_true c1999
    clear c1999
    go_wp2_with fail
    go_ret
    rw [← some_eq H]
    exact ⟨(by first | rfl | (simp [IntKind.wrap_u32]; done)), ((((HS.out).front 2 (by simp)).front 2 (by simp)).front 2 (by simp)).keep (l := [b7 g1975 g1977 a1985 a1986 a1987 a1988, b6 g1977 A1980 l1979.length n1982 a1984, r2 A1980 l1979.length n1982 l1979]) (rest := [])⟩
  · have H := if_no c1999 H
    have c1999b0 : decide (a1990 < 0) = false := decide_eq_false c1999
    clear c1999
    by_cases c2000 : a1990 > 4294967295
    · have H := if_yes c2000 H
      have c2000b0 : decide (4294967295 < a1990) = true := decide_eq_true c2000
      clear c2000
      go_wp2_with fail
      go_ret
      rw [← some_eq H]
      exact ⟨(by first | rfl | (simp [IntKind.wrap_u32]; done)), ((((HS.out).front 2 (by simp)).front 2 (by simp)).front 2 (by simp)).keep (l := [b7 g1975 g1977 a1985 a1986 a1987 a1988, b6 g1977 A1980 l1979.length n1982 a1984, r2 A1980 l1979.length n1982 l1979]) (rest := [])⟩
    · have H := if_no c2000 H
      have c2000b0 : decide (4294967295 < a1990) = false := decide_eq_false c2000
      clear c2000
      go_wp2_with fail
      obtain ⟨t2001, HA2002, H⟩ := bind_some H
      refine (ground_Ground_all.calls l1979 a1984 a1985 a1986 a1987 a1988 g1975 g1977 A1980 l1979.length n1982 t2001 _ ⟨HS.out.begin (l := [b7 g1975 g1977 a1985 a1986 a1987 a1988, b6 g1977 A1980 l1979.length n1982 a1984, r2 A1980 l1979.length n1982 l1979]) (rest := [])⟩ HA2002).mono ?_
      rintro e_ w2003 ⟨rfl, hS⟩
      replace HS : Aside0 (Sep FF w [b7 g1975 g1977 a1985 a1986 a1987 a1988, b6 g1977 A1980 l1979.length n1982 a1984, r2 A1980 l1979.length n1982 l1979] w2003) := ⟨HS.out.call (l := [b7 g1975 g1977 a1985 a1986 a1987 a1988, b6 g1977 A1980 l1979.length n1982 a1984, r2 A1980 l1979.length n1982 l1979]) (rest := []) hS⟩
      clear hS
      go_wp2_with fail
      replace HS : Aside0 (Sep FF w [r2 A1980 l1979.length n1982 l1979, b7 g1975 g1977 a1985 a1986 a1987 a1988, b6 g1977 A1980 l1979.length n1982 a1984] w2003) := ⟨HS.out.front 2 (by simp)⟩
      replace HS : Aside0 (Sep FF w [b6 g1977 A1980 l1979.length n1982 a1984, r2 A1980 l1979.length n1982 l1979, b7 g1975 g1977 a1985 a1986 a1987 a1988] w2003) := ⟨HS.out.front 2 (by simp)⟩
      obtain ⟨t2004, HA2005, H⟩ := bind_some H
      refine (store_Store_Put.calls l1979 a1984 a1989 ((a1990) % 4294967296) g1977 A1980 l1979.length n1982 t2004 _ ⟨HS.out.begin (l := [b6 g1977 A1980 l1979.length n1982 a1984, r2 A1980 l1979.length n1982 l1979]) (rest := [b7 g1975 g1977 a1985 a1986 a1987 a1988])⟩ HA2005).mono ?_
      rintro e_ w2006 ⟨rfl, hS⟩
      replace HS : Aside0 (Sep FF w [b6 g1977 A1980 l1979.length n1982 t2004.2.1, r2 A1980 l1979.length n1982 t2004.2.2, b7 g1975 g1977 a1985 a1986 a1987 a1988] w2006) := ⟨HS.out.call (l := [b6 g1977 A1980 l1979.length n1982 a1984, r2 A1980 l1979.length n1982 l1979]) (rest := [b7 g1975 g1977 a1985 a1986 a1987 a1988]) hS⟩
      clear hS
      go_wp2_with fail
      go_ret
      rw [← some_eq H]
      exact ⟨(by first | rfl | (simp [IntKind.wrap_u32]; done)), ((((HS.out).front 1 (by simp)).front 1 (by simp)).front 2 (by simp)).keep (l := [b7 g1975 g1977 a1985 a1986 a1987 a1988, b6 g1977 A1980 l1979.length n1982 t2004.2.1, r2 A1980 l1979.length n1982 t2004.2.2]) (rest := [])⟩

set_option maxHeartbeats 30000000 in
set_option maxRecDepth 100000 in
theorem ground_Ground_SetReg.calls (l1959 : List Int) (a1964 : Int) (a1965 : Int) (a1966 : Int) (a1967 : Int) (a1968 : Int) (a1969 : Int) (a1970 : Int) (g1955 : Nat) (g1957 : Nat) (A1960 : Option Addr) (m1961 : Nat) (n1962 : Nat) (r : Bool × Int × List Int) (w : World)   (HS : Aside0 (Sep (fps [b7 g1955 g1957 a1965 a1966 a1967 a1968, b6 g1957 A1960 m1961 n1962 a1964, r2 A1960 m1961 n1962 l1959]) w [b7 g1955 g1957 a1965 a1966 a1967 a1968, b6 g1957 A1960 m1961 n1962 a1964, r2 A1960 m1961 n1962 l1959] w)) (H : Aside0 (ground_Ground_SetReg.f l1959 a1964 a1965 a1966 a1967 a1968 a1969 a1970 = some r)) :
    Calls Try.prog 42 #[.pointer (some ⟨g1955, 0, none⟩), .int .i64 a1969, .int .i64 a1970] w fun e w' => e = .returned (.bool r.1) ∧ Sep (fps [b7 g1955 g1957 a1965 a1966 a1967 a1968, b6 g1957 A1960 m1961 n1962 a1964, r2 A1960 m1961 n1962 l1959]) w [b7 g1955 g1957 a1965 a1966 a1967 a1968, b6 g1957 A1960 m1961 n1962 r.2.1, r2 A1960 m1961 n1962 r.2.2] w' := by
  generalize (fps [b7 g1955 g1957 a1965 a1966 a1967 a1968, b6 g1957 A1960 m1961 n1962 a1964, r2 A1960 m1961 n1962 l1959]) = FF at HS ⊢
  obtain rfl := (row_len (HS.out.at2)).symm
  unfold ground_Ground_SetReg.f at H
  go_enter Try.func42, Try.ntmps42
  go_wp2_with fail
  obtain ⟨t2010, HA2011, H⟩ := bind_some H
  refine (ground_reg.calls a1969 t2010 _ ⟨HS.out.begin (l := []) (rest := [b7 g1955 g1957 a1965 a1966 a1967 a1968, b6 g1957 A1960 l1959.length n1962 a1964, r2 A1960 l1959.length n1962 l1959])⟩ HA2011).mono ?_
  rintro e_ w2012 ⟨rfl, hS⟩
  replace HS : Aside0 (Sep FF w [b7 g1955 g1957 a1965 a1966 a1967 a1968, b6 g1957 A1960 l1959.length n1962 a1964, r2 A1960 l1959.length n1962 l1959] w2012) := ⟨HS.out.call (l := []) (rest := [b7 g1955 g1957 a1965 a1966 a1967 a1968, b6 g1957 A1960 l1959.length n1962 a1964, r2 A1960 l1959.length n1962 l1959]) hS⟩
  clear hS
  go_wp2_with fail
  obtain ⟨t2013, HA2014, H⟩ := bind_some H
  refine (ground_Ground_set.calls l1959 a1964 a1965 a1966 a1967 a1968 t2010 a1970 g1955 g1957 A1960 l1959.length n1962 t2013 _ ⟨HS.out.begin (l := [b7 g1955 g1957 a1965 a1966 a1967 a1968, b6 g1957 A1960 l1959.length n1962 a1964, r2 A1960 l1959.length n1962 l1959]) (rest := [])⟩ HA2014).mono ?_
  rintro e_ w2015 ⟨rfl, hS⟩
  replace HS : Aside0 (Sep FF w [b7 g1955 g1957 a1965 a1966 a1967 a1968, b6 g1957 A1960 l1959.length n1962 t2013.2.1, r2 A1960 l1959.length n1962 t2013.2.2] w2015) := ⟨HS.out.call (l := [b7 g1955 g1957 a1965 a1966 a1967 a1968, b6 g1957 A1960 l1959.length n1962 a1964, r2 A1960 l1959.length n1962 l1959]) (rest := []) hS⟩
  clear hS
  go_wp2_with fail
  go_ret
  rw [← some_eq H]
  exact ⟨(by first | rfl | (simp [IntKind.wrap_u32]; done)), ((((HS.out).front 2 (by simp)).front 2 (by simp)).front 2 (by simp)).keep (l := [b7 g1955 g1957 a1965 a1966 a1967 a1968, b6 g1957 A1960 l1959.length n1962 t2013.2.1, r2 A1960 l1959.length n1962 t2013.2.2]) (rest := [])⟩

set_option maxHeartbeats 30000000 in
set_option maxRecDepth 100000 in
theorem ground_Ground_root.calls (l2052 : List Int) (a2057 : Int) (a2058 : Int) (a2059 : Int) (a2060 : Int) (a2061 : Int) (a2062 : Int) (g2048 : Nat) (g2050 : Nat) (A2053 : Option Addr) (m2054 : Nat) (n2055 : Nat) (r : Int) (w : World)   (HS : Aside0 (Sep (fps [b7 g2048 g2050 a2058 a2059 a2060 a2061, b6 g2050 A2053 m2054 n2055 a2057, r2 A2053 m2054 n2055 l2052]) w [b7 g2048 g2050 a2058 a2059 a2060 a2061, b6 g2050 A2053 m2054 n2055 a2057, r2 A2053 m2054 n2055 l2052] w)) (H : Aside0 (ground_Ground_root.f l2052 a2057 a2058 a2059 a2060 a2061 a2062 = some r)) :
    Calls Try.prog 86 #[.pointer (some ⟨g2048, 0, none⟩), .int .i64 a2062] w fun e w' => e = .returned (.int .i64 r) ∧ Sep (fps [b7 g2048 g2050 a2058 a2059 a2060 a2061, b6 g2050 A2053 m2054 n2055 a2057, r2 A2053 m2054 n2055 l2052]) w [b7 g2048 g2050 a2058 a2059 a2060 a2061, b6 g2050 A2053 m2054 n2055 a2057, r2 A2053 m2054 n2055 l2052] w' := by
  generalize (fps [b7 g2048 g2050 a2058 a2059 a2060 a2061, b6 g2050 A2053 m2054 n2055 a2057, r2 A2053 m2054 n2055 l2052]) = FF at HS ⊢
  obtain rfl := (row_len (HS.out.at2)).symm
  unfold ground_Ground_root.f at H
  go_enter Try.func86, Try.ntmps86
  go_wp2_with fail
  obtain ⟨t2063, HA2064, H⟩ := bind_some H
  refine (ground_Ground_Conf.calls l2052 a2057 a2058 a2059 a2060 a2061 g2048 g2050 A2053 l2052.length n2055 t2063 _ ⟨HS.out.begin (l := [b7 g2048 g2050 a2058 a2059 a2060 a2061, b6 g2050 A2053 l2052.length n2055 a2057, r2 A2053 l2052.length n2055 l2052]) (rest := [])⟩ HA2064).mono ?_
  rintro e_ w2065 ⟨rfl, hS⟩
  replace HS : Aside0 (Sep FF w [b7 g2048 g2050 a2058 a2059 a2060 a2061, b6 g2050 A2053 l2052.length n2055 a2057, r2 A2053 l2052.length n2055 l2052] w2065) := ⟨HS.out.call (l := [b7 g2048 g2050 a2058 a2059 a2060 a2061, b6 g2050 A2053 l2052.length n2055 a2057, r2 A2053 l2052.length n2055 l2052]) (rest := []) hS⟩
  clear hS
  have fl2066 : ∀ w, (Instr.field 49 (.agg #[.int .i64 t2063.1, .int .i64 t2063.2.1, .int .i64 t2063.2.2.1, .int .i64 t2063.2.2.2]) 2).run Try.prog w = .ok (.int .i64 t2063.2.2.1) w := fun _ => by kernel_rfl
  go_wp2_with fail
  clear fl2066
  obtain ⟨t2067, HA2068, H⟩ := bind_some H
  refine (ground_within.calls a2062 t2063.2.2.1 24 t2067 _ ⟨HS.out.begin (l := []) (rest := [b7 g2048 g2050 a2058 a2059 a2060 a2061, b6 g2050 A2053 l2052.length n2055 a2057, r2 A2053 l2052.length n2055 l2052])⟩ HA2068).mono ?_
  rintro e_ w2069 ⟨rfl, hS⟩
  replace HS : Aside0 (Sep FF w [b7 g2048 g2050 a2058 a2059 a2060 a2061, b6 g2050 A2053 l2052.length n2055 a2057, r2 A2053 l2052.length n2055 l2052] w2069) := ⟨HS.out.call (l := []) (rest := [b7 g2048 g2050 a2058 a2059 a2060 a2061, b6 g2050 A2053 l2052.length n2055 a2057, r2 A2053 l2052.length n2055 l2052]) hS⟩
  clear hS
  go_wp2_with fail
  go_ret
  rw [← some_eq H]
  exact ⟨(by first | rfl | (simp [IntKind.wrap_u32]; done)), ((((HS.out).front 2 (by simp)).front 2 (by simp)).front 2 (by simp)).keep (l := [b7 g2048 g2050 a2058 a2059 a2060 a2061, b6 g2050 A2053 l2052.length n2055 a2057, r2 A2053 l2052.length n2055 l2052]) (rest := [])⟩

set_option maxHeartbeats 30000000 in
set_option maxRecDepth 100000 in
theorem ground_Ground_SetRoot.calls (l2035 : List Int) (a2040 : Int) (a2041 : Int) (a2042 : Int) (a2043 : Int) (a2044 : Int) (a2045 : Int) (a2046 : Int) (g2031 : Nat) (g2033 : Nat) (A2036 : Option Addr) (m2037 : Nat) (n2038 : Nat) (r : Bool × Int × List Int) (w : World)   (HS : Aside0 (Sep (fps [b7 g2031 g2033 a2041 a2042 a2043 a2044, b6 g2033 A2036 m2037 n2038 a2040, r2 A2036 m2037 n2038 l2035]) w [b7 g2031 g2033 a2041 a2042 a2043 a2044, b6 g2033 A2036 m2037 n2038 a2040, r2 A2036 m2037 n2038 l2035] w)) (H : Aside0 (ground_Ground_SetRoot.f l2035 a2040 a2041 a2042 a2043 a2044 a2045 a2046 = some r)) :
    Calls Try.prog 44 #[.pointer (some ⟨g2031, 0, none⟩), .int .i64 a2045, .int .i64 a2046] w fun e w' => e = .returned (.bool r.1) ∧ Sep (fps [b7 g2031 g2033 a2041 a2042 a2043 a2044, b6 g2033 A2036 m2037 n2038 a2040, r2 A2036 m2037 n2038 l2035]) w [b7 g2031 g2033 a2041 a2042 a2043 a2044, b6 g2033 A2036 m2037 n2038 r.2.1, r2 A2036 m2037 n2038 r.2.2] w' := by
  generalize (fps [b7 g2031 g2033 a2041 a2042 a2043 a2044, b6 g2033 A2036 m2037 n2038 a2040, r2 A2036 m2037 n2038 l2035]) = FF at HS ⊢
  obtain rfl := (row_len (HS.out.at2)).symm
  unfold ground_Ground_SetRoot.f at H
  go_enter Try.func44, Try.ntmps44
  go_wp2_with fail
  obtain ⟨t2076, HA2077, H⟩ := bind_some H
  refine (ground_Ground_root.calls l2035 a2040 a2041 a2042 a2043 a2044 a2045 g2031 g2033 A2036 l2035.length n2038 t2076 _ ⟨HS.out.begin (l := [b7 g2031 g2033 a2041 a2042 a2043 a2044, b6 g2033 A2036 l2035.length n2038 a2040, r2 A2036 l2035.length n2038 l2035]) (rest := [])⟩ HA2077).mono ?_
  rintro e_ w2078 ⟨rfl, hS⟩
  replace HS : Aside0 (Sep FF w [b7 g2031 g2033 a2041 a2042 a2043 a2044, b6 g2033 A2036 l2035.length n2038 a2040, r2 A2036 l2035.length n2038 l2035] w2078) := ⟨HS.out.call (l := [b7 g2031 g2033 a2041 a2042 a2043 a2044, b6 g2033 A2036 l2035.length n2038 a2040, r2 A2036 l2035.length n2038 l2035]) (rest := []) hS⟩
  clear hS
  go_wp2_with fail
  obtain ⟨t2079, HA2080, H⟩ := bind_some H
  refine (ground_Ground_set.calls l2035 a2040 a2041 a2042 a2043 a2044 t2076 a2046 g2031 g2033 A2036 l2035.length n2038 t2079 _ ⟨HS.out.begin (l := [b7 g2031 g2033 a2041 a2042 a2043 a2044, b6 g2033 A2036 l2035.length n2038 a2040, r2 A2036 l2035.length n2038 l2035]) (rest := [])⟩ HA2080).mono ?_
  rintro e_ w2081 ⟨rfl, hS⟩
  replace HS : Aside0 (Sep FF w [b7 g2031 g2033 a2041 a2042 a2043 a2044, b6 g2033 A2036 l2035.length n2038 t2079.2.1, r2 A2036 l2035.length n2038 t2079.2.2] w2081) := ⟨HS.out.call (l := [b7 g2031 g2033 a2041 a2042 a2043 a2044, b6 g2033 A2036 l2035.length n2038 a2040, r2 A2036 l2035.length n2038 l2035]) (rest := []) hS⟩
  clear hS
  go_wp2_with fail
  go_ret
  rw [← some_eq H]
  exact ⟨(by first | rfl | (simp [IntKind.wrap_u32]; done)), ((((HS.out).front 2 (by simp)).front 2 (by simp)).front 2 (by simp)).keep (l := [b7 g2031 g2033 a2041 a2042 a2043 a2044, b6 g2033 A2036 l2035.length n2038 t2079.2.1, r2 A2036 l2035.length n2038 t2079.2.2]) (rest := [])⟩

set_option maxHeartbeats 30000000 in
set_option maxRecDepth 100000 in
theorem quitrentlaw05_put.calls (l1934 : List Int) (a1939 : Int) (a1940 : Int) (a1941 : Int) (a1942 : Int) (a1943 : Int) (a1944 : Int) (a1945 : Int) (a1946 : Int) (a1947 : Int) (g1930 : Nat) (g1932 : Nat) (A1935 : Option Addr) (m1936 : Nat) (n1937 : Nat) (r : Bool × Int × List Int) (w : World)   (HS : Aside0 (Sep (fps [b7 g1930 g1932 a1940 a1941 a1942 a1943, b6 g1932 A1935 m1936 n1937 a1939, r2 A1935 m1936 n1937 l1934]) w [b7 g1930 g1932 a1940 a1941 a1942 a1943, b6 g1932 A1935 m1936 n1937 a1939, r2 A1935 m1936 n1937 l1934] w)) (H : Aside0 (quitrentlaw05_put.f l1934 a1939 a1940 a1941 a1942 a1943 a1944 a1945 a1946 a1947 = some r)) :
    Calls Try.prog 37 #[.pointer (some ⟨g1930, 0, none⟩), .agg #[.int .u8 a1944, .int .i64 a1945, .int .i64 a1946], .int .i64 a1947] w fun e w' => e = .returned (.bool r.1) ∧ Sep (fps [b7 g1930 g1932 a1940 a1941 a1942 a1943, b6 g1932 A1935 m1936 n1937 a1939, r2 A1935 m1936 n1937 l1934]) w [b7 g1930 g1932 a1940 a1941 a1942 a1943, b6 g1932 A1935 m1936 n1937 r.2.1, r2 A1935 m1936 n1937 r.2.2] w' := by
  generalize (fps [b7 g1930 g1932 a1940 a1941 a1942 a1943, b6 g1932 A1935 m1936 n1937 a1939, r2 A1935 m1936 n1937 l1934]) = FF at HS ⊢
  obtain rfl := (row_len (HS.out.at2)).symm
  unfold quitrentlaw05_put.f at H
  go_enter Try.func37, Try.ntmps37
  by_cases c2023 : a1944 = 0
  · have H := if_yes c2023 H
    have c2023b0 : (a1944 == 0) = true := beq_iff_eq.mpr c2023
    have c2023b1 : (a1944 != 0) = false := bne_eq_false_iff_eq.mpr c2023
    clear c2023
    go_wp2_with (first | ((with_reducible refine gate_dst (N := 4) rfl ?_); refine box_on ?hg (N := 4) ?hd (cs := #[.int .u8 a1944, .int .i64 a1945, .int .i64 a1946]) (t := 57) ?hr ?_; (case hd => rfl); (case hg => rfl); (case hr => first | (go_simp; done) | (go_simp; rfl)); intro g2019 hg w2020 hbox hb; replace HS : Aside0 (Sep FF w [b7 g1930 g1932 a1940 a1941 a1942 a1943, b6 g1932 A1935 l1934.length n1937 a1939, r2 A1935 l1934.length n1937 l1934, b8 g2019 a1944 a1945 a1946] w2020) := ⟨HS.out.box hg hbox hb⟩; clear hg hbox hb; have hc2022 : w2020.cell? ⟨g2019, 0, none⟩ = some (.int .u8 a1944) := blk_cellv (HS.out.at3) 0 rfl; have hc2024 : w2020.cell? ⟨g2019, 1, none⟩ = some (.int .i64 a1945) := blk_cellv (HS.out.at3) 1 rfl))
    clear hc2022 hc2024
    obtain ⟨t2025, HA2026, H⟩ := bind_some H
    refine (ground_Ground_SetReg.calls l1934 a1939 a1940 a1941 a1942 a1943 a1945 a1947 g1930 g1932 A1935 l1934.length n1937 t2025 _ ⟨HS.out.begin (l := [b7 g1930 g1932 a1940 a1941 a1942 a1943, b6 g1932 A1935 l1934.length n1937 a1939, r2 A1935 l1934.length n1937 l1934]) (rest := [b8 g2019 a1944 a1945 a1946])⟩ HA2026).mono ?_
    rintro e_ w2027 ⟨rfl, hS⟩
    replace HS : Aside0 (Sep FF w [b7 g1930 g1932 a1940 a1941 a1942 a1943, b6 g1932 A1935 l1934.length n1937 t2025.2.1, r2 A1935 l1934.length n1937 t2025.2.2, b8 g2019 a1944 a1945 a1946] w2027) := ⟨HS.out.call (l := [b7 g1930 g1932 a1940 a1941 a1942 a1943, b6 g1932 A1935 l1934.length n1937 a1939, r2 A1935 l1934.length n1937 l1934]) (rest := [b8 g2019 a1944 a1945 a1946]) hS⟩
    clear hS
    replace HS : Aside0 (Sep FF w [b7 g1930 g1932 a1940 a1941 a1942 a1943, b6 g1932 A1935 l1934.length n1937 t2025.2.1, r2 A1935 l1934.length n1937 t2025.2.2] w2027) := ⟨HS.out.sub (.cons_cons _ (.cons_cons _ (.cons_cons _ (.cons _ .slnil))))⟩
    go_wp2_with fail
    go_ret
    rw [← some_eq H]
    exact ⟨(by first | rfl | (simp [IntKind.wrap_u32]; done)), ((((HS.out).front 2 (by simp)).front 2 (by simp)).front 2 (by simp)).keep (l := [b7 g1930 g1932 a1940 a1941 a1942 a1943, b6 g1932 A1935 l1934.length n1937 t2025.2.1, r2 A1935 l1934.length n1937 t2025.2.2]) (rest := [])⟩
  · have H := if_no c2023 H
    have c2023b0 : (a1944 == 0) = false := beq_eq_false_iff_ne.mpr c2023
    have c2023b1 : (a1944 != 0) = true := bne_iff_ne.mpr c2023
    clear c2023
    by_cases c2028 : a1944 = 1
    · have H := if_yes c2028 H
      have c2028b0 : (a1944 == 1) = true := beq_iff_eq.mpr c2028
      have c2028b1 : (a1944 != 1) = false := bne_eq_false_iff_eq.mpr c2028
      clear c2028
      go_wp2_with (first | ((with_reducible refine gate_dst (N := 4) rfl ?_); refine box_on ?hg (N := 4) ?hd (cs := #[.int .u8 a1944, .int .i64 a1945, .int .i64 a1946]) (t := 57) ?hr ?_; (case hd => rfl); (case hg => rfl); (case hr => first | (go_simp; done) | (go_simp; rfl)); intro g2019 hg w2020 hbox hb; replace HS : Aside0 (Sep FF w [b7 g1930 g1932 a1940 a1941 a1942 a1943, b6 g1932 A1935 l1934.length n1937 a1939, r2 A1935 l1934.length n1937 l1934, b8 g2019 a1944 a1945 a1946] w2020) := ⟨HS.out.box hg hbox hb⟩; clear hg hbox hb; have hc2022 : w2020.cell? ⟨g2019, 0, none⟩ = some (.int .u8 a1944) := blk_cellv (HS.out.at3) 0 rfl; have hc2029 : w2020.cell? ⟨g2019, 1, none⟩ = some (.int .i64 a1945) := blk_cellv (HS.out.at3) 1 rfl))
      clear hc2022 hc2029
      obtain ⟨t2082, HA2083, H⟩ := bind_some H
      refine (ground_Ground_SetRoot.calls l1934 a1939 a1940 a1941 a1942 a1943 a1945 a1947 g1930 g1932 A1935 l1934.length n1937 t2082 _ ⟨HS.out.begin (l := [b7 g1930 g1932 a1940 a1941 a1942 a1943, b6 g1932 A1935 l1934.length n1937 a1939, r2 A1935 l1934.length n1937 l1934]) (rest := [b8 g2019 a1944 a1945 a1946])⟩ HA2083).mono ?_
      rintro e_ w2084 ⟨rfl, hS⟩
      replace HS : Aside0 (Sep FF w [b7 g1930 g1932 a1940 a1941 a1942 a1943, b6 g1932 A1935 l1934.length n1937 t2082.2.1, r2 A1935 l1934.length n1937 t2082.2.2, b8 g2019 a1944 a1945 a1946] w2084) := ⟨HS.out.call (l := [b7 g1930 g1932 a1940 a1941 a1942 a1943, b6 g1932 A1935 l1934.length n1937 a1939, r2 A1935 l1934.length n1937 l1934]) (rest := [b8 g2019 a1944 a1945 a1946]) hS⟩
      clear hS
      replace HS : Aside0 (Sep FF w [b7 g1930 g1932 a1940 a1941 a1942 a1943, b6 g1932 A1935 l1934.length n1937 t2082.2.1, r2 A1935 l1934.length n1937 t2082.2.2] w2084) := ⟨HS.out.sub (.cons_cons _ (.cons_cons _ (.cons_cons _ (.cons _ .slnil))))⟩
      go_wp2_with fail
      go_ret
      rw [← some_eq H]
      exact ⟨(by first | rfl | (simp [IntKind.wrap_u32]; done)), ((((HS.out).front 2 (by simp)).front 2 (by simp)).front 2 (by simp)).keep (l := [b7 g1930 g1932 a1940 a1941 a1942 a1943, b6 g1932 A1935 l1934.length n1937 t2082.2.1, r2 A1935 l1934.length n1937 t2082.2.2]) (rest := [])⟩
    · have H := if_no c2028 H
      have c2028b0 : (a1944 == 1) = false := beq_eq_false_iff_ne.mpr c2028
      have c2028b1 : (a1944 != 1) = true := bne_iff_ne.mpr c2028
      clear c2028
      go_wp2_with (first | ((with_reducible refine gate_dst (N := 4) rfl ?_); refine box_on ?hg (N := 4) ?hd (cs := #[.int .u8 a1944, .int .i64 a1945, .int .i64 a1946]) (t := 57) ?hr ?_; (case hd => rfl); (case hg => rfl); (case hr => first | (go_simp; done) | (go_simp; rfl)); intro g2019 hg w2020 hbox hb; replace HS : Aside0 (Sep FF w [b7 g1930 g1932 a1940 a1941 a1942 a1943, b6 g1932 A1935 l1934.length n1937 a1939, r2 A1935 l1934.length n1937 l1934, b8 g2019 a1944 a1945 a1946] w2020) := ⟨HS.out.box hg hbox hb⟩; clear hg hbox hb; have hc2022 : w2020.cell? ⟨g2019, 0, none⟩ = some (.int .u8 a1944) := blk_cellv (HS.out.at3) 0 rfl; have hc2085 : w2020.cell? ⟨g2019, 1, none⟩ = some (.int .i64 a1945) := blk_cellv (HS.out.at3) 1 rfl; have hc2086 : w2020.cell? ⟨g2019, 2, none⟩ = some (.int .i64 a1946) := blk_cellv (HS.out.at3) 2 rfl))
      clear hc2022 hc2085 hc2086
      obtain ⟨t2087, HA2088, H⟩ := bind_some H
      refine (ground_Ground_SetWord.calls l1934 a1939 a1940 a1941 a1942 a1943 a1945 a1946 ((a1947) % 4294967296) g1930 g1932 A1935 l1934.length n1937 t2087 _ ⟨HS.out.begin (l := [b7 g1930 g1932 a1940 a1941 a1942 a1943, b6 g1932 A1935 l1934.length n1937 a1939, r2 A1935 l1934.length n1937 l1934]) (rest := [b8 g2019 a1944 a1945 a1946])⟩ HA2088).mono ?_
      rintro e_ w2089 ⟨rfl, hS⟩
      replace HS : Aside0 (Sep FF w [b7 g1930 g1932 a1940 a1941 a1942 a1943, b6 g1932 A1935 l1934.length n1937 t2087.2.1, r2 A1935 l1934.length n1937 t2087.2.2, b8 g2019 a1944 a1945 a1946] w2089) := ⟨HS.out.call (l := [b7 g1930 g1932 a1940 a1941 a1942 a1943, b6 g1932 A1935 l1934.length n1937 a1939, r2 A1935 l1934.length n1937 l1934]) (rest := [b8 g2019 a1944 a1945 a1946]) hS⟩
      clear hS
      replace HS : Aside0 (Sep FF w [b7 g1930 g1932 a1940 a1941 a1942 a1943, b6 g1932 A1935 l1934.length n1937 t2087.2.1, r2 A1935 l1934.length n1937 t2087.2.2] w2089) := ⟨HS.out.sub (.cons_cons _ (.cons_cons _ (.cons_cons _ (.cons _ .slnil))))⟩
      go_wp2_with fail
      go_ret
      rw [← some_eq H]
      exact ⟨(by first | rfl | (simp [IntKind.wrap_u32]; done)), ((((HS.out).front 2 (by simp)).front 2 (by simp)).front 2 (by simp)).keep (l := [b7 g1930 g1932 a1940 a1941 a1942 a1943, b6 g1932 A1935 l1934.length n1937 t2087.2.1, r2 A1935 l1934.length n1937 t2087.2.2]) (rest := [])⟩

set_option maxHeartbeats 30000000 in
set_option maxRecDepth 100000 in
theorem ground_Ground_Root.calls (l2177 : List Int) (a2182 : Int) (a2183 : Int) (a2184 : Int) (a2185 : Int) (a2186 : Int) (a2187 : Int) (g2173 : Nat) (g2175 : Nat) (A2178 : Option Addr) (m2179 : Nat) (n2180 : Nat) (r : Int × Int) (w : World)   (HS : Aside0 (Sep (fps [b7 g2173 g2175 a2183 a2184 a2185 a2186, b6 g2175 A2178 m2179 n2180 a2182, r2 A2178 m2179 n2180 l2177]) w [b7 g2173 g2175 a2183 a2184 a2185 a2186, b6 g2175 A2178 m2179 n2180 a2182, r2 A2178 m2179 n2180 l2177] w)) (H : Aside0 (ground_Ground_Root.f l2177 a2182 a2183 a2184 a2185 a2186 a2187 = some r)) :
    Calls Try.prog 43 #[.pointer (some ⟨g2173, 0, none⟩), .int .i64 a2187] w fun e w' => e = .returned (.int .i64 r.1) ∧ Sep (fps [b7 g2173 g2175 a2183 a2184 a2185 a2186, b6 g2175 A2178 m2179 n2180 a2182, r2 A2178 m2179 n2180 l2177]) w [b7 g2173 g2175 a2183 a2184 a2185 a2186, b6 g2175 A2178 m2179 n2180 r.2, r2 A2178 m2179 n2180 l2177] w' := by
  generalize (fps [b7 g2173 g2175 a2183 a2184 a2185 a2186, b6 g2175 A2178 m2179 n2180 a2182, r2 A2178 m2179 n2180 l2177]) = FF at HS ⊢
  obtain rfl := (row_len (HS.out.at2)).symm
  unfold ground_Ground_Root.f at H
  go_enter Try.func43, Try.ntmps43
  go_wp2_with fail
  obtain ⟨t2197, HA2198, H⟩ := bind_some H
  refine (ground_Ground_all.calls l2177 a2182 a2183 a2184 a2185 a2186 g2173 g2175 A2178 l2177.length n2180 t2197 _ ⟨HS.out.begin (l := [b7 g2173 g2175 a2183 a2184 a2185 a2186, b6 g2175 A2178 l2177.length n2180 a2182, r2 A2178 l2177.length n2180 l2177]) (rest := [])⟩ HA2198).mono ?_
  rintro e_ w2199 ⟨rfl, hS⟩
  replace HS : Aside0 (Sep FF w [b7 g2173 g2175 a2183 a2184 a2185 a2186, b6 g2175 A2178 l2177.length n2180 a2182, r2 A2178 l2177.length n2180 l2177] w2199) := ⟨HS.out.call (l := [b7 g2173 g2175 a2183 a2184 a2185 a2186, b6 g2175 A2178 l2177.length n2180 a2182, r2 A2178 l2177.length n2180 l2177]) (rest := []) hS⟩
  clear hS
  go_wp2_with fail
  obtain ⟨t2200, HA2201, H⟩ := bind_some H
  refine (ground_Ground_root.calls l2177 a2182 a2183 a2184 a2185 a2186 a2187 g2173 g2175 A2178 l2177.length n2180 t2200 _ ⟨HS.out.begin (l := [b7 g2173 g2175 a2183 a2184 a2185 a2186, b6 g2175 A2178 l2177.length n2180 a2182, r2 A2178 l2177.length n2180 l2177]) (rest := [])⟩ HA2201).mono ?_
  rintro e_ w2202 ⟨rfl, hS⟩
  replace HS : Aside0 (Sep FF w [b7 g2173 g2175 a2183 a2184 a2185 a2186, b6 g2175 A2178 l2177.length n2180 a2182, r2 A2178 l2177.length n2180 l2177] w2202) := ⟨HS.out.call (l := [b7 g2173 g2175 a2183 a2184 a2185 a2186, b6 g2175 A2178 l2177.length n2180 a2182, r2 A2178 l2177.length n2180 l2177]) (rest := []) hS⟩
  clear hS
  go_wp2_with fail
  replace HS : Aside0 (Sep FF w [r2 A2178 l2177.length n2180 l2177, b7 g2173 g2175 a2183 a2184 a2185 a2186, b6 g2175 A2178 l2177.length n2180 a2182] w2202) := ⟨HS.out.front 2 (by simp)⟩
  replace HS : Aside0 (Sep FF w [b6 g2175 A2178 l2177.length n2180 a2182, r2 A2178 l2177.length n2180 l2177, b7 g2173 g2175 a2183 a2184 a2185 a2186] w2202) := ⟨HS.out.front 2 (by simp)⟩
  obtain ⟨t2203, HA2204, H⟩ := bind_some H
  refine (store_Store_Get.calls l2177 a2182 t2200 g2175 A2178 l2177.length n2180 t2203 _ ⟨HS.out.begin (l := [b6 g2175 A2178 l2177.length n2180 a2182, r2 A2178 l2177.length n2180 l2177]) (rest := [b7 g2173 g2175 a2183 a2184 a2185 a2186])⟩ HA2204).mono ?_
  rintro e_ w2205 ⟨rfl, hS⟩
  replace HS : Aside0 (Sep FF w [b6 g2175 A2178 l2177.length n2180 t2203.2, r2 A2178 l2177.length n2180 l2177, b7 g2173 g2175 a2183 a2184 a2185 a2186] w2205) := ⟨HS.out.call (l := [b6 g2175 A2178 l2177.length n2180 a2182, r2 A2178 l2177.length n2180 l2177]) (rest := [b7 g2173 g2175 a2183 a2184 a2185 a2186]) hS⟩
  clear hS
  go_wp2_with fail
  go_ret
  rw [← some_eq H]
  exact ⟨(by first | rfl | (simp [IntKind.wrap_u32]; done)), ((((HS.out).front 1 (by simp)).front 1 (by simp)).front 2 (by simp)).keep (l := [b7 g2173 g2175 a2183 a2184 a2185 a2186, b6 g2175 A2178 l2177.length n2180 t2203.2, r2 A2178 l2177.length n2180 l2177]) (rest := [])⟩

set_option maxHeartbeats 30000000 in
set_option maxRecDepth 100000 in
theorem ground_Ground_Word.calls (l2216 : List Int) (a2221 : Int) (a2222 : Int) (a2223 : Int) (a2224 : Int) (a2225 : Int) (a2226 : Int) (a2227 : Int) (g2212 : Nat) (g2214 : Nat) (A2217 : Option Addr) (m2218 : Nat) (n2219 : Nat) (r : Int × Int) (w : World)   (HS : Aside0 (Sep (fps [b7 g2212 g2214 a2222 a2223 a2224 a2225, b6 g2214 A2217 m2218 n2219 a2221, r2 A2217 m2218 n2219 l2216]) w [b7 g2212 g2214 a2222 a2223 a2224 a2225, b6 g2214 A2217 m2218 n2219 a2221, r2 A2217 m2218 n2219 l2216] w)) (H : Aside0 (ground_Ground_Word.f l2216 a2221 a2222 a2223 a2224 a2225 a2226 a2227 = some r)) :
    Calls Try.prog 45 #[.pointer (some ⟨g2212, 0, none⟩), .int .i64 a2226, .int .i64 a2227] w fun e w' => e = .returned (.int .u32 r.1) ∧ Sep (fps [b7 g2212 g2214 a2222 a2223 a2224 a2225, b6 g2214 A2217 m2218 n2219 a2221, r2 A2217 m2218 n2219 l2216]) w [b7 g2212 g2214 a2222 a2223 a2224 a2225, b6 g2214 A2217 m2218 n2219 r.2, r2 A2217 m2218 n2219 l2216] w' := by
  generalize (fps [b7 g2212 g2214 a2222 a2223 a2224 a2225, b6 g2214 A2217 m2218 n2219 a2221, r2 A2217 m2218 n2219 l2216]) = FF at HS ⊢
  obtain rfl := (row_len (HS.out.at2)).symm
  unfold ground_Ground_Word.f at H
  go_enter Try.func45, Try.ntmps45
  go_wp2_with fail
  obtain ⟨t2237, HA2238, H⟩ := bind_some H
  refine (ground_Ground_all.calls l2216 a2221 a2222 a2223 a2224 a2225 g2212 g2214 A2217 l2216.length n2219 t2237 _ ⟨HS.out.begin (l := [b7 g2212 g2214 a2222 a2223 a2224 a2225, b6 g2214 A2217 l2216.length n2219 a2221, r2 A2217 l2216.length n2219 l2216]) (rest := [])⟩ HA2238).mono ?_
  rintro e_ w2239 ⟨rfl, hS⟩
  replace HS : Aside0 (Sep FF w [b7 g2212 g2214 a2222 a2223 a2224 a2225, b6 g2214 A2217 l2216.length n2219 a2221, r2 A2217 l2216.length n2219 l2216] w2239) := ⟨HS.out.call (l := [b7 g2212 g2214 a2222 a2223 a2224 a2225, b6 g2214 A2217 l2216.length n2219 a2221, r2 A2217 l2216.length n2219 l2216]) (rest := []) hS⟩
  clear hS
  go_wp2_with fail
  obtain ⟨t2240, HA2241, H⟩ := bind_some H
  refine (ground_Ground_word.calls l2216 a2221 a2222 a2223 a2224 a2225 a2226 a2227 g2212 g2214 A2217 l2216.length n2219 t2240 _ ⟨HS.out.begin (l := [b7 g2212 g2214 a2222 a2223 a2224 a2225, b6 g2214 A2217 l2216.length n2219 a2221, r2 A2217 l2216.length n2219 l2216]) (rest := [])⟩ HA2241).mono ?_
  rintro e_ w2242 ⟨rfl, hS⟩
  replace HS : Aside0 (Sep FF w [b7 g2212 g2214 a2222 a2223 a2224 a2225, b6 g2214 A2217 l2216.length n2219 a2221, r2 A2217 l2216.length n2219 l2216] w2242) := ⟨HS.out.call (l := [b7 g2212 g2214 a2222 a2223 a2224 a2225, b6 g2214 A2217 l2216.length n2219 a2221, r2 A2217 l2216.length n2219 l2216]) (rest := []) hS⟩
  clear hS
  go_wp2_with fail
  replace HS : Aside0 (Sep FF w [r2 A2217 l2216.length n2219 l2216, b7 g2212 g2214 a2222 a2223 a2224 a2225, b6 g2214 A2217 l2216.length n2219 a2221] w2242) := ⟨HS.out.front 2 (by simp)⟩
  replace HS : Aside0 (Sep FF w [b6 g2214 A2217 l2216.length n2219 a2221, r2 A2217 l2216.length n2219 l2216, b7 g2212 g2214 a2222 a2223 a2224 a2225] w2242) := ⟨HS.out.front 2 (by simp)⟩
  obtain ⟨t2243, HA2244, H⟩ := bind_some H
  refine (store_Store_Get.calls l2216 a2221 t2240 g2214 A2217 l2216.length n2219 t2243 _ ⟨HS.out.begin (l := [b6 g2214 A2217 l2216.length n2219 a2221, r2 A2217 l2216.length n2219 l2216]) (rest := [b7 g2212 g2214 a2222 a2223 a2224 a2225])⟩ HA2244).mono ?_
  rintro e_ w2245 ⟨rfl, hS⟩
  replace HS : Aside0 (Sep FF w [b6 g2214 A2217 l2216.length n2219 t2243.2, r2 A2217 l2216.length n2219 l2216, b7 g2212 g2214 a2222 a2223 a2224 a2225] w2245) := ⟨HS.out.call (l := [b6 g2214 A2217 l2216.length n2219 a2221, r2 A2217 l2216.length n2219 l2216]) (rest := [b7 g2212 g2214 a2222 a2223 a2224 a2225]) hS⟩
  clear hS
  go_wp2_with fail
  go_ret
  rw [← some_eq H]
  exact ⟨(by first | rfl | (simp [IntKind.wrap_u32]; done)), ((((HS.out).front 1 (by simp)).front 1 (by simp)).front 2 (by simp)).keep (l := [b7 g2212 g2214 a2222 a2223 a2224 a2225, b6 g2214 A2217 l2216.length n2219 t2243.2, r2 A2217 l2216.length n2219 l2216]) (rest := [])⟩

set_option maxHeartbeats 30000000 in
set_option maxRecDepth 100000 in
theorem quitrentlaw05_get.calls (l2139 : List Int) (a2144 : Int) (a2145 : Int) (a2146 : Int) (a2147 : Int) (a2148 : Int) (a2149 : Int) (a2150 : Int) (a2151 : Int) (g2135 : Nat) (g2137 : Nat) (A2140 : Option Addr) (m2141 : Nat) (n2142 : Nat) (r : Int × Int) (w : World)   (HS : Aside0 (Sep (fps [b7 g2135 g2137 a2145 a2146 a2147 a2148, b6 g2137 A2140 m2141 n2142 a2144, r2 A2140 m2141 n2142 l2139]) w [b7 g2135 g2137 a2145 a2146 a2147 a2148, b6 g2137 A2140 m2141 n2142 a2144, r2 A2140 m2141 n2142 l2139] w)) (H : Aside0 (quitrentlaw05_get.f l2139 a2144 a2145 a2146 a2147 a2148 a2149 a2150 a2151 = some r)) :
    Calls Try.prog 38 #[.pointer (some ⟨g2135, 0, none⟩), .agg #[.int .u8 a2149, .int .i64 a2150, .int .i64 a2151]] w fun e w' => e = .returned (.int .i64 r.1) ∧ Sep (fps [b7 g2135 g2137 a2145 a2146 a2147 a2148, b6 g2137 A2140 m2141 n2142 a2144, r2 A2140 m2141 n2142 l2139]) w [b7 g2135 g2137 a2145 a2146 a2147 a2148, b6 g2137 A2140 m2141 n2142 r.2, r2 A2140 m2141 n2142 l2139] w' := by
  generalize (fps [b7 g2135 g2137 a2145 a2146 a2147 a2148, b6 g2137 A2140 m2141 n2142 a2144, r2 A2140 m2141 n2142 l2139]) = FF at HS ⊢
  obtain rfl := (row_len (HS.out.at2)).symm
  unfold quitrentlaw05_get.f at H
  go_enter Try.func38, Try.ntmps38
  by_cases c2165 : a2149 = 0
  · have H := if_yes c2165 H
    have c2165b0 : (a2149 == 0) = true := beq_iff_eq.mpr c2165
    have c2165b1 : (a2149 != 0) = false := bne_eq_false_iff_eq.mpr c2165
    clear c2165
    go_wp2_with (first | ((with_reducible refine gate_dst (N := 3) rfl ?_); refine box_on ?hg (N := 3) ?hd (cs := #[.int .u8 a2149, .int .i64 a2150, .int .i64 a2151]) (t := 57) ?hr ?_; (case hd => rfl); (case hg => rfl); (case hr => first | (go_simp; done) | (go_simp; rfl)); intro g2161 hg w2162 hbox hb; replace HS : Aside0 (Sep FF w [b7 g2135 g2137 a2145 a2146 a2147 a2148, b6 g2137 A2140 l2139.length n2142 a2144, r2 A2140 l2139.length n2142 l2139, b8 g2161 a2149 a2150 a2151] w2162) := ⟨HS.out.box hg hbox hb⟩; clear hg hbox hb; have hc2164 : w2162.cell? ⟨g2161, 0, none⟩ = some (.int .u8 a2149) := blk_cellv (HS.out.at3) 0 rfl; have hc2166 : w2162.cell? ⟨g2161, 1, none⟩ = some (.int .i64 a2150) := blk_cellv (HS.out.at3) 1 rfl))
    clear hc2164 hc2166
    obtain ⟨t2167, HA2168, H⟩ := bind_some H
    refine (ground_Ground_Reg.calls l2139 a2144 a2145 a2146 a2147 a2148 a2150 g2135 g2137 A2140 l2139.length n2142 t2167 _ ⟨HS.out.begin (l := [b7 g2135 g2137 a2145 a2146 a2147 a2148, b6 g2137 A2140 l2139.length n2142 a2144, r2 A2140 l2139.length n2142 l2139]) (rest := [b8 g2161 a2149 a2150 a2151])⟩ HA2168).mono ?_
    rintro e_ w2169 ⟨rfl, hS⟩
    replace HS : Aside0 (Sep FF w [b7 g2135 g2137 a2145 a2146 a2147 a2148, b6 g2137 A2140 l2139.length n2142 t2167.2, r2 A2140 l2139.length n2142 l2139, b8 g2161 a2149 a2150 a2151] w2169) := ⟨HS.out.call (l := [b7 g2135 g2137 a2145 a2146 a2147 a2148, b6 g2137 A2140 l2139.length n2142 a2144, r2 A2140 l2139.length n2142 l2139]) (rest := [b8 g2161 a2149 a2150 a2151]) hS⟩
    clear hS
    replace HS : Aside0 (Sep FF w [b7 g2135 g2137 a2145 a2146 a2147 a2148, b6 g2137 A2140 l2139.length n2142 t2167.2, r2 A2140 l2139.length n2142 l2139] w2169) := ⟨HS.out.sub (.cons_cons _ (.cons_cons _ (.cons_cons _ (.cons _ .slnil))))⟩
    go_wp2_with fail
    go_ret
    rw [← some_eq H]
    exact ⟨(by first | rfl | (simp [IntKind.wrap_u32]; done)), ((((HS.out).front 2 (by simp)).front 2 (by simp)).front 2 (by simp)).keep (l := [b7 g2135 g2137 a2145 a2146 a2147 a2148, b6 g2137 A2140 l2139.length n2142 t2167.2, r2 A2140 l2139.length n2142 l2139]) (rest := [])⟩
  · have H := if_no c2165 H
    have c2165b0 : (a2149 == 0) = false := beq_eq_false_iff_ne.mpr c2165
    have c2165b1 : (a2149 != 0) = true := bne_iff_ne.mpr c2165
    clear c2165
    by_cases c2170 : a2149 = 1
    · have H := if_yes c2170 H
      have c2170b0 : (a2149 == 1) = true := beq_iff_eq.mpr c2170
      have c2170b1 : (a2149 != 1) = false := bne_eq_false_iff_eq.mpr c2170
      clear c2170
      go_wp2_with (first | ((with_reducible refine gate_dst (N := 3) rfl ?_); refine box_on ?hg (N := 3) ?hd (cs := #[.int .u8 a2149, .int .i64 a2150, .int .i64 a2151]) (t := 57) ?hr ?_; (case hd => rfl); (case hg => rfl); (case hr => first | (go_simp; done) | (go_simp; rfl)); intro g2161 hg w2162 hbox hb; replace HS : Aside0 (Sep FF w [b7 g2135 g2137 a2145 a2146 a2147 a2148, b6 g2137 A2140 l2139.length n2142 a2144, r2 A2140 l2139.length n2142 l2139, b8 g2161 a2149 a2150 a2151] w2162) := ⟨HS.out.box hg hbox hb⟩; clear hg hbox hb; have hc2164 : w2162.cell? ⟨g2161, 0, none⟩ = some (.int .u8 a2149) := blk_cellv (HS.out.at3) 0 rfl; have hc2171 : w2162.cell? ⟨g2161, 1, none⟩ = some (.int .i64 a2150) := blk_cellv (HS.out.at3) 1 rfl))
      clear hc2164 hc2171
      obtain ⟨t2206, HA2207, H⟩ := bind_some H
      refine (ground_Ground_Root.calls l2139 a2144 a2145 a2146 a2147 a2148 a2150 g2135 g2137 A2140 l2139.length n2142 t2206 _ ⟨HS.out.begin (l := [b7 g2135 g2137 a2145 a2146 a2147 a2148, b6 g2137 A2140 l2139.length n2142 a2144, r2 A2140 l2139.length n2142 l2139]) (rest := [b8 g2161 a2149 a2150 a2151])⟩ HA2207).mono ?_
      rintro e_ w2208 ⟨rfl, hS⟩
      replace HS : Aside0 (Sep FF w [b7 g2135 g2137 a2145 a2146 a2147 a2148, b6 g2137 A2140 l2139.length n2142 t2206.2, r2 A2140 l2139.length n2142 l2139, b8 g2161 a2149 a2150 a2151] w2208) := ⟨HS.out.call (l := [b7 g2135 g2137 a2145 a2146 a2147 a2148, b6 g2137 A2140 l2139.length n2142 a2144, r2 A2140 l2139.length n2142 l2139]) (rest := [b8 g2161 a2149 a2150 a2151]) hS⟩
      clear hS
      replace HS : Aside0 (Sep FF w [b7 g2135 g2137 a2145 a2146 a2147 a2148, b6 g2137 A2140 l2139.length n2142 t2206.2, r2 A2140 l2139.length n2142 l2139] w2208) := ⟨HS.out.sub (.cons_cons _ (.cons_cons _ (.cons_cons _ (.cons _ .slnil))))⟩
      go_wp2_with fail
      go_ret
      rw [← some_eq H]
      exact ⟨(by first | rfl | (simp [IntKind.wrap_u32]; done)), ((((HS.out).front 2 (by simp)).front 2 (by simp)).front 2 (by simp)).keep (l := [b7 g2135 g2137 a2145 a2146 a2147 a2148, b6 g2137 A2140 l2139.length n2142 t2206.2, r2 A2140 l2139.length n2142 l2139]) (rest := [])⟩
    · have H := if_no c2170 H
      have c2170b0 : (a2149 == 1) = false := beq_eq_false_iff_ne.mpr c2170
      have c2170b1 : (a2149 != 1) = true := bne_iff_ne.mpr c2170
      clear c2170
      go_wp2_with (first | ((with_reducible refine gate_dst (N := 3) rfl ?_); refine box_on ?hg (N := 3) ?hd (cs := #[.int .u8 a2149, .int .i64 a2150, .int .i64 a2151]) (t := 57) ?hr ?_; (case hd => rfl); (case hg => rfl); (case hr => first | (go_simp; done) | (go_simp; rfl)); intro g2161 hg w2162 hbox hb; replace HS : Aside0 (Sep FF w [b7 g2135 g2137 a2145 a2146 a2147 a2148, b6 g2137 A2140 l2139.length n2142 a2144, r2 A2140 l2139.length n2142 l2139, b8 g2161 a2149 a2150 a2151] w2162) := ⟨HS.out.box hg hbox hb⟩; clear hg hbox hb; have hc2164 : w2162.cell? ⟨g2161, 0, none⟩ = some (.int .u8 a2149) := blk_cellv (HS.out.at3) 0 rfl; have hc2209 : w2162.cell? ⟨g2161, 1, none⟩ = some (.int .i64 a2150) := blk_cellv (HS.out.at3) 1 rfl; have hc2210 : w2162.cell? ⟨g2161, 2, none⟩ = some (.int .i64 a2151) := blk_cellv (HS.out.at3) 2 rfl))
      clear hc2164 hc2209 hc2210
      obtain ⟨t2246, HA2247, H⟩ := bind_some H
      refine (ground_Ground_Word.calls l2139 a2144 a2145 a2146 a2147 a2148 a2150 a2151 g2135 g2137 A2140 l2139.length n2142 t2246 _ ⟨HS.out.begin (l := [b7 g2135 g2137 a2145 a2146 a2147 a2148, b6 g2137 A2140 l2139.length n2142 a2144, r2 A2140 l2139.length n2142 l2139]) (rest := [b8 g2161 a2149 a2150 a2151])⟩ HA2247).mono ?_
      rintro e_ w2248 ⟨rfl, hS⟩
      replace HS : Aside0 (Sep FF w [b7 g2135 g2137 a2145 a2146 a2147 a2148, b6 g2137 A2140 l2139.length n2142 t2246.2, r2 A2140 l2139.length n2142 l2139, b8 g2161 a2149 a2150 a2151] w2248) := ⟨HS.out.call (l := [b7 g2135 g2137 a2145 a2146 a2147 a2148, b6 g2137 A2140 l2139.length n2142 a2144, r2 A2140 l2139.length n2142 l2139]) (rest := [b8 g2161 a2149 a2150 a2151]) hS⟩
      clear hS
      replace HS : Aside0 (Sep FF w [b7 g2135 g2137 a2145 a2146 a2147 a2148, b6 g2137 A2140 l2139.length n2142 t2246.2, r2 A2140 l2139.length n2142 l2139] w2248) := ⟨HS.out.sub (.cons_cons _ (.cons_cons _ (.cons_cons _ (.cons _ .slnil))))⟩
      go_wp2_with fail
      go_ret
      rw [← some_eq H]
      exact ⟨(by first | rfl | (simp [IntKind.wrap_u32]; done)), ((((HS.out).front 2 (by simp)).front 2 (by simp)).front 2 (by simp)).keep (l := [b7 g2135 g2137 a2145 a2146 a2147 a2148, b6 g2137 A2140 l2139.length n2142 t2246.2, r2 A2140 l2139.length n2142 l2139]) (rest := [])⟩
end Go.Proofs.Ytobeonkddamnoaa.C

/- Each function of the group Gp does what its plain function says, and changes nothing that was there; proved by walking its code. No condition. -/
import Derived.Test.YtobeonkddamnoaaQw
import Derived.Test.YtobeonkddamnoaaMGp
import Derived.Test.YtobeonkddamnoaaGGp0
import Derived.Test.YtobeonkddamnoaaGGp1
namespace Go.Proofs.Ytobeonkddamnoaa.C
open Go.RowKit Go.Proofs.YtobeonkddamnoaaW.PrintWords Go.Proofs.YtobeonkddamnoaaW.PrintLast Go.Proofs.Ytobeonkddamnoaa.Q Go.Proofs.Ytobeonkddamnoaa.M
set_option linter.unusedVariables false
set_option linter.unusedSimpArgs false
set_option maxHeartbeats 30000000 in
set_option maxRecDepth 100000 in
theorem quitrentlaw05_GroundPlays.calls (k : Nat) (a1 : Int) (a2 : Int) (a3 : Int) (a4 : Int) (l5 : List (Int × Int × Int × Int)) (A6 : Option Addr) (n7 : Nat) (r : Bool) (w : World) (HR8 : Aside0 (Rd s10 (fps []) w A6 l5.length l5))  (HS : Aside0 (Sep (fps []) w [] w)) (H : Aside0 (quitrentlaw05_GroundPlays.f k a1 a2 a3 a4 l5 = some r)) :
    Calls Try.prog 9 #[.agg #[.int .i64 a1, .int .i64 a2, .int .i64 a3, .int .i64 a4], .slice A6 l5.length n7] w fun e w' => e = .returned (.bool r) ∧ Sep (fps []) w [] w' := by
  unfold quitrentlaw05_GroundPlays.f at H
  go_enter Try.func9, Try.ntmps9
  go_wp2_with (first | ((with_reducible refine gate_dst (N := 2) rfl ?_); refine box_on ?hg (N := 2) ?hd (cs := #[.int .i64 a1, .int .i64 a2, .int .i64 a3, .int .i64 a4]) (t := 49) ?hr ?_; (case hd => rfl); (case hg => rfl); (case hr => first | (go_simp; done) | (go_simp; rfl)); intro g9 hg w10 hbox hb; replace HS : Aside0 (Sep (fps []) w [b1 g9 a1 a2 a3 a4] w10) := ⟨HS.out.box hg hbox hb⟩; clear hg hbox hb; have hc12 : w10.cell? ⟨g9, 0, none⟩ = some (.int .i64 a1) := blk_cellv (HS.out.at0) 0 rfl; have hc13 : w10.cell? ⟨g9, 1, none⟩ = some (.int .i64 a2) := blk_cellv (HS.out.at0) 1 rfl; have hc14 : w10.cell? ⟨g9, 2, none⟩ = some (.int .i64 a3) := blk_cellv (HS.out.at0) 2 rfl; have hc15 : w10.cell? ⟨g9, 3, none⟩ = some (.int .i64 a4) := blk_cellv (HS.out.at0) 3 rfl))
  clear hc12 hc13 hc14 hc15
  obtain ⟨t804, HA805, H⟩ := bind_some H
  rcases t804 with t806 | (t807 | t808)
  · have H := sum_l H
    refine (ground_New.calls _ a1 a2 a3 a4 (.inl t806) _ ⟨Sep.start _⟩ HA805).mono ?_
    rintro e_ w809 ⟨rfl, hS⟩
    replace HS : Aside0 (Sep (fps []) w [b1 g9 a1 a2 a3 a4] w809) := ⟨HS.out.call hS⟩
    clear hS
    have hc810 : w809.cell? ⟨g9, 0, none⟩ = some (.int .i64 a1) := blk_cellv (HS.out.at0) 0 rfl
    have hc811 : w809.cell? ⟨g9, 1, none⟩ = some (.int .i64 a2) := blk_cellv (HS.out.at0) 1 rfl
    have hc812 : w809.cell? ⟨g9, 2, none⟩ = some (.int .i64 a3) := blk_cellv (HS.out.at0) 2 rfl
    have hc813 : w809.cell? ⟨g9, 3, none⟩ = some (.int .i64 a4) := blk_cellv (HS.out.at0) 3 rfl
    go_wp2_with fail
    clear hc810 hc811 hc812 hc813
    obtain ⟨t833, HA834, H⟩ := bind_some H
    refine (quitrentref03_May.calls a1 a2 a3 a4 t833 _ ⟨Sep.start _⟩ HA834).mono ?_
    rintro e_ w835 ⟨rfl, hS⟩
    replace HS : Aside0 (Sep (fps []) w [b1 g9 a1 a2 a3 a4] w835) := ⟨HS.out.call hS⟩
    clear hS
    by_cases c836 : t833 = true
    · have H := if_yes c836 H
      have c836b0 : t833 = true := c836
      have c836b1 : (!t833) = false := by rw [c836b0]; rfl
      try rw [c836b1]
      clear c836
      by_cases c837 : (l5.length : Int) > 200
      · have H := if_yes c837 H
        have c837b0 : decide (200 < (l5.length : Int)) = true := decide_eq_true c837
        have c837b1 : decide (200 < l5.length) = true := decide_eq_true (by omega)
        clear c837
        go_wp2_with fail
        obtain ⟨t1256, HA1257, H⟩ := bind_some H
        refine (quitrentlaw05_begun.calls _ t1256 _ ⟨Sep.start _⟩ HA1257).mono ?_
        rintro e_ w1258 ⟨rfl, hS⟩
        replace HS : Aside0 (Sep (fps []) w [b1 g9 a1 a2 a3 a4] w1258) := ⟨HS.out.call hS⟩
        clear hS
        replace HS : Aside0 (Sep (fps []) w [] w1258) := ⟨HS.out.sub (.cons _ .slnil)⟩
        go_wp2_with fail
        go_ret
        rw [← some_eq H]
        exact ⟨(by first | rfl | (simp [IntKind.wrap_u32]; done)), HS.out⟩
      · have H := if_no c837 H
        have c837b0 : decide (200 < (l5.length : Int)) = false := decide_eq_false c837
        have c837b1 : decide (200 < l5.length) = false := decide_eq_false (by omega)
        clear c837
        have hc1259 : w835.cell? ⟨g9, 0, none⟩ = some (.int .i64 a1) := blk_cellv (HS.out.at0) 0 rfl
        have hc1260 : w835.cell? ⟨g9, 1, none⟩ = some (.int .i64 a2) := blk_cellv (HS.out.at0) 1 rfl
        have hc1261 : w835.cell? ⟨g9, 2, none⟩ = some (.int .i64 a3) := blk_cellv (HS.out.at0) 2 rfl
        have hc1262 : w835.cell? ⟨g9, 3, none⟩ = some (.int .i64 a4) := blk_cellv (HS.out.at0) 3 rfl
        go_wp2_with fail
        clear hc1259 hc1260 hc1261 hc1262
        obtain ⟨t1275, HA1276, H⟩ := bind_some H
        refine (quitrentref05_Little.calls a1 a2 a3 a4 t1275 _ ⟨Sep.start _⟩ HA1276).mono ?_
        rintro e_ w1277 ⟨rfl, hS⟩
        replace HS : Aside0 (Sep (fps []) w [b1 g9 a1 a2 a3 a4] w1277) := ⟨HS.out.call hS⟩
        clear hS
        by_cases c1278 : t1275 = true
        · have H := if_yes c1278 H
          have c1278b0 : t1275 = true := c1278
          have c1278b1 : (!t1275) = false := by rw [c1278b0]; rfl
          try rw [c1278b1]
          clear c1278
          go_wp2_with fail
          refine start_ (n := 12) (S := (fun _ => True)) (ds := []) #[false, false, false, false, false, false, false, false, false, false, false, false] (by kernel_rfl) rfl rfl (trivial) (fun hHeld => ?_)
          have HS_ := Aside0.mk HS.out.drew
          clear HS
          generalize World.drew _ = w1280 at HS_ hHeld ⊢
          have HS := HS_
          clear HS_
          refine pure_ (i := 0) (N := some 36) (v := ?_) (a' := ?_) #[true, false, false, false, false, false, false, false, false, false, false, false] rfl rfl (by kernel_rfl) (fun _ _ _ h => h) (Or.inl ⟨by rfl, ?_⟩) ?_ ?_
          rotate_left
          · intro w'
            go_simp
            with_reducible rfl
          rotate_left
          · simp only [Act.put, List.setIfInBounds_toArray, List.set_cons_zero, List.set_cons_succ, i64_w, i32_w]
            rfl
          refine pure_ (i := 1) (N := some 37) (v := ?_) (a' := ?_) #[true, true, false, false, false, false, false, false, false, false, false, false] rfl rfl (by kernel_rfl) (fun _ _ _ h => h) (Or.inl ⟨by rfl, ?_⟩) ?_ ?_
          rotate_left
          · intro w'
            go_simp
            with_reducible rfl
          rotate_left
          · simp only [Act.put, List.setIfInBounds_toArray, List.set_cons_zero, List.set_cons_succ, i64_w, i32_w]
            rfl
          refine pure_ (i := 2) (N := some 38) (v := ?_) (a' := ?_) #[true, true, true, false, false, false, false, false, false, false, false, false] rfl rfl (by kernel_rfl) (fun _ _ _ h => h) (Or.inl ⟨by rfl, ?_⟩) ?_ ?_
          rotate_left
          · intro w'
            go_simp
            with_reducible rfl
          rotate_left
          · simp only [Act.put, List.setIfInBounds_toArray, List.set_cons_zero, List.set_cons_succ, i64_w, i32_w]
            rfl
          refine pure_ (i := 3) (N := some 39) (v := undef) (a' := ?_) #[true, true, true, true, false, false, false, false, false, false, false, false] rfl rfl (by kernel_rfl) (fun _ _ _ h => h) (Or.inr ⟨by rfl, rfl⟩) ?_ ?_
          rotate_left
          · simp only [Act.put, List.setIfInBounds_toArray, List.set_cons_zero, List.set_cons_succ, i64_w, i32_w]
            rfl
          refine pure_ (i := 4) (N := some 40) (v := undef) (a' := ?_) #[true, true, true, true, true, false, false, false, false, false, false, false] rfl rfl (by kernel_rfl) (fun _ _ _ h => h) (Or.inr ⟨by rfl, rfl⟩) ?_ ?_
          rotate_left
          · simp only [Act.put, List.setIfInBounds_toArray, List.set_cons_zero, List.set_cons_succ, i64_w, i32_w]
            rfl
          refine pure_ (i := 5) (N := some 41) (v := ?_) (a' := ?_) #[true, true, true, true, true, true, false, false, false, false, false, false] rfl rfl (by kernel_rfl) (fun _ _ _ h => h) (Or.inl ⟨by rfl, ?_⟩) ?_ ?_
          rotate_left
          · intro w'
            go_simp
            with_reducible rfl
          rotate_left
          · simp only [Act.put, List.setIfInBounds_toArray, List.set_cons_zero, List.set_cons_succ, i64_w, i32_w]
            rfl
          refine pure_ (i := 6) (N := some 42) (v := ?_) (a' := ?_) #[true, true, true, true, true, true, true, false, false, false, false, false] rfl rfl (by kernel_rfl) (fun _ _ _ h => h) (Or.inl ⟨by rfl, ?_⟩) ?_ ?_
          rotate_left
          · intro w'
            go_simp
            with_reducible rfl
          rotate_left
          · simp only [Act.put, List.setIfInBounds_toArray, List.set_cons_zero, List.set_cons_succ, i64_w, i32_w]
            rfl
          refine pure_ (i := 7) (N := some 43) (v := undef) (a' := ?_) #[true, true, true, true, true, true, true, true, false, false, false, false] rfl rfl (by kernel_rfl) (fun _ _ _ h => h) (Or.inr ⟨by rfl, rfl⟩) ?_ ?_
          rotate_left
          · simp only [Act.put, List.setIfInBounds_toArray, List.set_cons_zero, List.set_cons_succ, i64_w, i32_w]
            rfl
          refine pure_ (i := 8) (N := some 44) (v := undef) (a' := ?_) #[true, true, true, true, true, true, true, true, true, false, false, false] rfl rfl (by kernel_rfl) (fun _ _ _ h => h) (Or.inr ⟨by rfl, rfl⟩) ?_ ?_
          rotate_left
          · simp only [Act.put, List.setIfInBounds_toArray, List.set_cons_zero, List.set_cons_succ, i64_w, i32_w]
            rfl
          refine pure_ (i := 9) (N := some 45) (v := undef) (a' := ?_) #[true, true, true, true, true, true, true, true, true, true, false, false] rfl rfl (by kernel_rfl) (fun _ _ _ h => h) (Or.inr ⟨by rfl, rfl⟩) ?_ ?_
          rotate_left
          · simp only [Act.put, List.setIfInBounds_toArray, List.set_cons_zero, List.set_cons_succ, i64_w, i32_w]
            rfl
          refine pure_ (i := 10) (N := some 46) (v := undef) (a' := ?_) #[true, true, true, true, true, true, true, true, true, true, true, false] rfl rfl (by kernel_rfl) (fun _ _ _ h => h) (Or.inr ⟨by rfl, rfl⟩) ?_ ?_
          rotate_left
          · simp only [Act.put, List.setIfInBounds_toArray, List.set_cons_zero, List.set_cons_succ, i64_w, i32_w]
            rfl
          refine pure_ (i := 11) (N := some 47) (v := ?_) (a' := ?_) #[true, true, true, true, true, true, true, true, true, true, true, true] rfl rfl (by kernel_rfl) (fun _ _ _ h => h) (Or.inl ⟨by rfl, ?_⟩) ?_ ?_
          rotate_left
          · intro w'
            go_simp
            with_reducible rfl
          rotate_left
          · simp only [Act.put, List.setIfInBounds_toArray, List.set_cons_zero, List.set_cons_succ, i64_w, i32_w]
            rfl
          refine done_ (by kernel_rfl) ?_
          replace HS : Aside0 (Sep (fps []) w [] w1280) := ⟨HS.out.sub (.cons _ .slnil)⟩
          go_wp2_with fail
          go_ret
          rw [← some_eq H]
          exact ⟨(by first | rfl | (simp [IntKind.wrap_u32]; done)), HS.out⟩
        · have H := if_no c1278 H
          have c1278b0 : t1275 = false := by simpa using c1278
          have c1278b1 : (!t1275) = true := by rw [c1278b0]; rfl
          try rw [c1278b1]
          clear c1278
          go_wp2_with fail
          obtain ⟨t1256, HA1281, H⟩ := bind_some H
          refine (quitrentlaw05_begun.calls _ t1256 _ ⟨Sep.start _⟩ HA1281).mono ?_
          rintro e_ w1282 ⟨rfl, hS⟩
          replace HS : Aside0 (Sep (fps []) w [b1 g9 a1 a2 a3 a4] w1282) := ⟨HS.out.call hS⟩
          clear hS
          replace HS : Aside0 (Sep (fps []) w [] w1282) := ⟨HS.out.sub (.cons _ .slnil)⟩
          go_wp2_with fail
          go_ret
          rw [← some_eq H]
          exact ⟨(by first | rfl | (simp [IntKind.wrap_u32]; done)), HS.out⟩
    · have H := if_no c836 H
      have c836b0 : t833 = false := by simpa using c836
      have c836b1 : (!t833) = true := by rw [c836b0]; rfl
      try rw [c836b1]
      clear c836
      replace HS : Aside0 (Sep (fps []) w [] w835) := ⟨HS.out.sub (.cons _ .slnil)⟩
      go_wp2_with fail
      go_ret
      rw [← some_eq H]
      exact ⟨(by first | rfl | (simp [IntKind.wrap_u32]; done)), HS.out⟩
  · have H := sum_r H
    have H := sum_l H
    refine (ground_New.calls _ a1 a2 a3 a4 (.inr (.inl t807)) _ ⟨Sep.start _⟩ HA805).mono ?_
    rintro e_ w1283 ⟨g1287, rfl, g1288, A1289, m1290, n1291, hS⟩
    replace HS : Aside0 (Sep (fps []) w [b7 g1287 g1288 t807.1 t807.2.1 t807.2.2.1 t807.2.2.2.1, b6 g1288 A1289 m1290 n1291 0, r5 A1289 m1290 n1291 t807.2.2.2.2, b1 g9 a1 a2 a3 a4] w1283) := ⟨HS.out.call hS⟩
    clear hS
    obtain rfl := (row_len (HS.out.at2)).symm
    have hc1293 : w1283.cell? ⟨g9, 0, none⟩ = some (.int .i64 a1) := blk_cellv (HS.out.at3) 0 rfl
    have hc1294 : w1283.cell? ⟨g9, 1, none⟩ = some (.int .i64 a2) := blk_cellv (HS.out.at3) 1 rfl
    have hc1295 : w1283.cell? ⟨g9, 2, none⟩ = some (.int .i64 a3) := blk_cellv (HS.out.at3) 2 rfl
    have hc1296 : w1283.cell? ⟨g9, 3, none⟩ = some (.int .i64 a4) := blk_cellv (HS.out.at3) 3 rfl
    go_wp2_with fail
    clear hc1293 hc1294 hc1295 hc1296
    obtain ⟨t833, HA1297, H⟩ := bind_some H
    refine (quitrentref03_May.calls a1 a2 a3 a4 t833 _ ⟨Sep.start _⟩ HA1297).mono ?_
    rintro e_ w1298 ⟨rfl, hS⟩
    replace HS : Aside0 (Sep (fps []) w [b7 g1287 g1288 t807.1 t807.2.1 t807.2.2.1 t807.2.2.2.1, b6 g1288 A1289 ((t807.2.2.2.2).length) n1291 0, r5 A1289 ((t807.2.2.2.2).length) n1291 t807.2.2.2.2, b1 g9 a1 a2 a3 a4] w1298) := ⟨HS.out.call hS⟩
    clear hS
    by_cases c1299 : t833 = true
    · have H := if_yes c1299 H
      have c1299b0 : t833 = true := c1299
      have c1299b1 : (!t833) = false := by rw [c1299b0]; rfl
      try rw [c1299b1]
      clear c1299
      by_cases c1300 : (l5.length : Int) > 200
      · have H := if_yes c1300 H
        have c1300b0 : decide (200 < (l5.length : Int)) = true := decide_eq_true c1300
        have c1300b1 : decide (200 < l5.length) = true := decide_eq_true (by omega)
        clear c1300
        go_wp2_with fail
        obtain ⟨t1256, HA1301, H⟩ := bind_some H
        refine (quitrentlaw05_begun.calls _ t1256 _ ⟨Sep.start _⟩ HA1301).mono ?_
        rintro e_ w1302 ⟨rfl, hS⟩
        replace HS : Aside0 (Sep (fps []) w [b7 g1287 g1288 t807.1 t807.2.1 t807.2.2.1 t807.2.2.2.1, b6 g1288 A1289 ((t807.2.2.2.2).length) n1291 0, r5 A1289 ((t807.2.2.2.2).length) n1291 t807.2.2.2.2, b1 g9 a1 a2 a3 a4] w1302) := ⟨HS.out.call hS⟩
        clear hS
        replace HS : Aside0 (Sep (fps []) w [] w1302) := ⟨HS.out.sub (.cons _ (.cons _ (.cons _ (.cons _ .slnil))))⟩
        go_wp2_with fail
        go_ret
        rw [← some_eq H]
        exact ⟨(by first | rfl | (simp [IntKind.wrap_u32]; done)), HS.out⟩
      · have H := if_no c1300 H
        have c1300b0 : decide (200 < (l5.length : Int)) = false := decide_eq_false c1300
        have c1300b1 : decide (200 < l5.length) = false := decide_eq_false (by omega)
        clear c1300
        have hc1303 : w1298.cell? ⟨g9, 0, none⟩ = some (.int .i64 a1) := blk_cellv (HS.out.at3) 0 rfl
        have hc1304 : w1298.cell? ⟨g9, 1, none⟩ = some (.int .i64 a2) := blk_cellv (HS.out.at3) 1 rfl
        have hc1305 : w1298.cell? ⟨g9, 2, none⟩ = some (.int .i64 a3) := blk_cellv (HS.out.at3) 2 rfl
        have hc1306 : w1298.cell? ⟨g9, 3, none⟩ = some (.int .i64 a4) := blk_cellv (HS.out.at3) 3 rfl
        go_wp2_with fail
        clear hc1303 hc1304 hc1305 hc1306
        obtain ⟨t1275, HA1307, H⟩ := bind_some H
        refine (quitrentref05_Little.calls a1 a2 a3 a4 t1275 _ ⟨Sep.start _⟩ HA1307).mono ?_
        rintro e_ w1308 ⟨rfl, hS⟩
        replace HS : Aside0 (Sep (fps []) w [b7 g1287 g1288 t807.1 t807.2.1 t807.2.2.1 t807.2.2.2.1, b6 g1288 A1289 ((t807.2.2.2.2).length) n1291 0, r5 A1289 ((t807.2.2.2.2).length) n1291 t807.2.2.2.2, b1 g9 a1 a2 a3 a4] w1308) := ⟨HS.out.call hS⟩
        clear hS
        by_cases c1309 : t1275 = true
        · have H := if_yes c1309 H
          have c1309b0 : t1275 = true := c1309
          have c1309b1 : (!t1275) = false := by rw [c1309b0]; rfl
          try rw [c1309b1]
          clear c1309
          go_wp2_with fail
          refine start_ (n := 12) (S := (fun w' => w'.cell? ⟨g9, 0, none⟩ = some (.int .i64 a1) ∧ w'.cell? ⟨g9, 1, none⟩ = some (.int .i64 a2) ∧ w'.cell? ⟨g9, 2, none⟩ = some (.int .i64 a3) ∧ w'.cell? ⟨g9, 3, none⟩ = some (.int .i64 a4))) (ds := []) #[false, false, false, false, false, false, false, false, false, false, false, false] (by kernel_rfl) rfl rfl (⟨blk_cellv ((HS.out.drew).at3) 0 rfl, blk_cellv ((HS.out.drew).at3) 1 rfl, blk_cellv ((HS.out.drew).at3) 2 rfl, blk_cellv ((HS.out.drew).at3) 3 rfl⟩) (fun hHeld => ?_)
          have HS_ := Aside0.mk HS.out.drew
          clear HS
          generalize World.drew _ = w1311 at HS_ hHeld ⊢
          have HS := HS_
          clear HS_
          refine pure_ (i := 0) (N := some 36) (v := ?_) (a' := ?_) #[true, false, false, false, false, false, false, false, false, false, false, false] rfl rfl (by kernel_rfl) (fun _ _ _ h => h) (Or.inl ⟨by rfl, ?_⟩) ?_ ?_
          rotate_left
          · intro w'
            go_simp
            with_reducible rfl
          rotate_left
          · simp only [Act.put, List.setIfInBounds_toArray, List.set_cons_zero, List.set_cons_succ, i64_w, i32_w]
            rfl
          refine pure_ (i := 1) (N := some 37) (v := ?_) (a' := ?_) #[true, true, false, false, false, false, false, false, false, false, false, false] rfl rfl (by kernel_rfl) (fun _ _ _ h => h) (Or.inl ⟨by rfl, ?_⟩) ?_ ?_
          rotate_left
          · intro w'
            go_simp
            with_reducible rfl
          rotate_left
          · simp only [Act.put, List.setIfInBounds_toArray, List.set_cons_zero, List.set_cons_succ, i64_w, i32_w]
            rfl
          refine pure_ (i := 2) (N := some 38) (v := ?_) (a' := ?_) #[true, true, true, false, false, false, false, false, false, false, false, false] rfl rfl (by kernel_rfl) (fun _ _ _ h => h) (Or.inl ⟨by rfl, ?_⟩) ?_ ?_
          rotate_left
          · intro w'
            go_simp
            with_reducible rfl
          rotate_left
          · simp only [Act.put, List.setIfInBounds_toArray, List.set_cons_zero, List.set_cons_succ, i64_w, i32_w]
            rfl
          refine pure_ (i := 3) (N := some 39) (v := ?_) (a' := ?_) #[true, true, true, true, false, false, false, false, false, false, false, false] rfl rfl (by kernel_rfl) (fun _ _ _ h => h) (Or.inl ⟨by rfl, ?_⟩) ?_ ?_
          rotate_left
          · intro w'
            go_simp
            with_reducible rfl
          rotate_left
          · simp only [Act.put, List.setIfInBounds_toArray, List.set_cons_zero, List.set_cons_succ, i64_w, i32_w]
            rfl
          refine pure_ (i := 4) (N := some 40) (v := ?_) (a' := ?_) #[true, true, true, true, true, false, false, false, false, false, false, false] rfl rfl (by kernel_rfl) (fun _ _ _ h => h) (Or.inl ⟨by rfl, ?_⟩) ?_ ?_
          rotate_left
          · intro w'
            go_simp
            with_reducible rfl
          rotate_left
          · simp only [Act.put, List.setIfInBounds_toArray, List.set_cons_zero, List.set_cons_succ, i64_w, i32_w]
            rfl
          refine pure_ (i := 5) (N := some 41) (v := ?_) (a' := ?_) #[true, true, true, true, true, true, false, false, false, false, false, false] rfl rfl (by kernel_rfl) (fun _ _ _ h => h) (Or.inl ⟨by rfl, ?_⟩) ?_ ?_
          rotate_left
          · intro w'
            go_simp
            with_reducible rfl
          rotate_left
          · simp only [Act.put, List.setIfInBounds_toArray, List.set_cons_zero, List.set_cons_succ, i64_w, i32_w]
            rfl
          refine pure_ (i := 6) (N := some 42) (v := ?_) (a' := ?_) #[true, true, true, true, true, true, true, false, false, false, false, false] rfl rfl (by kernel_rfl) (fun _ _ _ h => h) (Or.inl ⟨by rfl, ?_⟩) ?_ ?_
          rotate_left
          · intro w'
            go_simp
            with_reducible rfl
          rotate_left
          · simp only [Act.put, List.setIfInBounds_toArray, List.set_cons_zero, List.set_cons_succ, i64_w, i32_w]
            rfl
          refine pure_ (i := 7) (N := some 43) (v := ?_) (a' := ?_) #[true, true, true, true, true, true, true, true, false, false, false, false] rfl rfl (by kernel_rfl) (fun _ _ _ h => h) (Or.inl ⟨by rfl, ?_⟩) ?_ ?_
          rotate_left
          · intro w'
            go_simp
            with_reducible rfl
          rotate_left
          · simp only [Act.put, List.setIfInBounds_toArray, List.set_cons_zero, List.set_cons_succ, i64_w, i32_w]
            rfl
          refine take_ (i := 9) (N := some 45) (v := ?_) (a' := ?_) #[true, true, true, true, true, true, true, true, false, true, false, false] rfl rfl (by kernel_rfl) (fun _ _ _ h => h) (Or.inl ⟨by rfl, ?_⟩) hHeld ?_ ?_
          rotate_left
          · rintro w' hS'
            obtain ⟨s0, s1, s2, s3⟩ := hS'
            go_simp
            with_reducible rfl
          rotate_left
          · simp only [Act.put, List.setIfInBounds_toArray, List.set_cons_zero, List.set_cons_succ, i64_w, i32_w]
            rfl
          refine one_ (i := 8) (N := some 44) #[true, true, true, true, true, true, true, true, true, true, false, false] rfl rfl (by kernel_rfl) (by decide) (fun K hK => ?_)
          obtain ⟨t1312, HA1313, H⟩ := bind_some H
          refine goes_ Try.func39 (by kernel_rfl) rfl #[.pointer (some ⟨g1287, 0, none⟩)] (by rfl) rfl rfl (by (try simp only [List.map_toArray, List.map_cons, List.map_nil]); first | done | rfl) ?_
          refine (ground_Ground_Conf.calls t807.2.2.2.2 0 t807.1 t807.2.1 t807.2.2.1 t807.2.2.2.1 g1287 g1288 A1289 ((t807.2.2.2.2).length) n1291 t1312 _ ⟨HS.out.begin⟩ HA1313).mono ?_
          rintro e_ w1314 ⟨rfl, hS⟩
          replace HS : Aside0 (Sep (fps []) w [b7 g1287 g1288 t807.1 t807.2.1 t807.2.2.1 t807.2.2.2.1, b6 g1288 A1289 ((t807.2.2.2.2).length) n1291 0, r5 A1289 ((t807.2.2.2.2).length) n1291 t807.2.2.2.2, b1 g9 a1 a2 a3 a4] w1314) := ⟨HS.out.call hS⟩
          clear hS
          refine ⟨_, rfl, ?_⟩
          refine hK.out _ _ (⟨blk_cellv (HS.out.at3) 0 rfl, blk_cellv (HS.out.at3) 1 rfl, blk_cellv (HS.out.at3) 2 rfl, blk_cellv (HS.out.at3) 3 rfl⟩) (fun hHeld => ?_)
          clear hK K
          refine norm_ (a' := ?_) ?_ ?_
          rotate_left
          · show Act.put _ (some 44) _ = _
            simp only [Act.put, List.setIfInBounds_toArray, List.set_cons_zero, List.set_cons_succ, i64_w, i32_w]
            rfl
          by_cases c1315 : t1312.1 = a1
          · have H := if_yes c1315 H
            have c1315b0 : (t1312.1 == a1) = true := beq_iff_eq.mpr c1315
            have c1315b1 : (t1312.1 != a1) = false := bne_eq_false_iff_eq.mpr c1315
            clear c1315
            by_cases c1316 : t1312.2.1 = a2
            · have H := if_yes c1316 H
              have c1316b0 : (t1312.2.1 == a2) = true := beq_iff_eq.mpr c1316
              have c1316b1 : (t1312.2.1 != a2) = false := bne_eq_false_iff_eq.mpr c1316
              clear c1316
              by_cases c1317 : t1312.2.2.1 = a3
              · have H := if_yes c1317 H
                have c1317b0 : (t1312.2.2.1 == a3) = true := beq_iff_eq.mpr c1317
                have c1317b1 : (t1312.2.2.1 != a3) = false := bne_eq_false_iff_eq.mpr c1317
                clear c1317
                by_cases c1318 : t1312.2.2.2 = a4
                · have H := if_yes c1318 H
                  have c1318b0 : (t1312.2.2.2 == a4) = true := beq_iff_eq.mpr c1318
                  have c1318b1 : (t1312.2.2.2 != a4) = false := bne_eq_false_iff_eq.mpr c1318
                  clear c1318
                  refine pure_ (i := 10) (N := some 46) (v := ?_) (a' := ?_) #[true, true, true, true, true, true, true, true, true, true, true, false] rfl rfl (by kernel_rfl) (fun _ _ _ h => h) (Or.inl ⟨by rfl, ?_⟩) ?_ ?_
                  rotate_left
                  · intro w'
                    go_simp
                    with_reducible rfl
                  rotate_left
                  · simp only [Act.put, List.setIfInBounds_toArray, List.set_cons_zero, List.set_cons_succ, i64_w, i32_w]
                    rfl
                  refine pure_ (i := 11) (N := some 47) (v := ?_) (a' := ?_) #[true, true, true, true, true, true, true, true, true, true, true, true] rfl rfl (by kernel_rfl) (fun _ _ _ h => h) (Or.inl ⟨by rfl, ?_⟩) ?_ ?_
                  rotate_left
                  · intro w'
                    go_simp
                    with_reducible rfl
                  rotate_left
                  · simp only [Act.put, List.setIfInBounds_toArray, List.set_cons_zero, List.set_cons_succ, i64_w, i32_w]
                    rfl
                  refine done_ (by kernel_rfl) ?_
                  have hc1319 : w1314.cell? ⟨g9, 0, none⟩ = some (.int .i64 a1) := blk_cellv (HS.out.at3) 0 rfl
                  have hc1320 : w1314.cell? ⟨g9, 1, none⟩ = some (.int .i64 a2) := blk_cellv (HS.out.at3) 1 rfl
                  have hc1321 : w1314.cell? ⟨g9, 2, none⟩ = some (.int .i64 a3) := blk_cellv (HS.out.at3) 2 rfl
                  have hc1322 : w1314.cell? ⟨g9, 3, none⟩ = some (.int .i64 a4) := blk_cellv (HS.out.at3) 3 rfl
                  go_wp2_with fail
                  clear hc1319 hc1320 hc1321 hc1322
                  obtain ⟨t1389, HA1390, H⟩ := bind_some H
                  refine (quitrentref05_New.calls a1 a2 a3 a4 t1389 _ ⟨Sep.start _⟩ HA1390).mono ?_
                  rintro e_ w1391 ⟨g1395, rfl, g1396, A1397, m1398, n1399, hS⟩
                  replace HS : Aside0 (Sep (fps []) w [b9 g1395 t1389.1 t1389.2.1 t1389.2.2.1 t1389.2.2.2.1 g1396, b8 g1396 A1397 m1398 n1399 0, r5 A1397 m1398 n1399 t1389.2.2.2.2, b7 g1287 g1288 t807.1 t807.2.1 t807.2.2.1 t807.2.2.2.1, b6 g1288 A1289 ((t807.2.2.2.2).length) n1291 0, r5 A1289 ((t807.2.2.2.2).length) n1291 t807.2.2.2.2, b1 g9 a1 a2 a3 a4] w1391) := ⟨HS.out.call hS⟩
                  clear hS
                  obtain rfl := (row_len (HS.out.at2)).symm
                  replace HS : Aside0 (Sep (fps []) w [b9 g1395 t1389.1 t1389.2.1 t1389.2.2.1 t1389.2.2.2.1 g1396, b8 g1396 A1397 ((t1389.2.2.2.2).length) n1399 0, r5 A1397 ((t1389.2.2.2.2).length) n1399 t1389.2.2.2.2, b7 g1287 g1288 t807.1 t807.2.1 t807.2.2.1 t807.2.2.2.1, b6 g1288 A1289 ((t807.2.2.2.2).length) n1291 0, r5 A1289 ((t807.2.2.2.2).length) n1291 t807.2.2.2.2] w1391) := ⟨HS.out.sub (.cons_cons _ (.cons_cons _ (.cons_cons _ (.cons_cons _ (.cons_cons _ (.cons_cons _ (.cons _ .slnil)))))))⟩
                  go_wp2_with fail
                  obtain ⟨o2331, AL2332, H⟩ := bind_some H
                  go_loopg [52] k (fun kq v52 wc => ∃ (x2335 : Int) (x2336 : List Int) (x2337 : List Int) (x2338 : Int) (x2339 : Int), v52 = .int .i64 x2335 ∧ Aside0 (quitrentlaw05_GroundPlays.lo0 kq l5 t807 t1389 x2335 x2336 x2337 x2338 x2339 = some o2331) ∧ Aside0 (Sep (fps []) w [b9 g1395 t1389.1 t1389.2.1 t1389.2.2.1 t1389.2.2.2.1 g1396, b8 g1396 A1397 ((t1389.2.2.2.2).length) n1399 x2338, r5 A1397 ((t1389.2.2.2.2).length) n1399 x2336, b7 g1287 g1288 t807.1 t807.2.1 t807.2.2.1 t807.2.2.2.1, b6 g1288 A1289 ((t807.2.2.2.2).length) n1291 x2339, r5 A1289 ((t807.2.2.2.2).length) n1291 x2337] wc))
                  case atStart => exact ⟨(0), (t1389.2.2.2.2), (t807.2.2.2.2), (0), (0), (by first | rfl | (simp [IntKind.wrap_u32]; done)), AL2332, ⟨HS.out⟩⟩
                  case round =>
                    clear AL2332 HS
                    obtain ⟨x2335, x2336, x2337, x2338, x2339, rfl, AL2332, HS⟩ := hrel
                    obtain ⟨w2333, rfl⟩ : ∃ x : World, x = wr := ⟨_, rfl⟩
                    cases gk with
                    | zero => exact absurd AL2332.out (by simp [quitrentlaw05_GroundPlays.lo0])
                    | succ k2334 =>
                      have AL0 := AL2332.out
                      rw [quitrentlaw05_GroundPlays.lo0] at AL0
                      clear AL2332
                      have AL2332 := Aside0.mk AL0
                      clear AL0
                      by_cases c2340 : x2335 < (l5.length : Int)
                      · have AL2332 := if_yes c2340 AL2332
                        have c2340b0 : decide (x2335 < (l5.length : Int)) = true := decide_eq_true c2340
                        clear c2340
                        by_cases c2341 : 0 ≤ x2335
                        · have AL2332 := if_yes c2341 AL2332
                          have c2341b0 : decide (0 ≤ x2335) = true := decide_eq_true c2341
                          have c2341p : (0 ≤ x2335) = True := eq_true c2341
                          clear c2341
                          have ip2342 : (x2335 < (l5.length : Int)) = True := eq_true (of_decide_eq_true c2340b0)
                          obtain ⟨hx2343a, hx2343e, hx2344, hx2345, hx2346, hx2347⟩ := s10_at HR8.out HS.out.fr x2335 (of_decide_eq_true c2341b0) (of_decide_eq_true c2340b0); cases hx2343e
                          go_wp2_with (first | ((with_reducible refine gate_dst (N := 9) rfl ?_); refine box_on ?hg (N := 9) ?hd (cs := #[.int .u8 0, .int .i64 0, .int .i64 0, .int .i64 0]) (t := 66) ?hr ?_; (case hd => rfl); (case hg => rfl); (case hr => first | (go_simp; done) | (go_simp; rfl)); intro g2348 hg w2349 hbox hb; clear hx2344 hx2345 hx2346 hx2347; replace HS : Aside0 (Sep (fps []) w [b9 g1395 t1389.1 t1389.2.1 t1389.2.2.1 t1389.2.2.2.1 g1396, b8 g1396 A1397 ((t1389.2.2.2.2).length) n1399 x2338, r5 A1397 ((t1389.2.2.2.2).length) n1399 x2336, b7 g1287 g1288 t807.1 t807.2.1 t807.2.2.1 t807.2.2.2.1, b6 g1288 A1289 ((t807.2.2.2.2).length) n1291 x2339, r5 A1289 ((t807.2.2.2.2).length) n1291 x2337, b11 g2348 0 0 0 0] w2349) := ⟨HS.out.box hg hbox hb⟩; clear hg hbox hb; have hc2351 : w2349.cell? ⟨g2348, 0, none⟩ = some (.int .u8 0) := blk_cellv (HS.out.at6) 0 rfl; have hz2352 : w2349.frozen? ⟨g2348, 0, none⟩ = false := blk_fz (HS.out.at6) 0; have hc2353 : w2349.cell? ⟨g2348, 1, none⟩ = some (.int .i64 0) := blk_cellv (HS.out.at6) 1 rfl; have hz2354 : w2349.frozen? ⟨g2348, 1, none⟩ = false := blk_fz (HS.out.at6) 1; have hc2355 : w2349.cell? ⟨g2348, 2, none⟩ = some (.int .i64 0) := blk_cellv (HS.out.at6) 2 rfl; have hz2356 : w2349.frozen? ⟨g2348, 2, none⟩ = false := blk_fz (HS.out.at6) 2; have hc2357 : w2349.cell? ⟨g2348, 3, none⟩ = some (.int .i64 0) := blk_cellv (HS.out.at6) 3 rfl; have hz2358 : w2349.frozen? ⟨g2348, 3, none⟩ = false := blk_fz (HS.out.at6) 3) | ((with_reducible refine gate_store (t := 66) (p := 9) rfl ?_); refine store_event (w1 := (World.setCell (World.setCell (World.setCell (World.setCell w2349 ⟨g2348, 0, none⟩ (.int .u8 ((rdOf (0, 0, 0, 0) l5 x2335).1))) ⟨g2348, 1, none⟩ (.int .i64 ((rdOf (0, 0, 0, 0) l5 x2335).2.1))) ⟨g2348, 2, none⟩ (.int .i64 ((rdOf (0, 0, 0, 0) l5 x2335).2.2.1))) ⟨g2348, 3, none⟩ (.int .i64 ((rdOf (0, 0, 0, 0) l5 x2335).2.2.2)))) rfl (t := 66) (p := 9) rfl rfl ?hr ?_; (case hr => first | (go_simp; done) | (go_simp; rfl)); intro w2359 hst; clear hc2351 hz2352 hc2353 hz2354 hc2355 hz2356 hc2357 hz2358; replace HS : Aside0 (Sep (fps []) w [b9 g1395 t1389.1 t1389.2.1 t1389.2.2.1 t1389.2.2.2.1 g1396, b8 g1396 A1397 ((t1389.2.2.2.2).length) n1399 x2338, r5 A1397 ((t1389.2.2.2.2).length) n1399 x2336, b7 g1287 g1288 t807.1 t807.2.1 t807.2.2.1 t807.2.2.2.1, b6 g1288 A1289 ((t807.2.2.2.2).length) n1291 x2339, r5 A1289 ((t807.2.2.2.2).length) n1291 x2337, b11 g2348 ((rdOf (0, 0, 0, 0) l5 x2335).1) ((rdOf (0, 0, 0, 0) l5 x2335).2.1) ((rdOf (0, 0, 0, 0) l5 x2335).2.2.1) ((rdOf (0, 0, 0, 0) l5 x2335).2.2.2)] w2359) := ⟨by rw [hst]; exact HS.out.setAll (l1 := [b9 g1395 t1389.1 t1389.2.1 t1389.2.2.1 t1389.2.2.2.1 g1396, b8 g1396 A1397 ((t1389.2.2.2.2).length) n1399 x2338, r5 A1397 ((t1389.2.2.2.2).length) n1399 x2336, b7 g1287 g1288 t807.1 t807.2.1 t807.2.2.1 t807.2.2.2.1, b6 g1288 A1289 ((t807.2.2.2.2).length) n1291 x2339, r5 A1289 ((t807.2.2.2.2).length) n1291 x2337]) (l2 := []) [.int .u8 ((rdOf (0, 0, 0, 0) l5 x2335).1), .int .i64 ((rdOf (0, 0, 0, 0) l5 x2335).2.1), .int .i64 ((rdOf (0, 0, 0, 0) l5 x2335).2.2.1), .int .i64 ((rdOf (0, 0, 0, 0) l5 x2335).2.2.2)] rfl⟩; clear hst))
                          refine start_ (n := 17) (S := (fun w' => w'.cell? ⟨g2348, 0, none⟩ = some (.int .u8 ((rdOf (0, 0, 0, 0) l5 x2335).1)) ∧ w'.cell? ⟨g2348, 1, none⟩ = some (.int .i64 ((rdOf (0, 0, 0, 0) l5 x2335).2.1)) ∧ w'.cell? ⟨g2348, 2, none⟩ = some (.int .i64 ((rdOf (0, 0, 0, 0) l5 x2335).2.2.1)) ∧ w'.cell? ⟨g2348, 3, none⟩ = some (.int .i64 ((rdOf (0, 0, 0, 0) l5 x2335).2.2.2)) ∧ w'.cell? ⟨g1395, 4, none⟩ = some (.pointer (some ⟨g1396, 0, none⟩)))) (ds := []) #[false, false, false, false, false, false, false, false, false, false, false, false, false, false, false, false, false] (by kernel_rfl) rfl rfl (⟨blk_cellv ((HS.out.drew).at6) 0 rfl, blk_cellv ((HS.out.drew).at6) 1 rfl, blk_cellv ((HS.out.drew).at6) 2 rfl, blk_cellv ((HS.out.drew).at6) 3 rfl, blk_cellv ((HS.out.drew).at0) 4 rfl⟩) (fun hHeld => ?_)
                          have HS_ := Aside0.mk HS.out.drew
                          clear HS
                          generalize World.drew _ = w2369 at HS_ hHeld ⊢
                          have HS := HS_
                          clear HS_
                          refine pure_ (i := 0) (N := some 56) (v := ?_) (a' := ?_) #[true, false, false, false, false, false, false, false, false, false, false, false, false, false, false, false, false] rfl rfl (by kernel_rfl) (fun _ _ _ h => h) (Or.inl ⟨by rfl, ?_⟩) ?_ ?_
                          rotate_left
                          · intro w'
                            go_simp
                            with_reducible rfl
                          rotate_left
                          · simp only [Act.put, List.setIfInBounds_toArray, List.set_cons_zero, List.set_cons_succ, i64_w, i32_w]
                            rfl
                          refine pure_ (i := 1) (N := some 57) (v := ?_) (a' := ?_) #[true, true, false, false, false, false, false, false, false, false, false, false, false, false, false, false, false] rfl rfl (by kernel_rfl) (fun _ _ _ h => h) (Or.inl ⟨by rfl, ?_⟩) ?_ ?_
                          rotate_left
                          · intro w'
                            go_simp
                            with_reducible rfl
                          rotate_left
                          · simp only [Act.put, List.setIfInBounds_toArray, List.set_cons_zero, List.set_cons_succ, i64_w, i32_w]
                            rfl
                          refine take_ (i := 2) (N := some 58) (v := ?_) (a' := ?_) #[true, true, true, false, false, false, false, false, false, false, false, false, false, false, false, false, false] rfl rfl (by kernel_rfl) (fun _ _ _ h => h) (Or.inl ⟨by rfl, ?_⟩) hHeld ?_ ?_
                          rotate_left
                          · rintro w' hS'
                            obtain ⟨s0, s1, s2, s3, s4⟩ := hS'
                            go_simp
                            with_reducible rfl
                          rotate_left
                          · simp only [Act.put, List.setIfInBounds_toArray, List.set_cons_zero, List.set_cons_succ, i64_w, i32_w]
                            rfl
                          refine one_ (i := 3) (N := some 59) #[true, true, true, true, false, false, false, false, false, false, false, false, false, false, false, false, false] rfl rfl (by kernel_rfl) (by decide) (fun K hK => ?_)
                          replace HS : Aside0 (Sep (fps []) w [r5 A1397 ((t1389.2.2.2.2).length) n1399 x2336, b9 g1395 t1389.1 t1389.2.1 t1389.2.2.1 t1389.2.2.2.1 g1396, b8 g1396 A1397 ((t1389.2.2.2.2).length) n1399 x2338, b7 g1287 g1288 t807.1 t807.2.1 t807.2.2.1 t807.2.2.2.1, b6 g1288 A1289 ((t807.2.2.2.2).length) n1291 x2339, r5 A1289 ((t807.2.2.2.2).length) n1291 x2337, b11 g2348 ((rdOf (0, 0, 0, 0) l5 x2335).1) ((rdOf (0, 0, 0, 0) l5 x2335).2.1) ((rdOf (0, 0, 0, 0) l5 x2335).2.2.1) ((rdOf (0, 0, 0, 0) l5 x2335).2.2.2)] w2369) := ⟨HS.out.front 2 (by simp)⟩
                          replace HS : Aside0 (Sep (fps []) w [b8 g1396 A1397 ((t1389.2.2.2.2).length) n1399 x2338, r5 A1397 ((t1389.2.2.2.2).length) n1399 x2336, b9 g1395 t1389.1 t1389.2.1 t1389.2.2.1 t1389.2.2.2.1 g1396, b7 g1287 g1288 t807.1 t807.2.1 t807.2.2.1 t807.2.2.2.1, b6 g1288 A1289 ((t807.2.2.2.2).length) n1291 x2339, r5 A1289 ((t807.2.2.2.2).length) n1291 x2337, b11 g2348 ((rdOf (0, 0, 0, 0) l5 x2335).1) ((rdOf (0, 0, 0, 0) l5 x2335).2.1) ((rdOf (0, 0, 0, 0) l5 x2335).2.2.1) ((rdOf (0, 0, 0, 0) l5 x2335).2.2.2)] w2369) := ⟨HS.out.front 2 (by simp)⟩
                          replace HS : Aside0 (Sep (fps []) w [b9 g1395 t1389.1 t1389.2.1 t1389.2.2.1 t1389.2.2.2.1 g1396, b8 g1396 A1397 ((t1389.2.2.2.2).length) n1399 x2338, r5 A1397 ((t1389.2.2.2.2).length) n1399 x2336, b7 g1287 g1288 t807.1 t807.2.1 t807.2.2.1 t807.2.2.2.1, b6 g1288 A1289 ((t807.2.2.2.2).length) n1291 x2339, r5 A1289 ((t807.2.2.2.2).length) n1291 x2337, b11 g2348 ((rdOf (0, 0, 0, 0) l5 x2335).1) ((rdOf (0, 0, 0, 0) l5 x2335).2.1) ((rdOf (0, 0, 0, 0) l5 x2335).2.2.1) ((rdOf (0, 0, 0, 0) l5 x2335).2.2.2)] w2369) := ⟨HS.out.front 2 (by simp)⟩
                          replace HS : Aside0 (Sep (fps []) w [r5 A1289 ((t807.2.2.2.2).length) n1291 x2337, b9 g1395 t1389.1 t1389.2.1 t1389.2.2.1 t1389.2.2.2.1 g1396, b8 g1396 A1397 ((t1389.2.2.2.2).length) n1399 x2338, r5 A1397 ((t1389.2.2.2.2).length) n1399 x2336, b7 g1287 g1288 t807.1 t807.2.1 t807.2.2.1 t807.2.2.2.1, b6 g1288 A1289 ((t807.2.2.2.2).length) n1291 x2339, b11 g2348 ((rdOf (0, 0, 0, 0) l5 x2335).1) ((rdOf (0, 0, 0, 0) l5 x2335).2.1) ((rdOf (0, 0, 0, 0) l5 x2335).2.2.1) ((rdOf (0, 0, 0, 0) l5 x2335).2.2.2)] w2369) := ⟨HS.out.front 5 (by simp)⟩
                          replace HS : Aside0 (Sep (fps []) w [b6 g1288 A1289 ((t807.2.2.2.2).length) n1291 x2339, r5 A1289 ((t807.2.2.2.2).length) n1291 x2337, b9 g1395 t1389.1 t1389.2.1 t1389.2.2.1 t1389.2.2.2.1 g1396, b8 g1396 A1397 ((t1389.2.2.2.2).length) n1399 x2338, r5 A1397 ((t1389.2.2.2.2).length) n1399 x2336, b7 g1287 g1288 t807.1 t807.2.1 t807.2.2.1 t807.2.2.2.1, b11 g2348 ((rdOf (0, 0, 0, 0) l5 x2335).1) ((rdOf (0, 0, 0, 0) l5 x2335).2.1) ((rdOf (0, 0, 0, 0) l5 x2335).2.2.1) ((rdOf (0, 0, 0, 0) l5 x2335).2.2.2)] w2369) := ⟨HS.out.front 5 (by simp)⟩
                          replace HS : Aside0 (Sep (fps []) w [b7 g1287 g1288 t807.1 t807.2.1 t807.2.2.1 t807.2.2.2.1, b6 g1288 A1289 ((t807.2.2.2.2).length) n1291 x2339, r5 A1289 ((t807.2.2.2.2).length) n1291 x2337, b9 g1395 t1389.1 t1389.2.1 t1389.2.2.1 t1389.2.2.2.1 g1396, b8 g1396 A1397 ((t1389.2.2.2.2).length) n1399 x2338, r5 A1397 ((t1389.2.2.2.2).length) n1399 x2336, b11 g2348 ((rdOf (0, 0, 0, 0) l5 x2335).1) ((rdOf (0, 0, 0, 0) l5 x2335).2.1) ((rdOf (0, 0, 0, 0) l5 x2335).2.2.1) ((rdOf (0, 0, 0, 0) l5 x2335).2.2.2)] w2369) := ⟨HS.out.front 5 (by simp)⟩
                          obtain ⟨t2286, HA2370, AL2332⟩ := bind_some AL2332
                          refine goes_ Try.func41 (by kernel_rfl) rfl #[.pointer (some ⟨g1287, 0, none⟩), .pointer (some ⟨g1395, 0, none⟩), .agg #[.int .u8 ((rdOf (0, 0, 0, 0) l5 x2335).1), .int .i64 ((rdOf (0, 0, 0, 0) l5 x2335).2.1), .int .i64 ((rdOf (0, 0, 0, 0) l5 x2335).2.2.1), .int .i64 ((rdOf (0, 0, 0, 0) l5 x2335).2.2.2)]] (by rfl) rfl rfl (by (try simp only [List.map_toArray, List.map_cons, List.map_nil]); first | done | rfl) ?_
                          refine (quitrentlaw05_do.calls _ x2337 x2339 t807.1 t807.2.1 t807.2.2.1 t807.2.2.2.1 t1389.1 t1389.2.1 t1389.2.2.1 t1389.2.2.2.1 x2336 x2338 ((rdOf (0, 0, 0, 0) l5 x2335).1) ((rdOf (0, 0, 0, 0) l5 x2335).2.1) ((rdOf (0, 0, 0, 0) l5 x2335).2.2.1) ((rdOf (0, 0, 0, 0) l5 x2335).2.2.2) g1287 g1288 A1289 ((t807.2.2.2.2).length) n1291 g1395 g1396 A1397 ((t1389.2.2.2.2).length) n1399 t2286 _ ⟨HS.out.begin⟩ HA2370).mono ?_
                          rintro e_ w2371 ⟨rfl, hS⟩
                          replace HS : Aside0 (Sep (fps []) w [b7 g1287 g1288 t807.1 t807.2.1 t807.2.2.1 t807.2.2.2.1, b6 g1288 A1289 ((t807.2.2.2.2).length) n1291 t2286.2.1, r5 A1289 ((t807.2.2.2.2).length) n1291 t2286.2.2.1, b9 g1395 t1389.1 t1389.2.1 t1389.2.2.1 t1389.2.2.2.1 g1396, b8 g1396 A1397 ((t1389.2.2.2.2).length) n1399 t2286.2.2.2.1, r5 A1397 ((t1389.2.2.2.2).length) n1399 t2286.2.2.2.2, b11 g2348 ((rdOf (0, 0, 0, 0) l5 x2335).1) ((rdOf (0, 0, 0, 0) l5 x2335).2.1) ((rdOf (0, 0, 0, 0) l5 x2335).2.2.1) ((rdOf (0, 0, 0, 0) l5 x2335).2.2.2)] w2371) := ⟨HS.out.call hS⟩
                          clear hS
                          refine ⟨_, rfl, ?_⟩
                          refine hK.out _ _ (⟨blk_cellv (HS.out.at6) 0 rfl, blk_cellv (HS.out.at6) 1 rfl, blk_cellv (HS.out.at6) 2 rfl, blk_cellv (HS.out.at6) 3 rfl, blk_cellv (HS.out.at3) 4 rfl⟩) (fun hHeld => ?_)
                          clear hK K
                          refine norm_ (a' := ?_) ?_ ?_
                          rotate_left
                          · show Act.put _ (some 59) _ = _
                            simp only [Act.put, List.setIfInBounds_toArray, List.set_cons_zero, List.set_cons_succ, i64_w, i32_w]
                            rfl
                          refine pure_ (i := 4) (N := some 60) (v := ?_) (a' := ?_) #[true, true, true, true, true, false, false, false, false, false, false, false, false, false, false, false, false] rfl rfl (by kernel_rfl) (fun _ _ _ h => h) (Or.inl ⟨by rfl, ?_⟩) ?_ ?_
                          rotate_left
                          · intro w'
                            go_simp
                            with_reducible rfl
                          rotate_left
                          · simp only [Act.put, List.setIfInBounds_toArray, List.set_cons_zero, List.set_cons_succ, i64_w, i32_w]
                            rfl
                          refine pure_ (i := 5) (N := some 61) (v := ?_) (a' := ?_) #[true, true, true, true, true, true, false, false, false, false, false, false, false, false, false, false, false] rfl rfl (by kernel_rfl) (fun _ _ _ h => h) (Or.inl ⟨by rfl, ?_⟩) ?_ ?_
                          rotate_left
                          · intro w'
                            go_simp
                            with_reducible rfl
                          rotate_left
                          · simp only [Act.put, List.setIfInBounds_toArray, List.set_cons_zero, List.set_cons_succ, i64_w, i32_w]
                            rfl
                          by_cases c2372 : t2286.1 = true
                          · have AL2332 := if_yes c2372 AL2332
                            have c2372b0 : t2286.1 = true := c2372
                            have c2372b1 : (!t2286.1) = false := by rw [c2372b0]; rfl
                            try rw [c2372b1]
                            clear c2372
                            try simp only [c2372b0, Bool.not_true, Bool.not_false]
                            refine pure_ (i := 6) (N := some 62) (v := ?_) (a' := ?_) #[true, true, true, true, true, true, true, false, false, false, false, false, false, false, false, false, false] rfl rfl (by kernel_rfl) (fun _ _ _ h => h) (Or.inl ⟨by rfl, ?_⟩) ?_ ?_
                            rotate_left
                            · intro w'
                              go_simp
                              with_reducible rfl
                            rotate_left
                            · simp only [Act.put, List.setIfInBounds_toArray, List.set_cons_zero, List.set_cons_succ, i64_w, i32_w]
                              rfl
                            try simp only [c2372b0, Bool.not_true, Bool.not_false]
                            refine pure_ (i := 8) (N := some 64) (v := ?_) (a' := ?_) #[true, true, true, true, true, true, true, false, true, false, false, false, false, false, false, false, false] rfl rfl (by kernel_rfl) (fun _ _ _ h => h) (Or.inl ⟨by rfl, ?_⟩) ?_ ?_
                            rotate_left
                            · intro w'
                              go_simp
                              with_reducible rfl
                            rotate_left
                            · simp only [Act.put, List.setIfInBounds_toArray, List.set_cons_zero, List.set_cons_succ, i64_w, i32_w]
                              rfl
                            try simp only [c2372b0, Bool.not_true, Bool.not_false]
                            refine pure_ (i := 9) (N := some 65) (v := ?_) (a' := ?_) #[true, true, true, true, true, true, true, false, true, true, false, false, false, false, false, false, false] rfl rfl (by kernel_rfl) (fun _ _ _ h => h) (Or.inl ⟨by rfl, ?_⟩) ?_ ?_
                            rotate_left
                            · intro w'
                              go_simp
                              with_reducible rfl
                            rotate_left
                            · simp only [Act.put, List.setIfInBounds_toArray, List.set_cons_zero, List.set_cons_succ, i64_w, i32_w]
                              rfl
                            try simp only [c2372b0, Bool.not_true, Bool.not_false]
                            refine pure_ (i := 10) (N := some 66) (v := ?_) (a' := ?_) #[true, true, true, true, true, true, true, false, true, true, true, false, false, false, false, false, false] rfl rfl (by kernel_rfl) (fun _ _ _ h => h) (Or.inl ⟨by rfl, ?_⟩) ?_ ?_
                            rotate_left
                            · intro w'
                              go_simp
                              with_reducible rfl
                            rotate_left
                            · simp only [Act.put, List.setIfInBounds_toArray, List.set_cons_zero, List.set_cons_succ, i64_w, i32_w]
                              rfl
                            try simp only [c2372b0, Bool.not_true, Bool.not_false]
                            refine take_ (i := 11) (N := some 67) (v := ?_) (a' := ?_) #[true, true, true, true, true, true, true, false, true, true, true, true, false, false, false, false, false] rfl rfl (by kernel_rfl) (fun _ _ _ h => h) (Or.inl ⟨by rfl, ?_⟩) hHeld ?_ ?_
                            rotate_left
                            · rintro w' hS'
                              obtain ⟨s0, s1, s2, s3, s4⟩ := hS'
                              go_simp
                              with_reducible rfl
                            rotate_left
                            · simp only [Act.put, List.setIfInBounds_toArray, List.set_cons_zero, List.set_cons_succ, i64_w, i32_w]
                              rfl
                            try simp only [c2372b0, Bool.not_true, Bool.not_false]
                            refine pure_ (i := 12) (N := some 68) (v := ?_) (a' := ?_) #[true, true, true, true, true, true, true, false, true, true, true, true, true, false, false, false, false] rfl rfl (by kernel_rfl) (fun _ _ _ h => h) (Or.inl ⟨by rfl, ?_⟩) ?_ ?_
                            rotate_left
                            · intro w'
                              go_simp
                              with_reducible rfl
                            rotate_left
                            · simp only [Act.put, List.setIfInBounds_toArray, List.set_cons_zero, List.set_cons_succ, i64_w, i32_w]
                              rfl
                            try simp only [c2372b0, Bool.not_true, Bool.not_false]
                            refine pure_ (i := 13) (N := some 69) (v := ?_) (a' := ?_) #[true, true, true, true, true, true, true, false, true, true, true, true, true, true, false, false, false] rfl rfl (by kernel_rfl) (fun _ _ _ h => h) (Or.inl ⟨by rfl, ?_⟩) ?_ ?_
                            rotate_left
                            · intro w'
                              go_simp
                              with_reducible rfl
                            rotate_left
                            · simp only [Act.put, List.setIfInBounds_toArray, List.set_cons_zero, List.set_cons_succ, i64_w, i32_w]
                              rfl
                            refine two_ (i := 7) (j := 14) (Ni := some 63) (Nj := some 70) #[true, true, true, true, true, true, true, true, true, true, true, true, true, true, false, false, false] #[true, true, true, true, true, true, true, false, true, true, true, true, true, true, true, false, false] rfl rfl rfl rfl (by kernel_rfl) (by decide) (by decide) (fun K hK => ?_) (fun K hK => ?_)
                            · obtain ⟨t2290, HA2373, AL2332⟩ := bind_some AL2332
                              refine goes_ Try.func35 (by kernel_rfl) rfl #[.pointer (some ⟨g1287, 0, none⟩)] (by rfl) rfl rfl (by (try simp only [List.map_toArray, List.map_cons, List.map_nil]); first | done | rfl) ?_
                              refine (ground_Ground_Meter.calls t2286.2.2.1 t2286.2.1 t807.1 t807.2.1 t807.2.2.1 t807.2.2.2.1 g1287 g1288 A1289 ((t807.2.2.2.2).length) n1291 t2290 _ ⟨HS.out.begin⟩ HA2373).mono ?_
                              rintro e_ w2374 ⟨rfl, hS⟩
                              replace HS : Aside0 (Sep (fps []) w [b7 g1287 g1288 t807.1 t807.2.1 t807.2.2.1 t807.2.2.2.1, b6 g1288 A1289 ((t807.2.2.2.2).length) n1291 t2286.2.1, r5 A1289 ((t807.2.2.2.2).length) n1291 t2286.2.2.1, b9 g1395 t1389.1 t1389.2.1 t1389.2.2.1 t1389.2.2.2.1 g1396, b8 g1396 A1397 ((t1389.2.2.2.2).length) n1399 t2286.2.2.2.1, r5 A1397 ((t1389.2.2.2.2).length) n1399 t2286.2.2.2.2, b11 g2348 ((rdOf (0, 0, 0, 0) l5 x2335).1) ((rdOf (0, 0, 0, 0) l5 x2335).2.1) ((rdOf (0, 0, 0, 0) l5 x2335).2.2.1) ((rdOf (0, 0, 0, 0) l5 x2335).2.2.2)] w2374) := ⟨HS.out.call hS⟩
                              clear hS
                              refine ⟨_, rfl, ?_⟩
                              refine hK.out _ _ (⟨blk_cellv (HS.out.at6) 0 rfl, blk_cellv (HS.out.at6) 1 rfl, blk_cellv (HS.out.at6) 2 rfl, blk_cellv (HS.out.at6) 3 rfl, blk_cellv (HS.out.at3) 4 rfl⟩) (fun hHeld => ?_)
                              clear hK K
                              refine norm_ (a' := ?_) ?_ ?_
                              rotate_left
                              · show Act.put _ (some 63) _ = _
                                simp only [Act.put, List.setIfInBounds_toArray, List.set_cons_zero, List.set_cons_succ, i64_w, i32_w]
                                rfl
                              try simp only [c2372b0, Bool.not_true, Bool.not_false]
                              refine one_ (i := 14) (N := some 70) #[true, true, true, true, true, true, true, true, true, true, true, true, true, true, true, false, false] rfl rfl (by kernel_rfl) (by decide) (fun K hK => ?_)
                              have hc2375 : w2374.cell? ⟨g1396, 1, none⟩ = some (.int .u64 t2286.2.2.2.1) := blk_cellv (HS.out.at4) 1 rfl
                              refine event_step (by rfl) (w1 := w2374) (v := .int .u64 t2286.2.2.2.1) ?hr ?_
                              case hr => first | (go_simp; done) | (go_simp; rfl)
                              clear hc2375
                              refine hK.out _ _ (⟨blk_cellv (HS.out.at6) 0 rfl, blk_cellv (HS.out.at6) 1 rfl, blk_cellv (HS.out.at6) 2 rfl, blk_cellv (HS.out.at6) 3 rfl, blk_cellv (HS.out.at3) 4 rfl⟩) (fun hHeld => ?_)
                              clear hK K
                              refine norm_ (a' := ?_) ?_ ?_
                              rotate_left
                              · show Act.put _ (some 70) _ = _
                                simp only [Act.put, List.setIfInBounds_toArray, List.set_cons_zero, List.set_cons_succ, i64_w, i32_w]
                                rfl
                              try simp only [c2372b0, Bool.not_true, Bool.not_false]
                              refine pure_ (i := 15) (N := some 71) (v := ?_) (a' := ?_) #[true, true, true, true, true, true, true, true, true, true, true, true, true, true, true, true, false] rfl rfl (by kernel_rfl) (fun _ _ _ h => h) (Or.inl ⟨by rfl, ?_⟩) ?_ ?_
                              rotate_left
                              · intro w'
                                go_simp
                                with_reducible rfl
                              rotate_left
                              · simp only [Act.put, List.setIfInBounds_toArray, List.set_cons_zero, List.set_cons_succ, i64_w, i32_w]
                                rfl
                              refine pure_ (i := 16) (N := some 72) (v := ?_) (a' := ?_) #[true, true, true, true, true, true, true, true, true, true, true, true, true, true, true, true, true] rfl rfl (by kernel_rfl) (fun _ _ _ h => h) (Or.inl ⟨by rfl, ?_⟩) ?_ ?_
                              rotate_left
                              · intro w'
                                go_simp
                                with_reducible rfl
                              rotate_left
                              · simp only [Act.put, List.setIfInBounds_toArray, List.set_cons_zero, List.set_cons_succ, i64_w, i32_w]
                                rfl
                              refine done_ (by kernel_rfl) ?_
                              by_cases c2376 : t2290 = t2286.2.2.2.1
                              · have AL2332 := if_yes c2376 AL2332
                                have c2376b0 : (t2290 == t2286.2.2.2.1) = true := beq_iff_eq.mpr c2376
                                have c2376b1 : (t2290 != t2286.2.2.2.1) = false := bne_eq_false_iff_eq.mpr c2376
                                clear c2376
                                replace HS : Aside0 (Sep (fps []) w [b7 g1287 g1288 t807.1 t807.2.1 t807.2.2.1 t807.2.2.2.1, b6 g1288 A1289 ((t807.2.2.2.2).length) n1291 t2286.2.1, r5 A1289 ((t807.2.2.2.2).length) n1291 t2286.2.2.1, b9 g1395 t1389.1 t1389.2.1 t1389.2.2.1 t1389.2.2.2.1 g1396, b8 g1396 A1397 ((t1389.2.2.2.2).length) n1399 t2286.2.2.2.1, r5 A1397 ((t1389.2.2.2.2).length) n1399 t2286.2.2.2.2] w2374) := ⟨HS.out.sub (.cons_cons _ (.cons_cons _ (.cons_cons _ (.cons_cons _ (.cons_cons _ (.cons_cons _ (.cons _ .slnil)))))))⟩
                                go_wp2_with fail
                                go_roundg k2334
                                case measure => exact Nat.lt_succ_self _
                                case rel => exact ⟨(wrap64 (x2335 + 1)), (t2286.2.2.2.2), (t2286.2.2.1), (t2286.2.2.2.1), (t2286.2.1), (by first | rfl | (simp [IntKind.wrap_u32]; done)), Aside0.mk AL2332.out, ⟨(((((((HS.out).front 2 (by simp)).front 2 (by simp)).front 2 (by simp)).front 5 (by simp)).front 5 (by simp)).front 5 (by simp)).keep (l := [b9 g1395 t1389.1 t1389.2.1 t1389.2.2.1 t1389.2.2.2.1 g1396, b8 g1396 A1397 ((t1389.2.2.2.2).length) n1399 t2286.2.2.2.1, r5 A1397 ((t1389.2.2.2.2).length) n1399 t2286.2.2.2.2, b7 g1287 g1288 t807.1 t807.2.1 t807.2.2.1 t807.2.2.2.1, b6 g1288 A1289 ((t807.2.2.2.2).length) n1291 t2286.2.1, r5 A1289 ((t807.2.2.2.2).length) n1291 t2286.2.2.1]) (rest := [])⟩⟩
                              · have AL2332 := if_no c2376 AL2332
                                have c2376b0 : (t2290 == t2286.2.2.2.1) = false := beq_eq_false_iff_ne.mpr c2376
                                have c2376b1 : (t2290 != t2286.2.2.2.1) = true := bne_iff_ne.mpr c2376
                                clear c2376
                                replace HS : Aside0 (Sep (fps []) w [b7 g1287 g1288 t807.1 t807.2.1 t807.2.2.1 t807.2.2.2.1, b6 g1288 A1289 ((t807.2.2.2.2).length) n1291 t2286.2.1, r5 A1289 ((t807.2.2.2.2).length) n1291 t2286.2.2.1, b9 g1395 t1389.1 t1389.2.1 t1389.2.2.1 t1389.2.2.2.1 g1396, b8 g1396 A1397 ((t1389.2.2.2.2).length) n1399 t2286.2.2.2.1, r5 A1397 ((t1389.2.2.2.2).length) n1399 t2286.2.2.2.2] w2374) := ⟨HS.out.sub (.cons_cons _ (.cons_cons _ (.cons_cons _ (.cons_cons _ (.cons_cons _ (.cons_cons _ (.cons _ .slnil)))))))⟩
                                go_wp2_with fail
                                have ho := some_eq AL2332
                                subst ho
                                have H := lp_ret H
                                go_ret
                                rw [← some_eq H]
                                exact ⟨(by first | rfl | (simp [IntKind.wrap_u32]; done)), HS.out.sub (.cons _ (.cons _ (.cons _ (.cons _ (.cons _ (.cons _ .slnil))))))⟩
                            · have hc2377 : w2371.cell? ⟨g1396, 1, none⟩ = some (.int .u64 t2286.2.2.2.1) := blk_cellv (HS.out.at4) 1 rfl
                              refine event_step (by rfl) (w1 := w2371) (v := .int .u64 t2286.2.2.2.1) ?hr ?_
                              case hr => first | (go_simp; done) | (go_simp; rfl)
                              clear hc2377
                              refine hK.out _ _ (⟨blk_cellv (HS.out.at6) 0 rfl, blk_cellv (HS.out.at6) 1 rfl, blk_cellv (HS.out.at6) 2 rfl, blk_cellv (HS.out.at6) 3 rfl, blk_cellv (HS.out.at3) 4 rfl⟩) (fun hHeld => ?_)
                              clear hK K
                              refine norm_ (a' := ?_) ?_ ?_
                              rotate_left
                              · show Act.put _ (some 70) _ = _
                                simp only [Act.put, List.setIfInBounds_toArray, List.set_cons_zero, List.set_cons_succ, i64_w, i32_w]
                                rfl
                              try simp only [c2372b0, Bool.not_true, Bool.not_false]
                              refine one_ (i := 7) (N := some 63) #[true, true, true, true, true, true, true, true, true, true, true, true, true, true, true, false, false] rfl rfl (by kernel_rfl) (by decide) (fun K hK => ?_)
                              obtain ⟨t2290, HA2378, AL2332⟩ := bind_some AL2332
                              refine goes_ Try.func35 (by kernel_rfl) rfl #[.pointer (some ⟨g1287, 0, none⟩)] (by rfl) rfl rfl (by (try simp only [List.map_toArray, List.map_cons, List.map_nil]); first | done | rfl) ?_
                              refine (ground_Ground_Meter.calls t2286.2.2.1 t2286.2.1 t807.1 t807.2.1 t807.2.2.1 t807.2.2.2.1 g1287 g1288 A1289 ((t807.2.2.2.2).length) n1291 t2290 _ ⟨HS.out.begin⟩ HA2378).mono ?_
                              rintro e_ w2379 ⟨rfl, hS⟩
                              replace HS : Aside0 (Sep (fps []) w [b7 g1287 g1288 t807.1 t807.2.1 t807.2.2.1 t807.2.2.2.1, b6 g1288 A1289 ((t807.2.2.2.2).length) n1291 t2286.2.1, r5 A1289 ((t807.2.2.2.2).length) n1291 t2286.2.2.1, b9 g1395 t1389.1 t1389.2.1 t1389.2.2.1 t1389.2.2.2.1 g1396, b8 g1396 A1397 ((t1389.2.2.2.2).length) n1399 t2286.2.2.2.1, r5 A1397 ((t1389.2.2.2.2).length) n1399 t2286.2.2.2.2, b11 g2348 ((rdOf (0, 0, 0, 0) l5 x2335).1) ((rdOf (0, 0, 0, 0) l5 x2335).2.1) ((rdOf (0, 0, 0, 0) l5 x2335).2.2.1) ((rdOf (0, 0, 0, 0) l5 x2335).2.2.2)] w2379) := ⟨HS.out.call hS⟩
                              clear hS
                              refine ⟨_, rfl, ?_⟩
                              refine hK.out _ _ (⟨blk_cellv (HS.out.at6) 0 rfl, blk_cellv (HS.out.at6) 1 rfl, blk_cellv (HS.out.at6) 2 rfl, blk_cellv (HS.out.at6) 3 rfl, blk_cellv (HS.out.at3) 4 rfl⟩) (fun hHeld => ?_)
                              clear hK K
                              refine norm_ (a' := ?_) ?_ ?_
                              rotate_left
                              · show Act.put _ (some 63) _ = _
                                simp only [Act.put, List.setIfInBounds_toArray, List.set_cons_zero, List.set_cons_succ, i64_w, i32_w]
                                rfl
                              try simp only [c2372b0, Bool.not_true, Bool.not_false]
                              refine pure_ (i := 15) (N := some 71) (v := ?_) (a' := ?_) #[true, true, true, true, true, true, true, true, true, true, true, true, true, true, true, true, false] rfl rfl (by kernel_rfl) (fun _ _ _ h => h) (Or.inl ⟨by rfl, ?_⟩) ?_ ?_
                              rotate_left
                              · intro w'
                                go_simp
                                with_reducible rfl
                              rotate_left
                              · simp only [Act.put, List.setIfInBounds_toArray, List.set_cons_zero, List.set_cons_succ, i64_w, i32_w]
                                rfl
                              refine pure_ (i := 16) (N := some 72) (v := ?_) (a' := ?_) #[true, true, true, true, true, true, true, true, true, true, true, true, true, true, true, true, true] rfl rfl (by kernel_rfl) (fun _ _ _ h => h) (Or.inl ⟨by rfl, ?_⟩) ?_ ?_
                              rotate_left
                              · intro w'
                                go_simp
                                with_reducible rfl
                              rotate_left
                              · simp only [Act.put, List.setIfInBounds_toArray, List.set_cons_zero, List.set_cons_succ, i64_w, i32_w]
                                rfl
                              refine done_ (by kernel_rfl) ?_
                              by_cases c2380 : t2290 = t2286.2.2.2.1
                              · have AL2332 := if_yes c2380 AL2332
                                have c2380b0 : (t2290 == t2286.2.2.2.1) = true := beq_iff_eq.mpr c2380
                                have c2380b1 : (t2290 != t2286.2.2.2.1) = false := bne_eq_false_iff_eq.mpr c2380
                                clear c2380
                                replace HS : Aside0 (Sep (fps []) w [b7 g1287 g1288 t807.1 t807.2.1 t807.2.2.1 t807.2.2.2.1, b6 g1288 A1289 ((t807.2.2.2.2).length) n1291 t2286.2.1, r5 A1289 ((t807.2.2.2.2).length) n1291 t2286.2.2.1, b9 g1395 t1389.1 t1389.2.1 t1389.2.2.1 t1389.2.2.2.1 g1396, b8 g1396 A1397 ((t1389.2.2.2.2).length) n1399 t2286.2.2.2.1, r5 A1397 ((t1389.2.2.2.2).length) n1399 t2286.2.2.2.2] w2379) := ⟨HS.out.sub (.cons_cons _ (.cons_cons _ (.cons_cons _ (.cons_cons _ (.cons_cons _ (.cons_cons _ (.cons _ .slnil)))))))⟩
                                go_wp2_with fail
                                go_roundg k2334
                                case measure => exact Nat.lt_succ_self _
                                case rel => exact ⟨(wrap64 (x2335 + 1)), (t2286.2.2.2.2), (t2286.2.2.1), (t2286.2.2.2.1), (t2286.2.1), (by first | rfl | (simp [IntKind.wrap_u32]; done)), Aside0.mk AL2332.out, ⟨(((((((HS.out).front 2 (by simp)).front 2 (by simp)).front 2 (by simp)).front 5 (by simp)).front 5 (by simp)).front 5 (by simp)).keep (l := [b9 g1395 t1389.1 t1389.2.1 t1389.2.2.1 t1389.2.2.2.1 g1396, b8 g1396 A1397 ((t1389.2.2.2.2).length) n1399 t2286.2.2.2.1, r5 A1397 ((t1389.2.2.2.2).length) n1399 t2286.2.2.2.2, b7 g1287 g1288 t807.1 t807.2.1 t807.2.2.1 t807.2.2.2.1, b6 g1288 A1289 ((t807.2.2.2.2).length) n1291 t2286.2.1, r5 A1289 ((t807.2.2.2.2).length) n1291 t2286.2.2.1]) (rest := [])⟩⟩
                              · have AL2332 := if_no c2380 AL2332
                                have c2380b0 : (t2290 == t2286.2.2.2.1) = false := beq_eq_false_iff_ne.mpr c2380
                                have c2380b1 : (t2290 != t2286.2.2.2.1) = true := bne_iff_ne.mpr c2380
                                clear c2380
                                replace HS : Aside0 (Sep (fps []) w [b7 g1287 g1288 t807.1 t807.2.1 t807.2.2.1 t807.2.2.2.1, b6 g1288 A1289 ((t807.2.2.2.2).length) n1291 t2286.2.1, r5 A1289 ((t807.2.2.2.2).length) n1291 t2286.2.2.1, b9 g1395 t1389.1 t1389.2.1 t1389.2.2.1 t1389.2.2.2.1 g1396, b8 g1396 A1397 ((t1389.2.2.2.2).length) n1399 t2286.2.2.2.1, r5 A1397 ((t1389.2.2.2.2).length) n1399 t2286.2.2.2.2] w2379) := ⟨HS.out.sub (.cons_cons _ (.cons_cons _ (.cons_cons _ (.cons_cons _ (.cons_cons _ (.cons_cons _ (.cons _ .slnil)))))))⟩
                                go_wp2_with fail
                                have ho := some_eq AL2332
                                subst ho
                                have H := lp_ret H
                                go_ret
                                rw [← some_eq H]
                                exact ⟨(by first | rfl | (simp [IntKind.wrap_u32]; done)), HS.out.sub (.cons _ (.cons _ (.cons _ (.cons _ (.cons _ (.cons _ .slnil))))))⟩
                          · have AL2332 := if_no c2372 AL2332
                            have c2372b0 : t2286.1 = false := by simpa using c2372
                            have c2372b1 : (!t2286.1) = true := by rw [c2372b0]; rfl
                            try rw [c2372b1]
                            clear c2372
                            try simp only [c2372b0, Bool.not_true, Bool.not_false]
                            refine pure_ (i := 6) (N := some 62) (v := undef) (a' := ?_) #[true, true, true, true, true, true, true, false, false, false, false, false, false, false, false, false, false] rfl rfl (by kernel_rfl) (fun _ _ _ h => h) (Or.inr ⟨by rfl, rfl⟩) ?_ ?_
                            rotate_left
                            · simp only [Act.put, List.setIfInBounds_toArray, List.set_cons_zero, List.set_cons_succ, i64_w, i32_w]
                              rfl
                            try simp only [c2372b0, Bool.not_true, Bool.not_false]
                            refine pure_ (i := 7) (N := some 63) (v := undef) (a' := ?_) #[true, true, true, true, true, true, true, true, false, false, false, false, false, false, false, false, false] rfl rfl (by kernel_rfl) (fun _ _ _ h => h) (Or.inr ⟨by rfl, rfl⟩) ?_ ?_
                            rotate_left
                            · simp only [Act.put, List.setIfInBounds_toArray, List.set_cons_zero, List.set_cons_succ, i64_w, i32_w]
                              rfl
                            try simp only [c2372b0, Bool.not_true, Bool.not_false]
                            refine pure_ (i := 8) (N := some 64) (v := undef) (a' := ?_) #[true, true, true, true, true, true, true, true, true, false, false, false, false, false, false, false, false] rfl rfl (by kernel_rfl) (fun _ _ _ h => h) (Or.inr ⟨by rfl, rfl⟩) ?_ ?_
                            rotate_left
                            · simp only [Act.put, List.setIfInBounds_toArray, List.set_cons_zero, List.set_cons_succ, i64_w, i32_w]
                              rfl
                            try simp only [c2372b0, Bool.not_true, Bool.not_false]
                            refine pure_ (i := 9) (N := some 65) (v := undef) (a' := ?_) #[true, true, true, true, true, true, true, true, true, true, false, false, false, false, false, false, false] rfl rfl (by kernel_rfl) (fun _ _ _ h => h) (Or.inr ⟨by rfl, rfl⟩) ?_ ?_
                            rotate_left
                            · simp only [Act.put, List.setIfInBounds_toArray, List.set_cons_zero, List.set_cons_succ, i64_w, i32_w]
                              rfl
                            try simp only [c2372b0, Bool.not_true, Bool.not_false]
                            refine pure_ (i := 10) (N := some 66) (v := undef) (a' := ?_) #[true, true, true, true, true, true, true, true, true, true, true, false, false, false, false, false, false] rfl rfl (by kernel_rfl) (fun _ _ _ h => h) (Or.inr ⟨by rfl, rfl⟩) ?_ ?_
                            rotate_left
                            · simp only [Act.put, List.setIfInBounds_toArray, List.set_cons_zero, List.set_cons_succ, i64_w, i32_w]
                              rfl
                            try simp only [c2372b0, Bool.not_true, Bool.not_false]
                            refine pure_ (i := 11) (N := some 67) (v := undef) (a' := ?_) #[true, true, true, true, true, true, true, true, true, true, true, true, false, false, false, false, false] rfl rfl (by kernel_rfl) (fun _ _ _ h => h) (Or.inr ⟨by rfl, rfl⟩) ?_ ?_
                            rotate_left
                            · simp only [Act.put, List.setIfInBounds_toArray, List.set_cons_zero, List.set_cons_succ, i64_w, i32_w]
                              rfl
                            try simp only [c2372b0, Bool.not_true, Bool.not_false]
                            refine pure_ (i := 12) (N := some 68) (v := undef) (a' := ?_) #[true, true, true, true, true, true, true, true, true, true, true, true, true, false, false, false, false] rfl rfl (by kernel_rfl) (fun _ _ _ h => h) (Or.inr ⟨by rfl, rfl⟩) ?_ ?_
                            rotate_left
                            · simp only [Act.put, List.setIfInBounds_toArray, List.set_cons_zero, List.set_cons_succ, i64_w, i32_w]
                              rfl
                            try simp only [c2372b0, Bool.not_true, Bool.not_false]
                            refine pure_ (i := 13) (N := some 69) (v := undef) (a' := ?_) #[true, true, true, true, true, true, true, true, true, true, true, true, true, true, false, false, false] rfl rfl (by kernel_rfl) (fun _ _ _ h => h) (Or.inr ⟨by rfl, rfl⟩) ?_ ?_
                            rotate_left
                            · simp only [Act.put, List.setIfInBounds_toArray, List.set_cons_zero, List.set_cons_succ, i64_w, i32_w]
                              rfl
                            try simp only [c2372b0, Bool.not_true, Bool.not_false]
                            refine pure_ (i := 14) (N := some 70) (v := undef) (a' := ?_) #[true, true, true, true, true, true, true, true, true, true, true, true, true, true, true, false, false] rfl rfl (by kernel_rfl) (fun _ _ _ h => h) (Or.inr ⟨by rfl, rfl⟩) ?_ ?_
                            rotate_left
                            · simp only [Act.put, List.setIfInBounds_toArray, List.set_cons_zero, List.set_cons_succ, i64_w, i32_w]
                              rfl
                            try simp only [c2372b0, Bool.not_true, Bool.not_false]
                            refine pure_ (i := 15) (N := some 71) (v := undef) (a' := ?_) #[true, true, true, true, true, true, true, true, true, true, true, true, true, true, true, true, false] rfl rfl (by kernel_rfl) (fun _ _ _ h => h) (Or.inr ⟨by rfl, rfl⟩) ?_ ?_
                            rotate_left
                            · simp only [Act.put, List.setIfInBounds_toArray, List.set_cons_zero, List.set_cons_succ, i64_w, i32_w]
                              rfl
                            refine pure_ (i := 16) (N := some 72) (v := ?_) (a' := ?_) #[true, true, true, true, true, true, true, true, true, true, true, true, true, true, true, true, true] rfl rfl (by kernel_rfl) (fun _ _ _ h => h) (Or.inl ⟨by rfl, ?_⟩) ?_ ?_
                            rotate_left
                            · intro w'
                              go_simp
                              with_reducible rfl
                            rotate_left
                            · simp only [Act.put, List.setIfInBounds_toArray, List.set_cons_zero, List.set_cons_succ, i64_w, i32_w]
                              rfl
                            refine done_ (by kernel_rfl) ?_
                            replace HS : Aside0 (Sep (fps []) w [b7 g1287 g1288 t807.1 t807.2.1 t807.2.2.1 t807.2.2.2.1, b6 g1288 A1289 ((t807.2.2.2.2).length) n1291 t2286.2.1, r5 A1289 ((t807.2.2.2.2).length) n1291 t2286.2.2.1, b9 g1395 t1389.1 t1389.2.1 t1389.2.2.1 t1389.2.2.2.1 g1396, b8 g1396 A1397 ((t1389.2.2.2.2).length) n1399 t2286.2.2.2.1, r5 A1397 ((t1389.2.2.2.2).length) n1399 t2286.2.2.2.2] w2371) := ⟨HS.out.sub (.cons_cons _ (.cons_cons _ (.cons_cons _ (.cons_cons _ (.cons_cons _ (.cons_cons _ (.cons _ .slnil)))))))⟩
                            go_wp2_with fail
                            have ho := some_eq AL2332
                            subst ho
                            have H := lp_ret H
                            go_ret
                            rw [← some_eq H]
                            exact ⟨(by first | rfl | (simp [IntKind.wrap_u32]; done)), HS.out.sub (.cons _ (.cons _ (.cons _ (.cons _ (.cons _ (.cons _ .slnil))))))⟩
                        · have AL2332 := if_no c2341 AL2332
                          have c2341b0 : decide (0 ≤ x2335) = false := decide_eq_false c2341
                          clear c2341
                          exact (none_no AL2332).elim
                      · have AL2332 := if_no c2340 AL2332
                        have c2340b0 : decide (x2335 < (l5.length : Int)) = false := decide_eq_false c2340
                        clear c2340
                        have ho := some_eq AL2332
                        subst ho
                        clear AL2332
                        have H := lp_out H
                        go_wp2_with fail
                        have hl_ := row_len (HS.out.at2)
                        rw [← hl_] at HS
                        try rw [← hl_]
                        clear hl_
                        refine start_ (n := 14) (S := (fun w' => w'.cell? ⟨g1395, 4, none⟩ = some (.pointer (some ⟨g1396, 0, none⟩)))) (ds := []) #[false, false, false, false, false, false, false, false, false, false, false, false, false, false] (by kernel_rfl) rfl rfl (blk_cellv ((HS.out.drew).at0) 4 rfl) (fun hHeld => ?_)
                        have HS_ := Aside0.mk HS.out.drew
                        clear HS
                        generalize World.drew _ = w2450 at HS_ hHeld ⊢
                        have HS := HS_
                        clear HS_
                        refine one_ (i := 0) (N := some 74) #[true, false, false, false, false, false, false, false, false, false, false, false, false, false] rfl rfl (by kernel_rfl) (by decide) (fun K hK => ?_)
                        obtain ⟨t2383, HA2451, H⟩ := bind_some H
                        refine goes_ Try.func31 (by kernel_rfl) rfl #[] (by rfl) rfl rfl (by (try simp only [List.map_toArray, List.map_cons, List.map_nil]); first | done | rfl) ?_
                        refine (quitrentlaw05_begun.calls _ t2383 _ ⟨Sep.start _⟩ HA2451).mono ?_
                        rintro e_ w2452 ⟨rfl, hS⟩
                        replace HS : Aside0 (Sep (fps []) w [b9 g1395 t1389.1 t1389.2.1 t1389.2.2.1 t1389.2.2.2.1 g1396, b8 g1396 A1397 x2336.length n1399 x2338, r5 A1397 x2336.length n1399 x2336, b7 g1287 g1288 t807.1 t807.2.1 t807.2.2.1 t807.2.2.2.1, b6 g1288 A1289 ((t807.2.2.2.2).length) n1291 x2339, r5 A1289 ((t807.2.2.2.2).length) n1291 x2337] w2452) := ⟨HS.out.call hS⟩
                        clear hS
                        refine ⟨_, rfl, ?_⟩
                        refine hK.out _ _ (blk_cellv (HS.out.at0) 4 rfl) (fun hHeld => ?_)
                        clear hK K
                        refine norm_ (a' := ?_) ?_ ?_
                        rotate_left
                        · show Act.put _ (some 74) _ = _
                          simp only [Act.put, List.setIfInBounds_toArray, List.set_cons_zero, List.set_cons_succ, i64_w, i32_w]
                          rfl
                        refine pure_ (i := 1) (N := some 75) (v := ?_) (a' := ?_) #[true, true, false, false, false, false, false, false, false, false, false, false, false, false] rfl rfl (by kernel_rfl) (fun _ _ _ h => h) (Or.inl ⟨by rfl, ?_⟩) ?_ ?_
                        rotate_left
                        · intro w'
                          go_simp
                          with_reducible rfl
                        rotate_left
                        · simp only [Act.put, List.setIfInBounds_toArray, List.set_cons_zero, List.set_cons_succ, i64_w, i32_w]
                          rfl
                        by_cases c2453 : t2383 = true
                        · have H := if_yes c2453 H
                          have c2453b0 : t2383 = true := c2453
                          have c2453b1 : (!t2383) = false := by rw [c2453b0]; rfl
                          clear c2453
                          try simp only [c2453b0, Bool.not_true, Bool.not_false]
                          refine pure_ (i := 2) (N := some 76) (v := ?_) (a' := ?_) #[true, true, true, false, false, false, false, false, false, false, false, false, false, false] rfl rfl (by kernel_rfl) (fun _ _ _ h => h) (Or.inl ⟨by rfl, ?_⟩) ?_ ?_
                          rotate_left
                          · intro w'
                            go_simp
                            with_reducible rfl
                          rotate_left
                          · simp only [Act.put, List.setIfInBounds_toArray, List.set_cons_zero, List.set_cons_succ, i64_w, i32_w]
                            rfl
                          try simp only [c2453b0, Bool.not_true, Bool.not_false]
                          refine pure_ (i := 4) (N := some 78) (v := ?_) (a' := ?_) #[true, true, true, false, true, false, false, false, false, false, false, false, false, false] rfl rfl (by kernel_rfl) (fun _ _ _ h => h) (Or.inl ⟨by rfl, ?_⟩) ?_ ?_
                          rotate_left
                          · intro w'
                            go_simp
                            with_reducible rfl
                          rotate_left
                          · simp only [Act.put, List.setIfInBounds_toArray, List.set_cons_zero, List.set_cons_succ, i64_w, i32_w]
                            rfl
                          try simp only [c2453b0, Bool.not_true, Bool.not_false]
                          refine pure_ (i := 5) (N := some 79) (v := ?_) (a' := ?_) #[true, true, true, false, true, true, false, false, false, false, false, false, false, false] rfl rfl (by kernel_rfl) (fun _ _ _ h => h) (Or.inl ⟨by rfl, ?_⟩) ?_ ?_
                          rotate_left
                          · intro w'
                            go_simp
                            with_reducible rfl
                          rotate_left
                          · simp only [Act.put, List.setIfInBounds_toArray, List.set_cons_zero, List.set_cons_succ, i64_w, i32_w]
                            rfl
                          try simp only [c2453b0, Bool.not_true, Bool.not_false]
                          refine pure_ (i := 6) (N := some 80) (v := ?_) (a' := ?_) #[true, true, true, false, true, true, true, false, false, false, false, false, false, false] rfl rfl (by kernel_rfl) (fun _ _ _ h => h) (Or.inl ⟨by rfl, ?_⟩) ?_ ?_
                          rotate_left
                          · intro w'
                            go_simp
                            with_reducible rfl
                          rotate_left
                          · simp only [Act.put, List.setIfInBounds_toArray, List.set_cons_zero, List.set_cons_succ, i64_w, i32_w]
                            rfl
                          try simp only [c2453b0, Bool.not_true, Bool.not_false]
                          refine take_ (i := 7) (N := some 81) (v := ?_) (a' := ?_) #[true, true, true, false, true, true, true, true, false, false, false, false, false, false] rfl rfl (by kernel_rfl) (fun _ _ _ h => h) (Or.inl ⟨by rfl, ?_⟩) hHeld ?_ ?_
                          rotate_left
                          · rintro w' hS'
                            have s0 := hS'
                            go_simp
                            with_reducible rfl
                          rotate_left
                          · simp only [Act.put, List.setIfInBounds_toArray, List.set_cons_zero, List.set_cons_succ, i64_w, i32_w]
                            rfl
                          try simp only [c2453b0, Bool.not_true, Bool.not_false]
                          refine pure_ (i := 8) (N := some 82) (v := ?_) (a' := ?_) #[true, true, true, false, true, true, true, true, true, false, false, false, false, false] rfl rfl (by kernel_rfl) (fun _ _ _ h => h) (Or.inl ⟨by rfl, ?_⟩) ?_ ?_
                          rotate_left
                          · intro w'
                            go_simp
                            with_reducible rfl
                          rotate_left
                          · simp only [Act.put, List.setIfInBounds_toArray, List.set_cons_zero, List.set_cons_succ, i64_w, i32_w]
                            rfl
                          try simp only [c2453b0, Bool.not_true, Bool.not_false]
                          refine pure_ (i := 9) (N := some 83) (v := ?_) (a' := ?_) #[true, true, true, false, true, true, true, true, true, true, false, false, false, false] rfl rfl (by kernel_rfl) (fun _ _ _ h => h) (Or.inl ⟨by rfl, ?_⟩) ?_ ?_
                          rotate_left
                          · intro w'
                            go_simp
                            with_reducible rfl
                          rotate_left
                          · simp only [Act.put, List.setIfInBounds_toArray, List.set_cons_zero, List.set_cons_succ, i64_w, i32_w]
                            rfl
                          refine two_ (i := 3) (j := 10) (Ni := some 77) (Nj := some 84) #[true, true, true, true, true, true, true, true, true, true, false, false, false, false] #[true, true, true, false, true, true, true, true, true, true, true, false, false, false] rfl rfl rfl rfl (by kernel_rfl) (by decide) (by decide) (fun K hK => ?_) (fun K hK => ?_)
                          · have HS_ : Aside0 (Sep (fps []) w [r5 A1289 ((t807.2.2.2.2).length) n1291 x2337, b9 g1395 t1389.1 t1389.2.1 t1389.2.2.1 t1389.2.2.2.1 g1396, b8 g1396 A1397 x2336.length n1399 x2338, r5 A1397 x2336.length n1399 x2336, b7 g1287 g1288 t807.1 t807.2.1 t807.2.2.1 t807.2.2.2.1, b6 g1288 A1289 ((t807.2.2.2.2).length) n1291 x2339] w2452) := ⟨HS.out.front 5 (by simp)⟩
                            clear HS
                            have HS := HS_
                            clear HS_
                            replace HS : Aside0 (Sep (fps []) w [b6 g1288 A1289 ((t807.2.2.2.2).length) n1291 x2339, r5 A1289 ((t807.2.2.2.2).length) n1291 x2337, b9 g1395 t1389.1 t1389.2.1 t1389.2.2.1 t1389.2.2.2.1 g1396, b8 g1396 A1397 x2336.length n1399 x2338, r5 A1397 x2336.length n1399 x2336, b7 g1287 g1288 t807.1 t807.2.1 t807.2.2.1 t807.2.2.2.1] w2452) := ⟨HS.out.front 5 (by simp)⟩
                            replace HS : Aside0 (Sep (fps []) w [b7 g1287 g1288 t807.1 t807.2.1 t807.2.2.1 t807.2.2.2.1, b6 g1288 A1289 ((t807.2.2.2.2).length) n1291 x2339, r5 A1289 ((t807.2.2.2.2).length) n1291 x2337, b9 g1395 t1389.1 t1389.2.1 t1389.2.2.1 t1389.2.2.2.1 g1396, b8 g1396 A1397 x2336.length n1399 x2338, r5 A1397 x2336.length n1399 x2336] w2452) := ⟨HS.out.front 5 (by simp)⟩
                            obtain ⟨t2387, HA2454, H⟩ := bind_some H
                            refine goes_ Try.func33 (by kernel_rfl) rfl #[.pointer (some ⟨g1287, 0, none⟩)] (by rfl) rfl rfl (by (try simp only [List.map_toArray, List.map_cons, List.map_nil]); first | done | rfl) ?_
                            refine (ground_Ground_Words.calls x2337 x2339 t807.1 t807.2.1 t807.2.2.1 t807.2.2.2.1 g1287 g1288 A1289 ((t807.2.2.2.2).length) n1291 t2387 _ ⟨HS.out.begin⟩ HA2454).mono ?_
                            rintro e_ w2455 ⟨A2457, m2458, n2459, rfl, hS⟩
                            replace HS : Aside0 (Sep (fps []) w [b7 g1287 g1288 t807.1 t807.2.1 t807.2.2.1 t807.2.2.2.1, b6 g1288 A1289 ((t807.2.2.2.2).length) n1291 x2339, r5 A1289 ((t807.2.2.2.2).length) n1291 x2337, r5 A2457 m2458 n2459 t2387, b9 g1395 t1389.1 t1389.2.1 t1389.2.2.1 t1389.2.2.2.1 g1396, b8 g1396 A1397 x2336.length n1399 x2338, r5 A1397 x2336.length n1399 x2336] w2455) := ⟨HS.out.call hS⟩
                            clear hS
                            obtain rfl := (row_len (HS.out.at3)).symm
                            refine ⟨_, rfl, ?_⟩
                            refine hK.out _ _ (blk_cellv (HS.out.at4) 4 rfl) (fun hHeld => ?_)
                            clear hK K
                            refine norm_ (a' := ?_) ?_ ?_
                            rotate_left
                            · show Act.put _ (some 77) _ = _
                              simp only [Act.put, List.setIfInBounds_toArray, List.set_cons_zero, List.set_cons_succ, i64_w, i32_w]
                              rfl
                            try simp only [c2453b0, Bool.not_true, Bool.not_false]
                            refine one_ (i := 10) (N := some 84) #[true, true, true, true, true, true, true, true, true, true, true, false, false, false] rfl rfl (by kernel_rfl) (by decide) (fun K hK => ?_)
                            have hc2461 : w2455.cell? ⟨g1396, 0, none⟩ = some (.slice A1397 x2336.length n1399) := blk_cellv (HS.out.at5) 0 rfl
                            refine event_step (by rfl) (w1 := w2455) (v := .slice A1397 x2336.length n1399) ?hr ?_
                            case hr => first | (go_simp; done) | (go_simp; rfl)
                            clear hc2461
                            refine hK.out _ _ (blk_cellv (HS.out.at4) 4 rfl) (fun hHeld => ?_)
                            clear hK K
                            refine norm_ (a' := ?_) ?_ ?_
                            rotate_left
                            · show Act.put _ (some 84) _ = _
                              simp only [Act.put, List.setIfInBounds_toArray, List.set_cons_zero, List.set_cons_succ, i64_w, i32_w]
                              rfl
                            try simp only [c2453b0, Bool.not_true, Bool.not_false]
                            refine one_ (i := 11) (N := some 85) #[true, true, true, true, true, true, true, true, true, true, true, true, false, false] rfl rfl (by kernel_rfl) (by decide) (fun K hK => ?_)
                            obtain ⟨t2446, HA2462, H⟩ := bind_some H
                            refine goes_ Try.func23 (by kernel_rfl) rfl #[.slice A2457 t2387.length n2459, .slice A1397 x2336.length n1399] (by rfl) rfl rfl (by (try simp only [List.map_toArray, List.map_cons, List.map_nil]); first | done | rfl) ?_
                            refine (quitrentref01_Same.calls _ t2387 x2336 A2457 n2459 A1397 n1399 t2446 _ ⟨Rd.ownI (l := []) HS.out 3 rfl⟩ ⟨Rd.ownI (l := []) HS.out 6 rfl⟩ ⟨Sep.start _⟩ HA2462).mono ?_
                            rintro e_ w2463 ⟨rfl, hS⟩
                            replace HS : Aside0 (Sep (fps []) w [b7 g1287 g1288 t807.1 t807.2.1 t807.2.2.1 t807.2.2.2.1, b6 g1288 A1289 ((t807.2.2.2.2).length) n1291 x2339, r5 A1289 ((t807.2.2.2.2).length) n1291 x2337, r5 A2457 t2387.length n2459 t2387, b9 g1395 t1389.1 t1389.2.1 t1389.2.2.1 t1389.2.2.2.1 g1396, b8 g1396 A1397 x2336.length n1399 x2338, r5 A1397 x2336.length n1399 x2336] w2463) := ⟨HS.out.call hS⟩
                            clear hS
                            refine ⟨_, rfl, ?_⟩
                            refine hK.out _ _ (blk_cellv (HS.out.at4) 4 rfl) (fun hHeld => ?_)
                            clear hK K
                            refine norm_ (a' := ?_) ?_ ?_
                            rotate_left
                            · show Act.put _ (some 85) _ = _
                              simp only [Act.put, List.setIfInBounds_toArray, List.set_cons_zero, List.set_cons_succ, i64_w, i32_w]
                              rfl
                            refine pure_ (i := 12) (N := some 86) (v := ?_) (a' := ?_) #[true, true, true, true, true, true, true, true, true, true, true, true, true, false] rfl rfl (by kernel_rfl) (fun _ _ _ h => h) (Or.inl ⟨by rfl, ?_⟩) ?_ ?_
                            rotate_left
                            · intro w'
                              go_simp
                              with_reducible rfl
                            rotate_left
                            · simp only [Act.put, List.setIfInBounds_toArray, List.set_cons_zero, List.set_cons_succ, i64_w, i32_w]
                              rfl
                            refine pure_ (i := 13) (N := some 4) (v := ?_) (a' := ?_) #[true, true, true, true, true, true, true, true, true, true, true, true, true, true] rfl rfl (by kernel_rfl) (fun _ _ _ h => h) (Or.inl ⟨by rfl, ?_⟩) ?_ ?_
                            rotate_left
                            · intro w'
                              go_simp
                              with_reducible rfl
                            rotate_left
                            · simp only [Act.put, List.setIfInBounds_toArray, List.set_cons_zero, List.set_cons_succ, i64_w, i32_w]
                              rfl
                            refine done_ (by kernel_rfl) ?_
                            replace HS : Aside0 (Sep (fps []) w [] w2463) := ⟨HS.out.sub (.cons _ (.cons _ (.cons _ (.cons _ (.cons _ (.cons _ (.cons _ .slnil)))))))⟩
                            go_wp2_with fail
                            go_ret
                            rw [← some_eq H]
                            exact ⟨(by first | rfl | (simp [IntKind.wrap_u32]; done)), HS.out⟩
                          · have hc2464 : w2452.cell? ⟨g1396, 0, none⟩ = some (.slice A1397 x2336.length n1399) := blk_cellv (HS.out.at1) 0 rfl
                            refine event_step (by rfl) (w1 := w2452) (v := .slice A1397 x2336.length n1399) ?hr ?_
                            case hr => first | (go_simp; done) | (go_simp; rfl)
                            clear hc2464
                            refine hK.out _ _ (blk_cellv (HS.out.at0) 4 rfl) (fun hHeld => ?_)
                            clear hK K
                            refine norm_ (a' := ?_) ?_ ?_
                            rotate_left
                            · show Act.put _ (some 84) _ = _
                              simp only [Act.put, List.setIfInBounds_toArray, List.set_cons_zero, List.set_cons_succ, i64_w, i32_w]
                              rfl
                            try simp only [c2453b0, Bool.not_true, Bool.not_false]
                            refine one_ (i := 3) (N := some 77) #[true, true, true, true, true, true, true, true, true, true, true, false, false, false] rfl rfl (by kernel_rfl) (by decide) (fun K hK => ?_)
                            replace HS : Aside0 (Sep (fps []) w [r5 A1289 ((t807.2.2.2.2).length) n1291 x2337, b9 g1395 t1389.1 t1389.2.1 t1389.2.2.1 t1389.2.2.2.1 g1396, b8 g1396 A1397 x2336.length n1399 x2338, r5 A1397 x2336.length n1399 x2336, b7 g1287 g1288 t807.1 t807.2.1 t807.2.2.1 t807.2.2.2.1, b6 g1288 A1289 ((t807.2.2.2.2).length) n1291 x2339] w2452) := ⟨HS.out.front 5 (by simp)⟩
                            replace HS : Aside0 (Sep (fps []) w [b6 g1288 A1289 ((t807.2.2.2.2).length) n1291 x2339, r5 A1289 ((t807.2.2.2.2).length) n1291 x2337, b9 g1395 t1389.1 t1389.2.1 t1389.2.2.1 t1389.2.2.2.1 g1396, b8 g1396 A1397 x2336.length n1399 x2338, r5 A1397 x2336.length n1399 x2336, b7 g1287 g1288 t807.1 t807.2.1 t807.2.2.1 t807.2.2.2.1] w2452) := ⟨HS.out.front 5 (by simp)⟩
                            replace HS : Aside0 (Sep (fps []) w [b7 g1287 g1288 t807.1 t807.2.1 t807.2.2.1 t807.2.2.2.1, b6 g1288 A1289 ((t807.2.2.2.2).length) n1291 x2339, r5 A1289 ((t807.2.2.2.2).length) n1291 x2337, b9 g1395 t1389.1 t1389.2.1 t1389.2.2.1 t1389.2.2.2.1 g1396, b8 g1396 A1397 x2336.length n1399 x2338, r5 A1397 x2336.length n1399 x2336] w2452) := ⟨HS.out.front 5 (by simp)⟩
                            obtain ⟨t2387, HA2465, H⟩ := bind_some H
                            refine goes_ Try.func33 (by kernel_rfl) rfl #[.pointer (some ⟨g1287, 0, none⟩)] (by rfl) rfl rfl (by (try simp only [List.map_toArray, List.map_cons, List.map_nil]); first | done | rfl) ?_
                            refine (ground_Ground_Words.calls x2337 x2339 t807.1 t807.2.1 t807.2.2.1 t807.2.2.2.1 g1287 g1288 A1289 ((t807.2.2.2.2).length) n1291 t2387 _ ⟨HS.out.begin⟩ HA2465).mono ?_
                            rintro e_ w2466 ⟨A2468, m2469, n2470, rfl, hS⟩
                            replace HS : Aside0 (Sep (fps []) w [b7 g1287 g1288 t807.1 t807.2.1 t807.2.2.1 t807.2.2.2.1, b6 g1288 A1289 ((t807.2.2.2.2).length) n1291 x2339, r5 A1289 ((t807.2.2.2.2).length) n1291 x2337, r5 A2468 m2469 n2470 t2387, b9 g1395 t1389.1 t1389.2.1 t1389.2.2.1 t1389.2.2.2.1 g1396, b8 g1396 A1397 x2336.length n1399 x2338, r5 A1397 x2336.length n1399 x2336] w2466) := ⟨HS.out.call hS⟩
                            clear hS
                            obtain rfl := (row_len (HS.out.at3)).symm
                            refine ⟨_, rfl, ?_⟩
                            refine hK.out _ _ (blk_cellv (HS.out.at4) 4 rfl) (fun hHeld => ?_)
                            clear hK K
                            refine norm_ (a' := ?_) ?_ ?_
                            rotate_left
                            · show Act.put _ (some 77) _ = _
                              simp only [Act.put, List.setIfInBounds_toArray, List.set_cons_zero, List.set_cons_succ, i64_w, i32_w]
                              rfl
                            try simp only [c2453b0, Bool.not_true, Bool.not_false]
                            refine one_ (i := 11) (N := some 85) #[true, true, true, true, true, true, true, true, true, true, true, true, false, false] rfl rfl (by kernel_rfl) (by decide) (fun K hK => ?_)
                            obtain ⟨t2446, HA2472, H⟩ := bind_some H
                            refine goes_ Try.func23 (by kernel_rfl) rfl #[.slice A2468 t2387.length n2470, .slice A1397 x2336.length n1399] (by rfl) rfl rfl (by (try simp only [List.map_toArray, List.map_cons, List.map_nil]); first | done | rfl) ?_
                            refine (quitrentref01_Same.calls _ t2387 x2336 A2468 n2470 A1397 n1399 t2446 _ ⟨Rd.ownI (l := []) HS.out 3 rfl⟩ ⟨Rd.ownI (l := []) HS.out 6 rfl⟩ ⟨Sep.start _⟩ HA2472).mono ?_
                            rintro e_ w2473 ⟨rfl, hS⟩
                            replace HS : Aside0 (Sep (fps []) w [b7 g1287 g1288 t807.1 t807.2.1 t807.2.2.1 t807.2.2.2.1, b6 g1288 A1289 ((t807.2.2.2.2).length) n1291 x2339, r5 A1289 ((t807.2.2.2.2).length) n1291 x2337, r5 A2468 t2387.length n2470 t2387, b9 g1395 t1389.1 t1389.2.1 t1389.2.2.1 t1389.2.2.2.1 g1396, b8 g1396 A1397 x2336.length n1399 x2338, r5 A1397 x2336.length n1399 x2336] w2473) := ⟨HS.out.call hS⟩
                            clear hS
                            refine ⟨_, rfl, ?_⟩
                            refine hK.out _ _ (blk_cellv (HS.out.at4) 4 rfl) (fun hHeld => ?_)
                            clear hK K
                            refine norm_ (a' := ?_) ?_ ?_
                            rotate_left
                            · show Act.put _ (some 85) _ = _
                              simp only [Act.put, List.setIfInBounds_toArray, List.set_cons_zero, List.set_cons_succ, i64_w, i32_w]
                              rfl
                            refine pure_ (i := 12) (N := some 86) (v := ?_) (a' := ?_) #[true, true, true, true, true, true, true, true, true, true, true, true, true, false] rfl rfl (by kernel_rfl) (fun _ _ _ h => h) (Or.inl ⟨by rfl, ?_⟩) ?_ ?_
                            rotate_left
                            · intro w'
                              go_simp
                              with_reducible rfl
                            rotate_left
                            · simp only [Act.put, List.setIfInBounds_toArray, List.set_cons_zero, List.set_cons_succ, i64_w, i32_w]
                              rfl
                            refine pure_ (i := 13) (N := some 4) (v := ?_) (a' := ?_) #[true, true, true, true, true, true, true, true, true, true, true, true, true, true] rfl rfl (by kernel_rfl) (fun _ _ _ h => h) (Or.inl ⟨by rfl, ?_⟩) ?_ ?_
                            rotate_left
                            · intro w'
                              go_simp
                              with_reducible rfl
                            rotate_left
                            · simp only [Act.put, List.setIfInBounds_toArray, List.set_cons_zero, List.set_cons_succ, i64_w, i32_w]
                              rfl
                            refine done_ (by kernel_rfl) ?_
                            replace HS : Aside0 (Sep (fps []) w [] w2473) := ⟨HS.out.sub (.cons _ (.cons _ (.cons _ (.cons _ (.cons _ (.cons _ (.cons _ .slnil)))))))⟩
                            go_wp2_with fail
                            go_ret
                            rw [← some_eq H]
                            exact ⟨(by first | rfl | (simp [IntKind.wrap_u32]; done)), HS.out⟩
                        · have H := if_no c2453 H
                          have c2453b0 : t2383 = false := by simpa using c2453
                          have c2453b1 : (!t2383) = true := by rw [c2453b0]; rfl
                          clear c2453
                          try simp only [c2453b0, Bool.not_true, Bool.not_false]
                          refine pure_ (i := 2) (N := some 76) (v := undef) (a' := ?_) #[true, true, true, false, false, false, false, false, false, false, false, false, false, false] rfl rfl (by kernel_rfl) (fun _ _ _ h => h) (Or.inr ⟨by rfl, rfl⟩) ?_ ?_
                          rotate_left
                          · simp only [Act.put, List.setIfInBounds_toArray, List.set_cons_zero, List.set_cons_succ, i64_w, i32_w]
                            rfl
                          try simp only [c2453b0, Bool.not_true, Bool.not_false]
                          refine pure_ (i := 3) (N := some 77) (v := undef) (a' := ?_) #[true, true, true, true, false, false, false, false, false, false, false, false, false, false] rfl rfl (by kernel_rfl) (fun _ _ _ h => h) (Or.inr ⟨by rfl, rfl⟩) ?_ ?_
                          rotate_left
                          · simp only [Act.put, List.setIfInBounds_toArray, List.set_cons_zero, List.set_cons_succ, i64_w, i32_w]
                            rfl
                          try simp only [c2453b0, Bool.not_true, Bool.not_false]
                          refine pure_ (i := 4) (N := some 78) (v := undef) (a' := ?_) #[true, true, true, true, true, false, false, false, false, false, false, false, false, false] rfl rfl (by kernel_rfl) (fun _ _ _ h => h) (Or.inr ⟨by rfl, rfl⟩) ?_ ?_
                          rotate_left
                          · simp only [Act.put, List.setIfInBounds_toArray, List.set_cons_zero, List.set_cons_succ, i64_w, i32_w]
                            rfl
                          try simp only [c2453b0, Bool.not_true, Bool.not_false]
                          refine pure_ (i := 5) (N := some 79) (v := undef) (a' := ?_) #[true, true, true, true, true, true, false, false, false, false, false, false, false, false] rfl rfl (by kernel_rfl) (fun _ _ _ h => h) (Or.inr ⟨by rfl, rfl⟩) ?_ ?_
                          rotate_left
                          · simp only [Act.put, List.setIfInBounds_toArray, List.set_cons_zero, List.set_cons_succ, i64_w, i32_w]
                            rfl
                          try simp only [c2453b0, Bool.not_true, Bool.not_false]
                          refine pure_ (i := 6) (N := some 80) (v := undef) (a' := ?_) #[true, true, true, true, true, true, true, false, false, false, false, false, false, false] rfl rfl (by kernel_rfl) (fun _ _ _ h => h) (Or.inr ⟨by rfl, rfl⟩) ?_ ?_
                          rotate_left
                          · simp only [Act.put, List.setIfInBounds_toArray, List.set_cons_zero, List.set_cons_succ, i64_w, i32_w]
                            rfl
                          try simp only [c2453b0, Bool.not_true, Bool.not_false]
                          refine pure_ (i := 7) (N := some 81) (v := undef) (a' := ?_) #[true, true, true, true, true, true, true, true, false, false, false, false, false, false] rfl rfl (by kernel_rfl) (fun _ _ _ h => h) (Or.inr ⟨by rfl, rfl⟩) ?_ ?_
                          rotate_left
                          · simp only [Act.put, List.setIfInBounds_toArray, List.set_cons_zero, List.set_cons_succ, i64_w, i32_w]
                            rfl
                          try simp only [c2453b0, Bool.not_true, Bool.not_false]
                          refine pure_ (i := 8) (N := some 82) (v := undef) (a' := ?_) #[true, true, true, true, true, true, true, true, true, false, false, false, false, false] rfl rfl (by kernel_rfl) (fun _ _ _ h => h) (Or.inr ⟨by rfl, rfl⟩) ?_ ?_
                          rotate_left
                          · simp only [Act.put, List.setIfInBounds_toArray, List.set_cons_zero, List.set_cons_succ, i64_w, i32_w]
                            rfl
                          try simp only [c2453b0, Bool.not_true, Bool.not_false]
                          refine pure_ (i := 9) (N := some 83) (v := undef) (a' := ?_) #[true, true, true, true, true, true, true, true, true, true, false, false, false, false] rfl rfl (by kernel_rfl) (fun _ _ _ h => h) (Or.inr ⟨by rfl, rfl⟩) ?_ ?_
                          rotate_left
                          · simp only [Act.put, List.setIfInBounds_toArray, List.set_cons_zero, List.set_cons_succ, i64_w, i32_w]
                            rfl
                          try simp only [c2453b0, Bool.not_true, Bool.not_false]
                          refine pure_ (i := 10) (N := some 84) (v := undef) (a' := ?_) #[true, true, true, true, true, true, true, true, true, true, true, false, false, false] rfl rfl (by kernel_rfl) (fun _ _ _ h => h) (Or.inr ⟨by rfl, rfl⟩) ?_ ?_
                          rotate_left
                          · simp only [Act.put, List.setIfInBounds_toArray, List.set_cons_zero, List.set_cons_succ, i64_w, i32_w]
                            rfl
                          try simp only [c2453b0, Bool.not_true, Bool.not_false]
                          refine pure_ (i := 11) (N := some 85) (v := undef) (a' := ?_) #[true, true, true, true, true, true, true, true, true, true, true, true, false, false] rfl rfl (by kernel_rfl) (fun _ _ _ h => h) (Or.inr ⟨by rfl, rfl⟩) ?_ ?_
                          rotate_left
                          · simp only [Act.put, List.setIfInBounds_toArray, List.set_cons_zero, List.set_cons_succ, i64_w, i32_w]
                            rfl
                          refine pure_ (i := 12) (N := some 86) (v := ?_) (a' := ?_) #[true, true, true, true, true, true, true, true, true, true, true, true, true, false] rfl rfl (by kernel_rfl) (fun _ _ _ h => h) (Or.inl ⟨by rfl, ?_⟩) ?_ ?_
                          rotate_left
                          · intro w'
                            go_simp
                            with_reducible rfl
                          rotate_left
                          · simp only [Act.put, List.setIfInBounds_toArray, List.set_cons_zero, List.set_cons_succ, i64_w, i32_w]
                            rfl
                          refine pure_ (i := 13) (N := some 4) (v := ?_) (a' := ?_) #[true, true, true, true, true, true, true, true, true, true, true, true, true, true] rfl rfl (by kernel_rfl) (fun _ _ _ h => h) (Or.inl ⟨by rfl, ?_⟩) ?_ ?_
                          rotate_left
                          · intro w'
                            go_simp
                            with_reducible rfl
                          rotate_left
                          · simp only [Act.put, List.setIfInBounds_toArray, List.set_cons_zero, List.set_cons_succ, i64_w, i32_w]
                            rfl
                          refine done_ (by kernel_rfl) ?_
                          replace HS : Aside0 (Sep (fps []) w [] w2452) := ⟨HS.out.sub (.cons _ (.cons _ (.cons _ (.cons _ (.cons _ (.cons _ .slnil))))))⟩
                          go_wp2_with fail
                          go_ret
                          rw [← some_eq H]
                          exact ⟨(by first | rfl | (simp [IntKind.wrap_u32]; done)), HS.out⟩
                · have H := if_no c1318 H
                  have c1318b0 : (t1312.2.2.2 == a4) = false := beq_eq_false_iff_ne.mpr c1318
                  have c1318b1 : (t1312.2.2.2 != a4) = true := bne_iff_ne.mpr c1318
                  clear c1318
                  refine pure_ (i := 10) (N := some 46) (v := ?_) (a' := ?_) #[true, true, true, true, true, true, true, true, true, true, true, false] rfl rfl (by kernel_rfl) (fun _ _ _ h => h) (Or.inl ⟨by rfl, ?_⟩) ?_ ?_
                  rotate_left
                  · intro w'
                    go_simp
                    with_reducible rfl
                  rotate_left
                  · simp only [Act.put, List.setIfInBounds_toArray, List.set_cons_zero, List.set_cons_succ, i64_w, i32_w]
                    rfl
                  refine pure_ (i := 11) (N := some 47) (v := ?_) (a' := ?_) #[true, true, true, true, true, true, true, true, true, true, true, true] rfl rfl (by kernel_rfl) (fun _ _ _ h => h) (Or.inl ⟨by rfl, ?_⟩) ?_ ?_
                  rotate_left
                  · intro w'
                    go_simp
                    with_reducible rfl
                  rotate_left
                  · simp only [Act.put, List.setIfInBounds_toArray, List.set_cons_zero, List.set_cons_succ, i64_w, i32_w]
                    rfl
                  refine done_ (by kernel_rfl) ?_
                  replace HS : Aside0 (Sep (fps []) w [] w1314) := ⟨HS.out.sub (.cons _ (.cons _ (.cons _ (.cons _ .slnil))))⟩
                  go_wp2_with fail
                  go_ret
                  rw [← some_eq H]
                  exact ⟨(by first | rfl | (simp [IntKind.wrap_u32]; done)), HS.out⟩
              · have H := if_no c1317 H
                have c1317b0 : (t1312.2.2.1 == a3) = false := beq_eq_false_iff_ne.mpr c1317
                have c1317b1 : (t1312.2.2.1 != a3) = true := bne_iff_ne.mpr c1317
                clear c1317
                refine pure_ (i := 10) (N := some 46) (v := ?_) (a' := ?_) #[true, true, true, true, true, true, true, true, true, true, true, false] rfl rfl (by kernel_rfl) (fun _ _ _ h => h) (Or.inl ⟨by rfl, ?_⟩) ?_ ?_
                rotate_left
                · intro w'
                  go_simp
                  with_reducible rfl
                rotate_left
                · simp only [Act.put, List.setIfInBounds_toArray, List.set_cons_zero, List.set_cons_succ, i64_w, i32_w]
                  rfl
                refine pure_ (i := 11) (N := some 47) (v := ?_) (a' := ?_) #[true, true, true, true, true, true, true, true, true, true, true, true] rfl rfl (by kernel_rfl) (fun _ _ _ h => h) (Or.inl ⟨by rfl, ?_⟩) ?_ ?_
                rotate_left
                · intro w'
                  go_simp
                  with_reducible rfl
                rotate_left
                · simp only [Act.put, List.setIfInBounds_toArray, List.set_cons_zero, List.set_cons_succ, i64_w, i32_w]
                  rfl
                refine done_ (by kernel_rfl) ?_
                replace HS : Aside0 (Sep (fps []) w [] w1314) := ⟨HS.out.sub (.cons _ (.cons _ (.cons _ (.cons _ .slnil))))⟩
                go_wp2_with fail
                go_ret
                rw [← some_eq H]
                exact ⟨(by first | rfl | (simp [IntKind.wrap_u32]; done)), HS.out⟩
            · have H := if_no c1316 H
              have c1316b0 : (t1312.2.1 == a2) = false := beq_eq_false_iff_ne.mpr c1316
              have c1316b1 : (t1312.2.1 != a2) = true := bne_iff_ne.mpr c1316
              clear c1316
              refine pure_ (i := 10) (N := some 46) (v := ?_) (a' := ?_) #[true, true, true, true, true, true, true, true, true, true, true, false] rfl rfl (by kernel_rfl) (fun _ _ _ h => h) (Or.inl ⟨by rfl, ?_⟩) ?_ ?_
              rotate_left
              · intro w'
                go_simp
                with_reducible rfl
              rotate_left
              · simp only [Act.put, List.setIfInBounds_toArray, List.set_cons_zero, List.set_cons_succ, i64_w, i32_w]
                rfl
              refine pure_ (i := 11) (N := some 47) (v := ?_) (a' := ?_) #[true, true, true, true, true, true, true, true, true, true, true, true] rfl rfl (by kernel_rfl) (fun _ _ _ h => h) (Or.inl ⟨by rfl, ?_⟩) ?_ ?_
              rotate_left
              · intro w'
                go_simp
                with_reducible rfl
              rotate_left
              · simp only [Act.put, List.setIfInBounds_toArray, List.set_cons_zero, List.set_cons_succ, i64_w, i32_w]
                rfl
              refine done_ (by kernel_rfl) ?_
              replace HS : Aside0 (Sep (fps []) w [] w1314) := ⟨HS.out.sub (.cons _ (.cons _ (.cons _ (.cons _ .slnil))))⟩
              go_wp2_with fail
              go_ret
              rw [← some_eq H]
              exact ⟨(by first | rfl | (simp [IntKind.wrap_u32]; done)), HS.out⟩
          · have H := if_no c1315 H
            have c1315b0 : (t1312.1 == a1) = false := beq_eq_false_iff_ne.mpr c1315
            have c1315b1 : (t1312.1 != a1) = true := bne_iff_ne.mpr c1315
            clear c1315
            refine pure_ (i := 10) (N := some 46) (v := ?_) (a' := ?_) #[true, true, true, true, true, true, true, true, true, true, true, false] rfl rfl (by kernel_rfl) (fun _ _ _ h => h) (Or.inl ⟨by rfl, ?_⟩) ?_ ?_
            rotate_left
            · intro w'
              go_simp
              with_reducible rfl
            rotate_left
            · simp only [Act.put, List.setIfInBounds_toArray, List.set_cons_zero, List.set_cons_succ, i64_w, i32_w]
              rfl
            refine pure_ (i := 11) (N := some 47) (v := ?_) (a' := ?_) #[true, true, true, true, true, true, true, true, true, true, true, true] rfl rfl (by kernel_rfl) (fun _ _ _ h => h) (Or.inl ⟨by rfl, ?_⟩) ?_ ?_
            rotate_left
            · intro w'
              go_simp
              with_reducible rfl
            rotate_left
            · simp only [Act.put, List.setIfInBounds_toArray, List.set_cons_zero, List.set_cons_succ, i64_w, i32_w]
              rfl
            refine done_ (by kernel_rfl) ?_
            replace HS : Aside0 (Sep (fps []) w [] w1314) := ⟨HS.out.sub (.cons _ (.cons _ (.cons _ (.cons _ .slnil))))⟩
            go_wp2_with fail
            go_ret
            rw [← some_eq H]
            exact ⟨(by first | rfl | (simp [IntKind.wrap_u32]; done)), HS.out⟩
        · have H := if_no c1309 H
          have c1309b0 : t1275 = false := by simpa using c1309
          have c1309b1 : (!t1275) = true := by rw [c1309b0]; rfl
          try rw [c1309b1]
          clear c1309
          go_wp2_with fail
          obtain ⟨t1256, HA2500, H⟩ := bind_some H
          refine (quitrentlaw05_begun.calls _ t1256 _ ⟨Sep.start _⟩ HA2500).mono ?_
          rintro e_ w2501 ⟨rfl, hS⟩
          replace HS : Aside0 (Sep (fps []) w [b7 g1287 g1288 t807.1 t807.2.1 t807.2.2.1 t807.2.2.2.1, b6 g1288 A1289 ((t807.2.2.2.2).length) n1291 0, r5 A1289 ((t807.2.2.2.2).length) n1291 t807.2.2.2.2, b1 g9 a1 a2 a3 a4] w2501) := ⟨HS.out.call hS⟩
          clear hS
          replace HS : Aside0 (Sep (fps []) w [] w2501) := ⟨HS.out.sub (.cons _ (.cons _ (.cons _ (.cons _ .slnil))))⟩
          go_wp2_with fail
          go_ret
          rw [← some_eq H]
          exact ⟨(by first | rfl | (simp [IntKind.wrap_u32]; done)), HS.out⟩
    · have H := if_no c1299 H
      have c1299b0 : t833 = false := by simpa using c1299
      have c1299b1 : (!t833) = true := by rw [c1299b0]; rfl
      try rw [c1299b1]
      clear c1299
      replace HS : Aside0 (Sep (fps []) w [] w1298) := ⟨HS.out.sub (.cons _ (.cons _ (.cons _ (.cons _ .slnil))))⟩
      go_wp2_with fail
      go_ret
      rw [← some_eq H]
      exact ⟨(by first | rfl | (simp [IntKind.wrap_u32]; done)), HS.out⟩
  · have H := sum_r H
    have H := sum_r H
    refine (ground_New.calls _ a1 a2 a3 a4 (.inr (.inr t808)) _ ⟨Sep.start _⟩ HA805).mono ?_
    rintro e_ w2502 ⟨rfl, hS⟩
    replace HS : Aside0 (Sep (fps []) w [b1 g9 a1 a2 a3 a4] w2502) := ⟨HS.out.call hS⟩
    clear hS
    have hc2503 : w2502.cell? ⟨g9, 0, none⟩ = some (.int .i64 a1) := blk_cellv (HS.out.at0) 0 rfl
    have hc2504 : w2502.cell? ⟨g9, 1, none⟩ = some (.int .i64 a2) := blk_cellv (HS.out.at0) 1 rfl
    have hc2505 : w2502.cell? ⟨g9, 2, none⟩ = some (.int .i64 a3) := blk_cellv (HS.out.at0) 2 rfl
    have hc2506 : w2502.cell? ⟨g9, 3, none⟩ = some (.int .i64 a4) := blk_cellv (HS.out.at0) 3 rfl
    go_wp2_with fail
    clear hc2503 hc2504 hc2505 hc2506
    obtain ⟨t833, HA2507, H⟩ := bind_some H
    refine (quitrentref03_May.calls a1 a2 a3 a4 t833 _ ⟨Sep.start _⟩ HA2507).mono ?_
    rintro e_ w2508 ⟨rfl, hS⟩
    replace HS : Aside0 (Sep (fps []) w [b1 g9 a1 a2 a3 a4] w2508) := ⟨HS.out.call hS⟩
    clear hS
    by_cases c2509 : t833 = true
    · have H := if_yes c2509 H
      have c2509b0 : t833 = true := c2509
      have c2509b1 : (!t833) = false := by rw [c2509b0]; rfl
      try rw [c2509b1]
      clear c2509
      by_cases c2510 : (l5.length : Int) > 200
      · have H := if_yes c2510 H
        have c2510b0 : decide (200 < (l5.length : Int)) = true := decide_eq_true c2510
        have c2510b1 : decide (200 < l5.length) = true := decide_eq_true (by omega)
        clear c2510
        go_wp2_with fail
        obtain ⟨t1256, HA2511, H⟩ := bind_some H
        refine (quitrentlaw05_begun.calls _ t1256 _ ⟨Sep.start _⟩ HA2511).mono ?_
        rintro e_ w2512 ⟨rfl, hS⟩
        replace HS : Aside0 (Sep (fps []) w [b1 g9 a1 a2 a3 a4] w2512) := ⟨HS.out.call hS⟩
        clear hS
        replace HS : Aside0 (Sep (fps []) w [] w2512) := ⟨HS.out.sub (.cons _ .slnil)⟩
        go_wp2_with fail
        go_ret
        rw [← some_eq H]
        exact ⟨(by first | rfl | (simp [IntKind.wrap_u32]; done)), HS.out⟩
      · have H := if_no c2510 H
        have c2510b0 : decide (200 < (l5.length : Int)) = false := decide_eq_false c2510
        have c2510b1 : decide (200 < l5.length) = false := decide_eq_false (by omega)
        clear c2510
        have hc2513 : w2508.cell? ⟨g9, 0, none⟩ = some (.int .i64 a1) := blk_cellv (HS.out.at0) 0 rfl
        have hc2514 : w2508.cell? ⟨g9, 1, none⟩ = some (.int .i64 a2) := blk_cellv (HS.out.at0) 1 rfl
        have hc2515 : w2508.cell? ⟨g9, 2, none⟩ = some (.int .i64 a3) := blk_cellv (HS.out.at0) 2 rfl
        have hc2516 : w2508.cell? ⟨g9, 3, none⟩ = some (.int .i64 a4) := blk_cellv (HS.out.at0) 3 rfl
        go_wp2_with fail
        clear hc2513 hc2514 hc2515 hc2516
        obtain ⟨t1275, HA2517, H⟩ := bind_some H
        refine (quitrentref05_Little.calls a1 a2 a3 a4 t1275 _ ⟨Sep.start _⟩ HA2517).mono ?_
        rintro e_ w2518 ⟨rfl, hS⟩
        replace HS : Aside0 (Sep (fps []) w [b1 g9 a1 a2 a3 a4] w2518) := ⟨HS.out.call hS⟩
        clear hS
        by_cases c2519 : t1275 = true
        · have H := if_yes c2519 H
          have c2519b0 : t1275 = true := c2519
          have c2519b1 : (!t1275) = false := by rw [c2519b0]; rfl
          try rw [c2519b1]
          clear c2519
          go_wp2_with fail
          refine start_ (n := 12) (S := (fun _ => True)) (ds := []) #[false, false, false, false, false, false, false, false, false, false, false, false] (by kernel_rfl) rfl rfl (trivial) (fun hHeld => ?_)
          have HS_ := Aside0.mk HS.out.drew
          clear HS
          generalize World.drew _ = w2521 at HS_ hHeld ⊢
          have HS := HS_
          clear HS_
          refine pure_ (i := 0) (N := some 36) (v := ?_) (a' := ?_) #[true, false, false, false, false, false, false, false, false, false, false, false] rfl rfl (by kernel_rfl) (fun _ _ _ h => h) (Or.inl ⟨by rfl, ?_⟩) ?_ ?_
          rotate_left
          · intro w'
            go_simp
            with_reducible rfl
          rotate_left
          · simp only [Act.put, List.setIfInBounds_toArray, List.set_cons_zero, List.set_cons_succ, i64_w, i32_w]
            rfl
          refine pure_ (i := 1) (N := some 37) (v := ?_) (a' := ?_) #[true, true, false, false, false, false, false, false, false, false, false, false] rfl rfl (by kernel_rfl) (fun _ _ _ h => h) (Or.inl ⟨by rfl, ?_⟩) ?_ ?_
          rotate_left
          · intro w'
            go_simp
            with_reducible rfl
          rotate_left
          · simp only [Act.put, List.setIfInBounds_toArray, List.set_cons_zero, List.set_cons_succ, i64_w, i32_w]
            rfl
          refine pure_ (i := 2) (N := some 38) (v := ?_) (a' := ?_) #[true, true, true, false, false, false, false, false, false, false, false, false] rfl rfl (by kernel_rfl) (fun _ _ _ h => h) (Or.inl ⟨by rfl, ?_⟩) ?_ ?_
          rotate_left
          · intro w'
            go_simp
            with_reducible rfl
          rotate_left
          · simp only [Act.put, List.setIfInBounds_toArray, List.set_cons_zero, List.set_cons_succ, i64_w, i32_w]
            rfl
          refine pure_ (i := 3) (N := some 39) (v := undef) (a' := ?_) #[true, true, true, true, false, false, false, false, false, false, false, false] rfl rfl (by kernel_rfl) (fun _ _ _ h => h) (Or.inr ⟨by rfl, rfl⟩) ?_ ?_
          rotate_left
          · simp only [Act.put, List.setIfInBounds_toArray, List.set_cons_zero, List.set_cons_succ, i64_w, i32_w]
            rfl
          refine pure_ (i := 4) (N := some 40) (v := undef) (a' := ?_) #[true, true, true, true, true, false, false, false, false, false, false, false] rfl rfl (by kernel_rfl) (fun _ _ _ h => h) (Or.inr ⟨by rfl, rfl⟩) ?_ ?_
          rotate_left
          · simp only [Act.put, List.setIfInBounds_toArray, List.set_cons_zero, List.set_cons_succ, i64_w, i32_w]
            rfl
          refine pure_ (i := 5) (N := some 41) (v := ?_) (a' := ?_) #[true, true, true, true, true, true, false, false, false, false, false, false] rfl rfl (by kernel_rfl) (fun _ _ _ h => h) (Or.inl ⟨by rfl, ?_⟩) ?_ ?_
          rotate_left
          · intro w'
            go_simp
            with_reducible rfl
          rotate_left
          · simp only [Act.put, List.setIfInBounds_toArray, List.set_cons_zero, List.set_cons_succ, i64_w, i32_w]
            rfl
          refine pure_ (i := 6) (N := some 42) (v := ?_) (a' := ?_) #[true, true, true, true, true, true, true, false, false, false, false, false] rfl rfl (by kernel_rfl) (fun _ _ _ h => h) (Or.inl ⟨by rfl, ?_⟩) ?_ ?_
          rotate_left
          · intro w'
            go_simp
            with_reducible rfl
          rotate_left
          · simp only [Act.put, List.setIfInBounds_toArray, List.set_cons_zero, List.set_cons_succ, i64_w, i32_w]
            rfl
          refine pure_ (i := 7) (N := some 43) (v := undef) (a' := ?_) #[true, true, true, true, true, true, true, true, false, false, false, false] rfl rfl (by kernel_rfl) (fun _ _ _ h => h) (Or.inr ⟨by rfl, rfl⟩) ?_ ?_
          rotate_left
          · simp only [Act.put, List.setIfInBounds_toArray, List.set_cons_zero, List.set_cons_succ, i64_w, i32_w]
            rfl
          refine pure_ (i := 8) (N := some 44) (v := undef) (a' := ?_) #[true, true, true, true, true, true, true, true, true, false, false, false] rfl rfl (by kernel_rfl) (fun _ _ _ h => h) (Or.inr ⟨by rfl, rfl⟩) ?_ ?_
          rotate_left
          · simp only [Act.put, List.setIfInBounds_toArray, List.set_cons_zero, List.set_cons_succ, i64_w, i32_w]
            rfl
          refine pure_ (i := 9) (N := some 45) (v := undef) (a' := ?_) #[true, true, true, true, true, true, true, true, true, true, false, false] rfl rfl (by kernel_rfl) (fun _ _ _ h => h) (Or.inr ⟨by rfl, rfl⟩) ?_ ?_
          rotate_left
          · simp only [Act.put, List.setIfInBounds_toArray, List.set_cons_zero, List.set_cons_succ, i64_w, i32_w]
            rfl
          refine pure_ (i := 10) (N := some 46) (v := undef) (a' := ?_) #[true, true, true, true, true, true, true, true, true, true, true, false] rfl rfl (by kernel_rfl) (fun _ _ _ h => h) (Or.inr ⟨by rfl, rfl⟩) ?_ ?_
          rotate_left
          · simp only [Act.put, List.setIfInBounds_toArray, List.set_cons_zero, List.set_cons_succ, i64_w, i32_w]
            rfl
          refine pure_ (i := 11) (N := some 47) (v := ?_) (a' := ?_) #[true, true, true, true, true, true, true, true, true, true, true, true] rfl rfl (by kernel_rfl) (fun _ _ _ h => h) (Or.inl ⟨by rfl, ?_⟩) ?_ ?_
          rotate_left
          · intro w'
            go_simp
            with_reducible rfl
          rotate_left
          · simp only [Act.put, List.setIfInBounds_toArray, List.set_cons_zero, List.set_cons_succ, i64_w, i32_w]
            rfl
          refine done_ (by kernel_rfl) ?_
          replace HS : Aside0 (Sep (fps []) w [] w2521) := ⟨HS.out.sub (.cons _ .slnil)⟩
          go_wp2_with fail
          go_ret
          rw [← some_eq H]
          exact ⟨(by first | rfl | (simp [IntKind.wrap_u32]; done)), HS.out⟩
        · have H := if_no c2519 H
          have c2519b0 : t1275 = false := by simpa using c2519
          have c2519b1 : (!t1275) = true := by rw [c2519b0]; rfl
          try rw [c2519b1]
          clear c2519
          go_wp2_with fail
          obtain ⟨t1256, HA2522, H⟩ := bind_some H
          refine (quitrentlaw05_begun.calls _ t1256 _ ⟨Sep.start _⟩ HA2522).mono ?_
          rintro e_ w2523 ⟨rfl, hS⟩
          replace HS : Aside0 (Sep (fps []) w [b1 g9 a1 a2 a3 a4] w2523) := ⟨HS.out.call hS⟩
          clear hS
          replace HS : Aside0 (Sep (fps []) w [] w2523) := ⟨HS.out.sub (.cons _ .slnil)⟩
          go_wp2_with fail
          go_ret
          rw [← some_eq H]
          exact ⟨(by first | rfl | (simp [IntKind.wrap_u32]; done)), HS.out⟩
    · have H := if_no c2509 H
      have c2509b0 : t833 = false := by simpa using c2509
      have c2509b1 : (!t833) = true := by rw [c2509b0]; rfl
      try rw [c2509b1]
      clear c2509
      by_cases c2524 : t808 = 1
      · have H := if_yes c2524 H
        have c2524b0 : (t808 == 1) = true := beq_iff_eq.mpr c2524
        have c2524b1 : (t808 != 1) = false := bne_eq_false_iff_eq.mpr c2524
        clear c2524
        go_wp2_with fail
        obtain ⟨t2525, HA2526, H⟩ := bind_some H
        refine (quitrentlaw05_begun.calls _ t2525 _ ⟨Sep.start _⟩ HA2526).mono ?_
        rintro e_ w2527 ⟨rfl, hS⟩
        replace HS : Aside0 (Sep (fps []) w [b1 g9 a1 a2 a3 a4] w2527) := ⟨HS.out.call hS⟩
        clear hS
        replace HS : Aside0 (Sep (fps []) w [] w2527) := ⟨HS.out.sub (.cons _ .slnil)⟩
        go_wp2_with fail
        go_ret
        rw [← some_eq H]
        exact ⟨(by first | rfl | (simp [IntKind.wrap_u32]; done)), HS.out⟩
      · have H := if_no c2524 H
        have c2524b0 : (t808 == 1) = false := beq_eq_false_iff_ne.mpr c2524
        have c2524b1 : (t808 != 1) = true := bne_iff_ne.mpr c2524
        clear c2524
        replace HS : Aside0 (Sep (fps []) w [] w2508) := ⟨HS.out.sub (.cons _ .slnil)⟩
        go_wp2_with fail
        go_ret
        rw [← some_eq H]
        exact ⟨(by first | rfl | (simp [IntKind.wrap_u32]; done)), HS.out⟩
end Go.Proofs.Ytobeonkddamnoaa.C

/- Each function of the group TN does what its plain function says, and changes nothing that was there; proved by walking its code. No condition. -/
import Derived.Test.YtobeonkddamnoaaGreatDoorQw
import Derived.Test.YtobeonkddamnoaaGreatDoorMTN
import Derived.Test.YtobeonkddamnoaaGreatDoorGTN0
import Derived.Test.YtobeonkddamnoaaGreatDoorGTN1
import Derived.Test.YtobeonkddamnoaaGreatDoorGTN2
namespace Go.Proofs.YtobeonkddamnoaaGreatDoor.C
open Go.RowKit Go.Proofs.YtobeonkddamnoaaGreatDoorW.PrintWords Go.Proofs.YtobeonkddamnoaaGreatDoorW.PrintLast Go.Proofs.YtobeonkddamnoaaGreatDoor.Q Go.Proofs.YtobeonkddamnoaaGreatDoor.M
set_option linter.unusedVariables false
set_option linter.unusedSimpArgs false
set_option maxHeartbeats 30000000 in
set_option maxRecDepth 100000 in
theorem quitrentref12_New.calls (k : Nat) (a2945 : Int) (a2946 : Int) (r : Int × Int × List Int × List Int × List Int) (w : World)  (HGl0 : Aside0 (Gl 0 #[.int .i64 0, .int .i64 0, .int .i64 0, .int .i64 0, .int .i64 0] (fps []) w)) (HS : Aside0 (Sep (fps []) w [] w)) (H : Aside0 (quitrentref12_New.f k a2945 a2946 = some r)) :
    Calls Tryz.prog 42 #[.int .i64 a2945, .int .i64 a2946] w fun e w' => ∃ (g3059 : Nat), e = .returned (.pointer (some ⟨g3059, 0, none⟩)) ∧ ∃ (g3060 : Nat) (A3061 : Option Addr) (m3062 : Nat) (n3063 : Nat) (A3065 : Option Addr) (m3066 : Nat) (n3067 : Nat) (A3069 : Option Addr) (m3070 : Nat) (n3071 : Nat), Sep (fps []) w [b21 g3059 g3060 0 0 0 0 0 0 0 0 0 A3061 m3062 n3063 A3065 m3066 n3067 0, b18 g3060 r.1 r.2.1 A3069 m3070 n3071, r17 A3061 m3062 n3063 r.2.2.1, r17 A3065 m3066 n3067 r.2.2.2.1, r17 A3069 m3070 n3071 r.2.2.2.2] w' := by
  unfold quitrentref12_New.f at H
  go_enter Tryz.func42, Tryz.ntmps42
  go_wp2_with fail
  obtain ⟨t3018, HA3019, H⟩ := bind_some H
  refine (quitrentref11_New.calls _ a2945 a2946 t3018 _ ⟨HGl0.out.pass (l := []) HS.out⟩ ⟨Sep.start _⟩ HA3019).mono ?_
  rintro e_ w3020 ⟨g3023, rfl, A3024, m3025, n3026, hS⟩
  replace HS : Aside0 (Sep (fps []) w [b18 g3023 t3018.1 t3018.2.1 A3024 m3025 n3026, r17 A3024 m3025 n3026 t3018.2.2] w3020) := ⟨HS.out.call hS⟩
  clear hS
  obtain rfl := (row_len (HS.out.at1)).symm
  go_wp2_with (first | ((with_reducible refine gate_dst (N := 9) rfl ?_); refine box_on ?hg (N := 9) ?hd (cs := #[.pointer (some ⟨g3023, 0, none⟩), .slice none 0 0, .int .i64 0, .int .i64 0, .int .i64 0, .int .i64 0, .int .i64 0, .int .i64 0, .int .i64 0, .int .i64 0, .int .i64 0, .slice none 0 0, .slice none 0 0, .int .i64 0]) (t := 96) ?hr ?_; (case hd => rfl); (case hg => rfl); (case hr => first | (go_simp; done) | (go_simp; rfl)); intro g3028 hg w3029 hbox hb; replace HS : Aside0 (Sep (fps []) w [b18 g3023 t3018.1 t3018.2.1 A3024 ((t3018.2.2).length) n3026, r17 A3024 ((t3018.2.2).length) n3026 t3018.2.2, b19 g3028 g3023 0 0 0 0 0 0 0 0 0 0] w3029) := ⟨HS.out.box hg hbox hb⟩; clear hg hbox hb; replace HS : Aside0 (Sep (fps []) w [r17 none 0 0 [], b18 g3023 t3018.1 t3018.2.1 A3024 ((t3018.2.2).length) n3026, r17 A3024 ((t3018.2.2).length) n3026 t3018.2.2, b20 g3028 g3023 0 0 0 0 0 0 0 0 0 none 0 0 0] w3029) := ⟨HS.out.nilrow 3 (Value.int .i64)⟩; replace HS : Aside0 (Sep (fps []) w [r17 none 0 0 [], r17 none 0 0 [], b18 g3023 t3018.1 t3018.2.1 A3024 ((t3018.2.2).length) n3026, r17 A3024 ((t3018.2.2).length) n3026 t3018.2.2, b21 g3028 g3023 0 0 0 0 0 0 0 0 0 none 0 0 none 0 0 0] w3029) := ⟨HS.out.nilrow 3 (Value.int .i64)⟩))
  go_ret
  rw [← some_eq H]
  exact ⟨g3028, (by first | rfl | (simp [IntKind.wrap_u32]; done)), g3023, none, 0, 0, none, 0, 0, A3024, ((t3018.2.2).length), n3026, ((((((HS.out).front 3 (by simp)).front 1 (by simp)).front 2 (by simp)).front 3 (by simp)).front 4 (by simp)).keep (l := [b21 g3028 g3023 0 0 0 0 0 0 0 0 0 none 0 0 none 0 0 0, b18 g3023 t3018.1 t3018.2.1 A3024 ((t3018.2.2).length) n3026, r17 none 0 0 [], r17 none 0 0 [], r17 A3024 ((t3018.2.2).length) n3026 t3018.2.2]) (rest := [])⟩

set_option maxHeartbeats 30000000 in
set_option maxRecDepth 100000 in
theorem pool_Open_nil.calls  (r : Bool) (w : World)  (HGl0 : Aside0 (Gl 0 #[.int .i64 0, .int .i64 0, .int .i64 0, .int .i64 0, .int .i64 0] (fps []) w)) (HS : Aside0 (Sep (fps []) w [] w)) (H : Aside0 (pool_Open_nil.f = some r)) :
    Calls Tryz.prog 41 #[.pointer none] w fun e w' => e = .returned (.bool r) ∧ Sep (fps []) w [] w' := by
  unfold pool_Open_nil.f at H
  go_enter Tryz.func41, Tryz.ntmps41
  go_wp2_with fail
  go_ret
  rw [← some_eq H]
  exact ⟨(by first | rfl | (simp [IntKind.wrap_u32]; done)), HS.out⟩

set_option maxHeartbeats 30000000 in
set_option maxRecDepth 100000 in
theorem quitrentlaw12_Opened.calls (k : Nat) (a1403 : Int) (a1404 : Int) (a1405 : Int) (a1406 : Int) (r : Bool ⊕ ((Bool × Int × Int × Int × Int × Int × Int × Int × List Int × List Int × List Int × List Int) ⊕ (Bool × Int × Int × List Int × List Int × List Int))) (w : World)  (HGl0 : Aside0 (Gl 0 #[.int .i64 0, .int .i64 0, .int .i64 0, .int .i64 0, .int .i64 0] (fps []) w)) (HS : Aside0 (Sep (fps []) w [] w)) (H : Aside0 (quitrentlaw12_Opened.f k a1403 a1404 a1405 a1406 = some r)) :
    Calls Tryz.prog 8 #[.agg #[.int .i64 a1403, .int .i64 a1404, .int .i64 a1405, .int .i64 a1406]] w fun e w' => Sum.elim (fun (r : Bool) => e = .returned (.tuple #[.pointer none, .pointer none, .bool r]) ∧ Sep (fps []) w [] w') (fun (r_ : (Bool × Int × Int × Int × Int × Int × Int × Int × List Int × List Int × List Int × List Int) ⊕ (Bool × Int × Int × List Int × List Int × List Int)) => Sum.elim (fun (r : Bool × Int × Int × Int × Int × Int × Int × Int × List Int × List Int × List Int × List Int) => ∃ (g3336 : Nat) (g3337 : Nat), e = .returned (.tuple #[.pointer (some ⟨g3336, 0, none⟩), .pointer (some ⟨g3337, 0, none⟩), .bool r.1]) ∧ ∃ (g3338 : Nat) (g3339 : Nat) (A3340 : Option Addr) (m3341 : Nat) (n3342 : Nat) (A3344 : Option Addr) (m3345 : Nat) (n3346 : Nat) (A3348 : Option Addr) (m3349 : Nat) (n3350 : Nat) (A3352 : Option Addr) (m3353 : Nat) (n3354 : Nat), Sep (fps []) w [b14 g3336 g3338 r.2.1 r.2.2.1 r.2.2.2.1 r.2.2.2.2.1, b21 g3337 g3339 0 0 0 0 0 0 0 0 0 A3340 m3341 n3342 A3344 m3345 n3346 0, b13 g3338 A3348 m3349 n3350 r.2.2.2.2.2.1, b18 g3339 r.2.2.2.2.2.2.1 r.2.2.2.2.2.2.2.1 A3352 m3353 n3354, r17 A3340 m3341 n3342 r.2.2.2.2.2.2.2.2.1, r17 A3344 m3345 n3346 r.2.2.2.2.2.2.2.2.2.1, r7 A3348 m3349 n3350 r.2.2.2.2.2.2.2.2.2.2.1, r17 A3352 m3353 n3354 r.2.2.2.2.2.2.2.2.2.2.2] w') (fun (r : Bool × Int × Int × List Int × List Int × List Int) => ∃ (g3361 : Nat), e = .returned (.tuple #[.pointer none, .pointer (some ⟨g3361, 0, none⟩), .bool r.1]) ∧ ∃ (g3362 : Nat) (A3363 : Option Addr) (m3364 : Nat) (n3365 : Nat) (A3367 : Option Addr) (m3368 : Nat) (n3369 : Nat) (A3371 : Option Addr) (m3372 : Nat) (n3373 : Nat), Sep (fps []) w [b21 g3361 g3362 0 0 0 0 0 0 0 0 0 A3363 m3364 n3365 A3367 m3368 n3369 0, b18 g3362 r.2.1 r.2.2.1 A3371 m3372 n3373, r17 A3363 m3364 n3365 r.2.2.2.1, r17 A3367 m3368 n3369 r.2.2.2.2.1, r17 A3371 m3372 n3373 r.2.2.2.2.2] w') r_) r := by
  unfold quitrentlaw12_Opened.f at H
  go_enter Tryz.func8, Tryz.ntmps8
  go_wp2_with (first | ((with_reducible refine gate_dst (N := 1) rfl ?_); refine box_on ?hg (N := 1) ?hd (cs := #[.int .i64 a1403, .int .i64 a1404, .int .i64 a1405, .int .i64 a1406]) (t := 29) ?hr ?_; (case hd => rfl); (case hg => rfl); (case hr => first | (go_simp; done) | (go_simp; rfl)); intro g3202 hg w3203 hbox hb; replace HS : Aside0 (Sep (fps []) w [b4 g3202 a1403 a1404 a1405 a1406] w3203) := ⟨HS.out.box hg hbox hb⟩; clear hg hbox hb; have hc3205 : w3203.cell? ⟨g3202, 0, none⟩ = some (.int .i64 a1403) := blk_cellv (HS.out.at0) 0 rfl; have hc3206 : w3203.cell? ⟨g3202, 1, none⟩ = some (.int .i64 a1404) := blk_cellv (HS.out.at0) 1 rfl; have hc3207 : w3203.cell? ⟨g3202, 2, none⟩ = some (.int .i64 a1405) := blk_cellv (HS.out.at0) 2 rfl; have hc3208 : w3203.cell? ⟨g3202, 3, none⟩ = some (.int .i64 a1406) := blk_cellv (HS.out.at0) 3 rfl))
  clear hc3205 hc3206 hc3207 hc3208
  obtain ⟨t3209, HA3210, H⟩ := bind_some H
  rcases t3209 with t3211 | (t3212 | t3213)
  · have H := sum_l H
    refine (ground_New.calls _ a1403 a1404 a1405 a1406 (.inl t3211) _ ⟨HGl0.out.pass (l := []) HS.out⟩ ⟨Sep.start _⟩ HA3210).mono ?_
    rintro e_ w3214 ⟨rfl, hS⟩
    replace HS : Aside0 (Sep (fps []) w [b4 g3202 a1403 a1404 a1405 a1406] w3214) := ⟨HS.out.call hS⟩
    clear hS
    replace HS : Aside0 (Sep (fps []) w [] w3214) := ⟨HS.out.sub (.cons _ .slnil)⟩
    go_wp2_with fail
    go_ret3
    rw [← some_eq H]
    exact ⟨(by first | rfl | (simp [IntKind.wrap_u32]; done)), HS.out⟩
  · have H := sum_r H
    have H := sum_l H
    refine (ground_New.calls _ a1403 a1404 a1405 a1406 (.inr (.inl t3212)) _ ⟨HGl0.out.pass (l := []) HS.out⟩ ⟨Sep.start _⟩ HA3210).mono ?_
    rintro e_ w3215 ⟨g3219, rfl, g3220, A3221, m3222, n3223, hS⟩
    replace HS : Aside0 (Sep (fps []) w [b14 g3219 g3220 t3212.1 t3212.2.1 t3212.2.2.1 t3212.2.2.2.1, b13 g3220 A3221 m3222 n3223 0, r7 A3221 m3222 n3223 t3212.2.2.2.2, b4 g3202 a1403 a1404 a1405 a1406] w3215) := ⟨HS.out.call hS⟩
    clear hS
    obtain rfl := (row_len (HS.out.at2)).symm
    go_wp2_with fail
    obtain ⟨t3225, HA3226, H⟩ := bind_some H
    refine (pool_Open.calls _ t3212.2.2.2.2 0 t3212.1 t3212.2.1 t3212.2.2.1 t3212.2.2.2.1 g3219 g3220 A3221 ((t3212.2.2.2.2).length) n3223 t3225 _ ⟨HGl0.out.pass HS.out⟩ ⟨HS.out.begin⟩ HA3226).mono ?_
    rintro e_ w3227 ⟨rfl, hS⟩
    replace HS : Aside0 (Sep (fps []) w [b14 g3219 g3220 t3212.1 t3212.2.1 t3212.2.2.1 t3212.2.2.2.1, b13 g3220 A3221 ((t3212.2.2.2.2).length) n3223 t3225.2.1, r7 A3221 ((t3212.2.2.2.2).length) n3223 t3225.2.2, b4 g3202 a1403 a1404 a1405 a1406] w3227) := ⟨HS.out.call hS⟩
    clear hS
    by_cases c3228 : t3225.1 = true
    · have H := if_yes c3228 H
      have c3228b0 : t3225.1 = true := c3228
      have c3228b1 : (!t3225.1) = false := by rw [c3228b0]; rfl
      try rw [c3228b1]
      clear c3228
      have hc3229 : w3227.cell? ⟨g3202, 0, none⟩ = some (.int .i64 a1403) := blk_cellv (HS.out.at3) 0 rfl
      have hc3230 : w3227.cell? ⟨g3202, 1, none⟩ = some (.int .i64 a1404) := blk_cellv (HS.out.at3) 1 rfl
      go_wp2_with fail
      clear hc3229 hc3230
      obtain ⟨t3231, HA3232, H⟩ := bind_some H
      refine (quitrentref12_New.calls _ a1403 a1404 t3231 _ ⟨HGl0.out.pass (l := []) HS.out⟩ ⟨Sep.start _⟩ HA3232).mono ?_
      rintro e_ w3233 ⟨g3239, rfl, g3240, A3241, m3242, n3243, A3245, m3246, n3247, A3249, m3250, n3251, hS⟩
      replace HS : Aside0 (Sep (fps []) w [b21 g3239 g3240 0 0 0 0 0 0 0 0 0 A3241 m3242 n3243 A3245 m3246 n3247 0, b18 g3240 t3231.1 t3231.2.1 A3249 m3250 n3251, r17 A3241 m3242 n3243 t3231.2.2.1, r17 A3245 m3246 n3247 t3231.2.2.2.1, r17 A3249 m3250 n3251 t3231.2.2.2.2, b14 g3219 g3220 t3212.1 t3212.2.1 t3212.2.2.1 t3212.2.2.2.1, b13 g3220 A3221 ((t3212.2.2.2.2).length) n3223 t3225.2.1, r7 A3221 ((t3212.2.2.2.2).length) n3223 t3225.2.2, b4 g3202 a1403 a1404 a1405 a1406] w3233) := ⟨HS.out.call hS⟩
      clear hS
      obtain rfl := (row_len (HS.out.at2)).symm
      obtain rfl := (row_len (HS.out.at3)).symm
      obtain rfl := (row_len (HS.out.at4)).symm
      replace HS : Aside0 (Sep (fps []) w [b21 g3239 g3240 0 0 0 0 0 0 0 0 0 A3241 ((t3231.2.2.1).length) n3243 A3245 ((t3231.2.2.2.1).length) n3247 0, b18 g3240 t3231.1 t3231.2.1 A3249 ((t3231.2.2.2.2).length) n3251, r17 A3241 ((t3231.2.2.1).length) n3243 t3231.2.2.1, r17 A3245 ((t3231.2.2.2.1).length) n3247 t3231.2.2.2.1, r17 A3249 ((t3231.2.2.2.2).length) n3251 t3231.2.2.2.2, b14 g3219 g3220 t3212.1 t3212.2.1 t3212.2.2.1 t3212.2.2.2.1, b13 g3220 A3221 ((t3212.2.2.2.2).length) n3223 t3225.2.1, r7 A3221 ((t3212.2.2.2.2).length) n3223 t3225.2.2] w3233) := ⟨HS.out.sub (.cons_cons _ (.cons_cons _ (.cons_cons _ (.cons_cons _ (.cons_cons _ (.cons_cons _ (.cons_cons _ (.cons_cons _ (.cons _ .slnil)))))))))⟩
      go_wp2_with fail
      go_ret3
      rw [← some_eq H]
      exact ⟨g3219, g3239, (by first | rfl | (simp [IntKind.wrap_u32]; done)), g3220, g3240, A3241, ((t3231.2.2.1).length), n3243, A3245, ((t3231.2.2.2.1).length), n3247, A3221, ((t3212.2.2.2.2).length), n3223, A3249, ((t3231.2.2.2.2).length), n3251, (((((((((HS.out).front 4 (by simp)).front 7 (by simp)).front 5 (by simp)).front 5 (by simp)).front 5 (by simp)).front 7 (by simp)).front 6 (by simp)).front 7 (by simp)).keep (l := [b14 g3219 g3220 t3212.1 t3212.2.1 t3212.2.2.1 t3212.2.2.2.1, b21 g3239 g3240 0 0 0 0 0 0 0 0 0 A3241 ((t3231.2.2.1).length) n3243 A3245 ((t3231.2.2.2.1).length) n3247 0, b13 g3220 A3221 ((t3212.2.2.2.2).length) n3223 t3225.2.1, b18 g3240 t3231.1 t3231.2.1 A3249 ((t3231.2.2.2.2).length) n3251, r17 A3241 ((t3231.2.2.1).length) n3243 t3231.2.2.1, r17 A3245 ((t3231.2.2.2.1).length) n3247 t3231.2.2.2.1, r7 A3221 ((t3212.2.2.2.2).length) n3223 t3225.2.2, r17 A3249 ((t3231.2.2.2.2).length) n3251 t3231.2.2.2.2]) (rest := [])⟩
    · have H := if_no c3228 H
      have c3228b0 : t3225.1 = false := by simpa using c3228
      have c3228b1 : (!t3225.1) = true := by rw [c3228b0]; rfl
      try rw [c3228b1]
      clear c3228
      replace HS : Aside0 (Sep (fps []) w [] w3227) := ⟨HS.out.sub (.cons _ (.cons _ (.cons _ (.cons _ .slnil))))⟩
      go_wp2_with fail
      go_ret3
      rw [← some_eq H]
      exact ⟨(by first | rfl | (simp [IntKind.wrap_u32]; done)), HS.out⟩
  · have H := sum_r H
    have H := sum_r H
    refine (ground_New.calls _ a1403 a1404 a1405 a1406 (.inr (.inr t3213)) _ ⟨HGl0.out.pass (l := []) HS.out⟩ ⟨Sep.start _⟩ HA3210).mono ?_
    rintro e_ w3281 ⟨rfl, hS⟩
    replace HS : Aside0 (Sep (fps []) w [b4 g3202 a1403 a1404 a1405 a1406] w3281) := ⟨HS.out.call hS⟩
    clear hS
    by_cases c3282 : t3213 = 0
    · have H := if_yes c3282 H
      have c3282b0 : (t3213 == 0) = true := beq_iff_eq.mpr c3282
      have c3282b1 : (t3213 != 0) = false := bne_eq_false_iff_eq.mpr c3282
      clear c3282
      go_wp2_with fail
      obtain ⟨t3225, HA3283, H⟩ := bind_some H
      refine (pool_Open_nil.calls t3225 _ ⟨HGl0.out.pass (l := []) HS.out⟩ ⟨Sep.start _⟩ HA3283).mono ?_
      rintro e_ w3284 ⟨rfl, hS⟩
      replace HS : Aside0 (Sep (fps []) w [b4 g3202 a1403 a1404 a1405 a1406] w3284) := ⟨HS.out.call hS⟩
      clear hS
      by_cases c3285 : t3225 = true
      · have H := if_yes c3285 H
        have c3285b0 : t3225 = true := c3285
        have c3285b1 : (!t3225) = false := by rw [c3285b0]; rfl
        try rw [c3285b1]
        clear c3285
        have hc3286 : w3284.cell? ⟨g3202, 0, none⟩ = some (.int .i64 a1403) := blk_cellv (HS.out.at0) 0 rfl
        have hc3287 : w3284.cell? ⟨g3202, 1, none⟩ = some (.int .i64 a1404) := blk_cellv (HS.out.at0) 1 rfl
        go_wp2_with fail
        clear hc3286 hc3287
        obtain ⟨t3231, HA3288, H⟩ := bind_some H
        refine (quitrentref12_New.calls _ a1403 a1404 t3231 _ ⟨HGl0.out.pass (l := []) HS.out⟩ ⟨Sep.start _⟩ HA3288).mono ?_
        rintro e_ w3289 ⟨g3295, rfl, g3296, A3297, m3298, n3299, A3301, m3302, n3303, A3305, m3306, n3307, hS⟩
        replace HS : Aside0 (Sep (fps []) w [b21 g3295 g3296 0 0 0 0 0 0 0 0 0 A3297 m3298 n3299 A3301 m3302 n3303 0, b18 g3296 t3231.1 t3231.2.1 A3305 m3306 n3307, r17 A3297 m3298 n3299 t3231.2.2.1, r17 A3301 m3302 n3303 t3231.2.2.2.1, r17 A3305 m3306 n3307 t3231.2.2.2.2, b4 g3202 a1403 a1404 a1405 a1406] w3289) := ⟨HS.out.call hS⟩
        clear hS
        obtain rfl := (row_len (HS.out.at2)).symm
        obtain rfl := (row_len (HS.out.at3)).symm
        obtain rfl := (row_len (HS.out.at4)).symm
        replace HS : Aside0 (Sep (fps []) w [b21 g3295 g3296 0 0 0 0 0 0 0 0 0 A3297 ((t3231.2.2.1).length) n3299 A3301 ((t3231.2.2.2.1).length) n3303 0, b18 g3296 t3231.1 t3231.2.1 A3305 ((t3231.2.2.2.2).length) n3307, r17 A3297 ((t3231.2.2.1).length) n3299 t3231.2.2.1, r17 A3301 ((t3231.2.2.2.1).length) n3303 t3231.2.2.2.1, r17 A3305 ((t3231.2.2.2.2).length) n3307 t3231.2.2.2.2] w3289) := ⟨HS.out.sub (.cons_cons _ (.cons_cons _ (.cons_cons _ (.cons_cons _ (.cons_cons _ (.cons _ .slnil))))))⟩
        go_wp2_with fail
        go_ret3
        rw [← some_eq H]
        exact ⟨g3295, (by first | rfl | (simp [IntKind.wrap_u32]; done)), g3296, A3297, ((t3231.2.2.1).length), n3299, A3301, ((t3231.2.2.2.1).length), n3303, A3305, ((t3231.2.2.2.2).length), n3307, HS.out⟩
      · have H := if_no c3285 H
        have c3285b0 : t3225 = false := by simpa using c3285
        have c3285b1 : (!t3225) = true := by rw [c3285b0]; rfl
        try rw [c3285b1]
        clear c3285
        replace HS : Aside0 (Sep (fps []) w [] w3284) := ⟨HS.out.sub (.cons _ .slnil)⟩
        go_wp2_with fail
        go_ret3
        rw [← some_eq H]
        exact ⟨(by first | rfl | (simp [IntKind.wrap_u32]; done)), HS.out⟩
    · have H := if_no c3282 H
      have c3282b0 : (t3213 == 0) = false := beq_eq_false_iff_ne.mpr c3282
      have c3282b1 : (t3213 != 0) = true := bne_iff_ne.mpr c3282
      clear c3282
      replace HS : Aside0 (Sep (fps []) w [] w3281) := ⟨HS.out.sub (.cons _ .slnil)⟩
      go_wp2_with fail
      go_ret3
      rw [← some_eq H]
      exact ⟨(by first | rfl | (simp [IntKind.wrap_u32]; done)), HS.out⟩

set_option maxHeartbeats 30000000 in
set_option maxRecDepth 100000 in
theorem shape_isWidth.calls (a3399 : Int) (r : Bool) (w : World)  (HGl0 : Aside0 (Gl 0 #[.int .i64 0, .int .i64 0, .int .i64 0, .int .i64 0, .int .i64 0] (fps []) w)) (HS : Aside0 (Sep (fps []) w [] w)) (H : Aside0 (shape_isWidth.f a3399 = some r)) :
    Calls Tryz.prog 149 #[.int .i64 a3399] w fun e w' => e = .returned (.bool r) ∧ Sep (fps []) w [] w' := by
  unfold shape_isWidth.f at H
  go_enter Tryz.func149, Tryz.ntmps149
  by_cases c3400 : a3399 ≥ 16
  · have H := if_yes c3400 H
    have c3400b0 : decide (16 ≤ a3399) = true := decide_eq_true c3400
    clear c3400
    go_wp2_with fail
    go_ret
    rw [← some_eq H]
    exact ⟨(by first | rfl | (simp [IntKind.wrap_u32]; done)), HS.out⟩
  · have H := if_no c3400 H
    have c3400b0 : decide (16 ≤ a3399) = false := decide_eq_false c3400
    clear c3400
    go_wp2_with fail
    go_ret
    rw [← some_eq H]
    exact ⟨(by first | rfl | (simp [IntKind.wrap_u32]; done)), HS.out⟩

set_option maxHeartbeats 30000000 in
set_option maxRecDepth 100000 in
theorem shape_inHead.calls (a3406 : Int) (r : Int) (w : World)  (HGl0 : Aside0 (Gl 0 #[.int .i64 0, .int .i64 0, .int .i64 0, .int .i64 0, .int .i64 0] (fps []) w)) (HS : Aside0 (Sep (fps []) w [] w)) (H : Aside0 (shape_inHead.f a3406 = some r)) :
    Calls Tryz.prog 151 #[.int .i64 a3406] w fun e w' => e = .returned (.int .i64 r) ∧ Sep (fps []) w [] w' := by
  unfold shape_inHead.f at H
  go_enter Tryz.func151, Tryz.ntmps151
  go_wp2_with fail
  go_ret
  rw [← some_eq H]
  exact ⟨(by first | rfl | (simp [IntKind.wrap_u32]; done)), HS.out⟩

set_option maxHeartbeats 30000000 in
set_option maxRecDepth 100000 in
theorem shape_inLeaf.calls (a3410 : Int) (r : Int) (w : World)  (HGl0 : Aside0 (Gl 0 #[.int .i64 0, .int .i64 0, .int .i64 0, .int .i64 0, .int .i64 0] (fps []) w)) (HS : Aside0 (Sep (fps []) w [] w)) (H : Aside0 (shape_inLeaf.f a3410 = some r)) :
    Calls Tryz.prog 152 #[.int .i64 a3410] w fun e w' => e = .returned (.int .i64 r) ∧ Sep (fps []) w [] w' := by
  unfold shape_inLeaf.f at H
  go_enter Tryz.func152, Tryz.ntmps152
  go_wp2_with fail
  go_ret
  rw [← some_eq H]
  exact ⟨(by first | rfl | (simp [IntKind.wrap_u32]; done)), HS.out⟩

set_option maxHeartbeats 30000000 in
set_option maxRecDepth 100000 in
theorem shape_most.calls (a3405 : Int) (r : Int) (w : World)  (HGl0 : Aside0 (Gl 0 #[.int .i64 0, .int .i64 0, .int .i64 0, .int .i64 0, .int .i64 0] (fps []) w)) (HS : Aside0 (Sep (fps []) w [] w)) (H : Aside0 (shape_most.f a3405 = some r)) :
    Calls Tryz.prog 150 #[.int .i64 a3405] w fun e w' => e = .returned (.int .i64 r) ∧ Sep (fps []) w [] w' := by
  unfold shape_most.f at H
  go_enter Tryz.func150, Tryz.ntmps150
  go_wp2_with fail
  obtain ⟨t3407, HA3408, H⟩ := bind_some H
  refine (shape_inHead.calls a3405 t3407 _ ⟨HGl0.out.pass (l := []) HS.out⟩ ⟨Sep.start _⟩ HA3408).mono ?_
  rintro e_ w3409 ⟨rfl, hS⟩
  replace HS : Aside0 (Sep (fps []) w [] w3409) := ⟨HS.out.call hS⟩
  clear hS
  go_wp2_with fail
  obtain ⟨t3411, HA3412, H⟩ := bind_some H
  refine (shape_inLeaf.calls a3405 t3411 _ ⟨HGl0.out.pass (l := []) HS.out⟩ ⟨Sep.start _⟩ HA3412).mono ?_
  rintro e_ w3413 ⟨rfl, hS⟩
  replace HS : Aside0 (Sep (fps []) w [] w3413) := ⟨HS.out.call hS⟩
  clear hS
  go_wp2_with fail
  go_ret
  rw [← some_eq H]
  exact ⟨(by first | rfl | (simp [IntKind.wrap_u32]; done)), HS.out⟩

set_option maxHeartbeats 30000000 in
set_option maxRecDepth 100000 in
theorem shape_wrong.calls (k : Nat) (a3394 : Int) (l3395 : List Int) (A3396 : Option Addr) (n3397 : Nat) (r : Int) (w : World) (HR3398 : Aside0 (Rd (Kd.int .i64) (fps []) w A3396 l3395.length l3395)) (HGl0 : Aside0 (Gl 0 #[.int .i64 0, .int .i64 0, .int .i64 0, .int .i64 0, .int .i64 0] (fps []) w)) (HS : Aside0 (Sep (fps []) w [] w)) (H : Aside0 (shape_wrong.f k a3394 l3395 = some r)) :
    Calls Tryz.prog 102 #[.int .i64 a3394, .slice A3396 l3395.length n3397] w fun e w' => e = .returned (.int .i64 r) ∧ Sep (fps []) w [] w' := by
  unfold shape_wrong.f at H
  go_enter Tryz.func102, Tryz.ntmps102
  go_wp2_with fail
  obtain ⟨t3401, HA3402, H⟩ := bind_some H
  refine (shape_isWidth.calls a3394 t3401 _ ⟨HGl0.out.pass (l := []) HS.out⟩ ⟨Sep.start _⟩ HA3402).mono ?_
  rintro e_ w3403 ⟨rfl, hS⟩
  replace HS : Aside0 (Sep (fps []) w [] w3403) := ⟨HS.out.call hS⟩
  clear hS
  by_cases c3404 : t3401 = true
  · have H := if_yes c3404 H
    have c3404b0 : t3401 = true := c3404
    have c3404b1 : (!t3401) = false := by rw [c3404b0]; rfl
    try rw [c3404b1]
    clear c3404
    go_wp2_with fail
    obtain ⟨t3414, HA3415, H⟩ := bind_some H
    refine (shape_most.calls a3394 t3414 _ ⟨HGl0.out.pass (l := []) HS.out⟩ ⟨Sep.start _⟩ HA3415).mono ?_
    rintro e_ w3416 ⟨rfl, hS⟩
    replace HS : Aside0 (Sep (fps []) w [] w3416) := ⟨HS.out.call hS⟩
    clear hS
    go_wp2_with fail
    obtain ⟨o3429, AL3430, H⟩ := bind_some H
    go_loopg [5, 15] k (fun kq v5 v15 wc => ∃ (x3433 : Int) (x3434 : Int), v5 = .int .i64 x3433 ∧ v15 = .int .i64 x3434 ∧ Aside0 (shape_wrong.lo0 kq l3395 x3433 x3434 = some o3429) ∧ Aside0 (Sep (fps []) w [] wc))
    case atStart => exact ⟨(t3414), (0), (by first | rfl | (simp [IntKind.wrap_u32]; done)), (by first | rfl | (simp [IntKind.wrap_u32]; done)), AL3430, ⟨HS.out⟩⟩
    case round =>
      clear AL3430 HS
      obtain ⟨x3433, x3434, rfl, rfl, AL3430, HS⟩ := hrel
      obtain ⟨w3431, rfl⟩ : ∃ x : World, x = wr := ⟨_, rfl⟩
      cases gk with
      | zero => exact absurd AL3430.out (by simp [shape_wrong.lo0])
      | succ k3432 =>
        have AL0 := AL3430.out
        rw [shape_wrong.lo0] at AL0
        clear AL3430
        have AL3430 := Aside0.mk AL0
        clear AL0
        by_cases c3435 : x3434 < (l3395.length : Int)
        · have AL3430 := if_yes c3435 AL3430
          have c3435b0 : decide (x3434 < (l3395.length : Int)) = true := decide_eq_true c3435
          clear c3435
          by_cases c3436 : 0 ≤ x3434
          · have AL3430 := if_yes c3436 AL3430
            have c3436b0 : decide (0 ≤ x3434) = true := decide_eq_true c3436
            have c3436p : (0 ≤ x3434) = True := eq_true c3436
            clear c3436
            have ip3437 : (x3434 < (l3395.length : Int)) = True := eq_true (of_decide_eq_true c3435b0)
            by_cases c3439 : (rd l3395 x3434) < 0
            · have AL3430 := if_yes c3439 AL3430
              have c3439b0 : decide ((rd l3395 x3434) < 0) = true := decide_eq_true c3439
              clear c3439
              obtain ⟨hx3438a, hx3438e, hx3438⟩ := Kd.at_int (Rd.read (fun _ _ _ _ h => h) HR3398.out HS.out.fr) x3434 (of_decide_eq_true c3436b0) (of_decide_eq_true c3435b0); cases hx3438e
              go_wp2_with fail
              clear hx3438
              have ho := some_eq AL3430
              subst ho
              have H := lp_ret H
              go_ret
              rw [← some_eq H]
              exact ⟨(by first | rfl | (simp [IntKind.wrap_u32]; done)), HS.out⟩
            · have AL3430 := if_no c3439 AL3430
              have c3439b0 : decide ((rd l3395 x3434) < 0) = false := decide_eq_false c3439
              clear c3439
              by_cases c3440 : (rd l3395 x3434) > x3433
              · have AL3430 := if_yes c3440 AL3430
                have c3440b0 : decide (x3433 < (rd l3395 x3434)) = true := decide_eq_true c3440
                clear c3440
                obtain ⟨hx3438a, hx3438e, hx3438⟩ := Kd.at_int (Rd.read (fun _ _ _ _ h => h) HR3398.out HS.out.fr) x3434 (of_decide_eq_true c3436b0) (of_decide_eq_true c3435b0); cases hx3438e
                go_wp2_with fail
                clear hx3438
                have ho := some_eq AL3430
                subst ho
                have H := lp_ret H
                go_ret
                rw [← some_eq H]
                exact ⟨(by first | rfl | (simp [IntKind.wrap_u32]; done)), HS.out⟩
              · have AL3430 := if_no c3440 AL3430
                have c3440b0 : decide (x3433 < (rd l3395 x3434)) = false := decide_eq_false c3440
                clear c3440
                obtain ⟨hx3438a, hx3438e, hx3438⟩ := Kd.at_int (Rd.read (fun _ _ _ _ h => h) HR3398.out HS.out.fr) x3434 (of_decide_eq_true c3436b0) (of_decide_eq_true c3435b0); cases hx3438e
                go_wp2_with fail
                clear hx3438
                go_roundg k3432
                case measure => exact Nat.lt_succ_self _
                case rel => exact ⟨(wrap64 (x3433 - (rd l3395 x3434))), (wrap64 (x3434 + 1)), (by first | rfl | (simp [IntKind.wrap_u32]; done)), (by first | rfl | (simp [IntKind.wrap_u32]; done)), Aside0.mk AL3430.out, ⟨HS.out⟩⟩
          · have AL3430 := if_no c3436 AL3430
            have c3436b0 : decide (0 ≤ x3434) = false := decide_eq_false c3436
            clear c3436
            exact (none_no AL3430).elim
        · have AL3430 := if_no c3435 AL3430
          have c3435b0 : decide (x3434 < (l3395.length : Int)) = false := decide_eq_false c3435
          clear c3435
          have ho := some_eq AL3430
          subst ho
          clear AL3430
          have H := lp_out H
          go_wp2_with fail
          go_ret
          rw [← some_eq H]
          exact ⟨(by first | rfl | (simp [IntKind.wrap_u32]; done)), HS.out⟩
  · have H := if_no c3404 H
    have c3404b0 : t3401 = false := by simpa using c3404
    have c3404b1 : (!t3401) = true := by rw [c3404b0]; rfl
    try rw [c3404b1]
    clear c3404
    go_wp2_with fail
    go_ret
    rw [← some_eq H]
    exact ⟨(by first | rfl | (simp [IntKind.wrap_u32]; done)), HS.out⟩

set_option maxHeartbeats 30000000 in
set_option maxRecDepth 100000 in
theorem shape_leaves.calls (a3446 : Int) (a3447 : Int) (r : Int) (w : World)  (HGl0 : Aside0 (Gl 0 #[.int .i64 0, .int .i64 0, .int .i64 0, .int .i64 0, .int .i64 0] (fps []) w)) (HS : Aside0 (Sep (fps []) w [] w)) (H : Aside0 (shape_leaves.f a3446 a3447 = some r)) :
    Calls Tryz.prog 103 #[.int .i64 a3446, .int .i64 a3447] w fun e w' => e = .returned (.int .i64 r) ∧ Sep (fps []) w [] w' := by
  unfold shape_leaves.f at H
  go_enter Tryz.func103, Tryz.ntmps103
  go_wp2_with fail
  obtain ⟨t3448, HA3449, H⟩ := bind_some H
  refine (shape_inHead.calls a3446 t3448 _ ⟨HGl0.out.pass (l := []) HS.out⟩ ⟨Sep.start _⟩ HA3449).mono ?_
  rintro e_ w3450 ⟨rfl, hS⟩
  replace HS : Aside0 (Sep (fps []) w [] w3450) := ⟨HS.out.call hS⟩
  clear hS
  by_cases c3451 : a3447 ≤ t3448
  · have H := if_yes c3451 H
    have c3451b0 : decide (a3447 ≤ t3448) = true := decide_eq_true c3451
    clear c3451
    go_wp2_with fail
    go_ret
    rw [← some_eq H]
    exact ⟨(by first | rfl | (simp [IntKind.wrap_u32]; done)), HS.out⟩
  · have H := if_no c3451 H
    have c3451b0 : decide (a3447 ≤ t3448) = false := decide_eq_false c3451
    clear c3451
    go_wp2_with fail
    obtain ⟨t3452, HA3453, H⟩ := bind_some H
    refine (shape_inLeaf.calls a3446 t3452 _ ⟨HGl0.out.pass (l := []) HS.out⟩ ⟨Sep.start _⟩ HA3453).mono ?_
    rintro e_ w3454 ⟨rfl, hS⟩
    replace HS : Aside0 (Sep (fps []) w [] w3454) := ⟨HS.out.call hS⟩
    clear hS
    go_wp2_with fail
    obtain ⟨t3455, HA3456, H⟩ := bind_some H
    refine (ratio_Up.calls a3447 t3452 t3455 _ ⟨HGl0.out.pass (l := []) HS.out⟩ ⟨Sep.start _⟩ HA3456).mono ?_
    rintro e_ w3457 ⟨rfl, hS⟩
    replace HS : Aside0 (Sep (fps []) w [] w3457) := ⟨HS.out.call hS⟩
    clear hS
    go_wp2_with fail
    go_ret
    rw [← some_eq H]
    exact ⟨(by first | rfl | (simp [IntKind.wrap_u32]; done)), HS.out⟩

set_option maxHeartbeats 30000000 in
set_option maxRecDepth 100000 in
theorem shape_Blocks.calls (k : Nat) (a3388 : Int) (a3389 : Int) (a3390 : Int) (r : Int × Int) (w : World)  (HGl0 : Aside0 (Gl 0 #[.int .i64 0, .int .i64 0, .int .i64 0, .int .i64 0, .int .i64 0] (fps []) w)) (HS : Aside0 (Sep (fps []) w [] w)) (H : Aside0 (shape_Blocks.f k a3388 a3389 a3390 = some r)) :
    Calls Tryz.prog 45 #[.int .i64 a3388, .int .i64 a3389, .int .i64 a3390] w fun e w' => e = .returned (.tuple #[.int .i64 r.1, .int .i64 r.2]) ∧ Sep (fps []) w [] w' := by
  unfold shape_Blocks.f at H
  go_enter Tryz.func45, Tryz.ntmps45
  go_wp2_with (first | ((with_reducible refine gate_dst (N := 12) rfl ?_); refine slice_on (n := 2) ?hg (N := 12) ?hd (cs := #[.int .i64 a3389, .int .i64 a3390]) (t := 3) ?hr ?_; (case hd => rfl); (case hg => rfl); (case hr => first | (go_simp; done) | (go_simp; rfl)); intro g3391 hg w3392 hbox hb; replace HS : Aside0 (Sep (fps []) w [b11 g3391 a3389 a3390] w3392) := ⟨HS.out.box hg hbox hb⟩; clear hg hbox hb))
  obtain ⟨t3442, HA3443, H⟩ := bind_some H
  refine (shape_wrong.calls _ a3388 [a3389, a3390] (some ⟨g3391, 0, none⟩) 2 t3442 _ ⟨Rd.lit (l := []) (xs := [a3389, a3390]) HS.out 0 rfl (by simp)⟩ ⟨HGl0.out.pass (l := []) HS.out⟩ ⟨Sep.start _⟩ HA3443).mono ?_
  rintro e_ w3444 ⟨rfl, hS⟩
  replace HS : Aside0 (Sep (fps []) w [b11 g3391 a3389 a3390] w3444) := ⟨HS.out.call hS⟩
  clear hS
  by_cases c3445 : t3442 = 0
  · have H := if_yes c3445 H
    have c3445b0 : (t3442 == 0) = true := beq_iff_eq.mpr c3445
    have c3445b1 : (t3442 != 0) = false := bne_eq_false_iff_eq.mpr c3445
    clear c3445
    replace HS : Aside0 (Sep (fps []) w [] w3444) := ⟨HS.out.sub (.cons _ .slnil)⟩
    go_wp2_with fail
    obtain ⟨t3458, HA3459, H⟩ := bind_some H
    refine (shape_leaves.calls a3388 (wrap64 (a3389 + a3390)) t3458 _ ⟨HGl0.out.pass (l := []) HS.out⟩ ⟨Sep.start _⟩ HA3459).mono ?_
    rintro e_ w3460 ⟨rfl, hS⟩
    replace HS : Aside0 (Sep (fps []) w [] w3460) := ⟨HS.out.call hS⟩
    clear hS
    go_wp2_with fail
    go_ret2
    rw [← some_eq H]
    exact ⟨(by first | rfl | (simp [IntKind.wrap_u32]; done)), HS.out⟩
  · have H := if_no c3445 H
    have c3445b0 : (t3442 == 0) = false := beq_eq_false_iff_ne.mpr c3445
    have c3445b1 : (t3442 != 0) = true := bne_iff_ne.mpr c3445
    clear c3445
    replace HS : Aside0 (Sep (fps []) w [] w3444) := ⟨HS.out.sub (.cons _ .slnil)⟩
    go_wp2_with fail
    go_ret2
    rw [← some_eq H]
    exact ⟨(by first | rfl | (simp [IntKind.wrap_u32]; done)), HS.out⟩

set_option maxHeartbeats 30000000 in
set_option maxRecDepth 100000 in
theorem chain_of_nil.calls (a3466 : Int) (r : Int × Int × Int × Bool) (w : World)  (HGl0 : Aside0 (Gl 0 #[.int .i64 0, .int .i64 0, .int .i64 0, .int .i64 0, .int .i64 0] (fps []) w)) (HS : Aside0 (Sep (fps []) w [] w)) (H : Aside0 (chain_of_nil.f a3466 = some r)) :
    Calls Tryz.prog 142 #[.pointer none, .int .i64 a3466] w fun e w' => e = .returned (.tuple #[.agg #[.int .i64 r.1, .int .i64 r.2.1, .int .i64 r.2.2.1], .bool r.2.2.2]) ∧ Sep (fps []) w [] w' := by
  unfold chain_of_nil.f at H
  go_enter Tryz.func142, Tryz.ntmps142
  go_wp2_with (first | ((with_reducible refine gate_dst (N := 4) rfl ?_); refine box_on ?hg (N := 4) ?hd (cs := #[.int .i64 0, .int .i64 0, .int .i64 0]) (t := 165) ?hr ?_; (case hd => rfl); (case hg => rfl); (case hr => first | (go_simp; done) | (go_simp; rfl)); intro g3467 hg w3468 hbox hb; replace HS : Aside0 (Sep (fps []) w [b15 g3467 0 0 0] w3468) := ⟨HS.out.box hg hbox hb⟩; clear hg hbox hb; have hc3470 : w3468.cell? ⟨g3467, 0, none⟩ = some (.int .i64 0) := blk_cellv (HS.out.at0) 0 rfl; have hz3471 : w3468.frozen? ⟨g3467, 0, none⟩ = false := blk_fz (HS.out.at0) 0; have hc3472 : w3468.cell? ⟨g3467, 1, none⟩ = some (.int .i64 0) := blk_cellv (HS.out.at0) 1 rfl; have hz3473 : w3468.frozen? ⟨g3467, 1, none⟩ = false := blk_fz (HS.out.at0) 1; have hc3474 : w3468.cell? ⟨g3467, 2, none⟩ = some (.int .i64 0) := blk_cellv (HS.out.at0) 2 rfl; have hz3475 : w3468.frozen? ⟨g3467, 2, none⟩ = false := blk_fz (HS.out.at0) 2) | ((with_reducible refine gate_store (t := 165) (p := 4) rfl ?_); refine store_event (w1 := (World.setCell (World.setCell (World.setCell w3468 ⟨g3467, 0, none⟩ (.int .i64 0)) ⟨g3467, 1, none⟩ (.int .i64 0)) ⟨g3467, 2, none⟩ (.int .i64 0))) rfl (t := 165) (p := 4) rfl rfl ?hr ?_; (case hr => first | (go_simp; done) | (go_simp; rfl)); intro w3476 hst; clear hc3470 hz3471 hc3472 hz3473 hc3474 hz3475; replace HS : Aside0 (Sep (fps []) w [b15 g3467 0 0 0] w3476) := ⟨by rw [hst]; exact HS.out.setAll (l1 := []) (l2 := []) [.int .i64 0, .int .i64 0, .int .i64 0] rfl⟩; clear hst))
  have hc3477 : w3476.cell? ⟨g3467, 0, none⟩ = some (.int .i64 0) := blk_cellv (HS.out.at0) 0 rfl
  have hc3478 : w3476.cell? ⟨g3467, 1, none⟩ = some (.int .i64 0) := blk_cellv (HS.out.at0) 1 rfl
  have hc3479 : w3476.cell? ⟨g3467, 2, none⟩ = some (.int .i64 0) := blk_cellv (HS.out.at0) 2 rfl
  refine bodyPost_ret (v := .tuple #[.agg #[.int .i64 0, .int .i64 0, .int .i64 0], .bool false]) (by simp [results, Tryz.results142, go_sem, hc3477, hc3478, hc3479]) rfl ?_
  rw [← some_eq H]
  exact ⟨(by first | rfl | (simp [IntKind.wrap_u32]; done)), HS.out.sub (.cons _ .slnil)⟩

set_option maxHeartbeats 30000000 in
set_option maxRecDepth 100000 in
theorem chain_Len_nil.calls (a3465 : Int) (r : Int) (w : World)  (HGl0 : Aside0 (Gl 0 #[.int .i64 0, .int .i64 0, .int .i64 0, .int .i64 0, .int .i64 0] (fps []) w)) (HS : Aside0 (Sep (fps []) w [] w)) (H : Aside0 (chain_Len_nil.f a3465 = some r)) :
    Calls Tryz.prog 96 #[.pointer none, .int .i64 a3465] w fun e w' => e = .returned (.int .i64 r) ∧ Sep (fps []) w [] w' := by
  unfold chain_Len_nil.f at H
  go_enter Tryz.func96, Tryz.ntmps96
  go_wp2_with fail
  obtain ⟨t3480, HA3481, H⟩ := bind_some H
  refine (chain_of_nil.calls a3465 t3480 _ ⟨HGl0.out.pass (l := []) HS.out⟩ ⟨Sep.start _⟩ HA3481).mono ?_
  rintro e_ w3482 ⟨rfl, hS⟩
  replace HS : Aside0 (Sep (fps []) w [] w3482) := ⟨HS.out.call hS⟩
  clear hS
  by_cases c3493 : t3480.2.2.2 = true
  · have H := if_yes c3493 H
    have c3493b0 : t3480.2.2.2 = true := c3493
    have c3493b1 : (!t3480.2.2.2) = false := by rw [c3493b0]; rfl
    try rw [c3493b1]
    clear c3493
    go_wp2_with (first | ((with_reducible refine gate_dst (N := 5) rfl ?_); refine box_on ?hg (N := 5) ?hd (cs := #[.int .i64 0, .int .i64 0, .int .i64 0]) (t := 165) ?hr ?_; (case hd => rfl); (case hg => rfl); (case hr => first | (go_simp; done) | (go_simp; rfl)); intro g3483 hg w3484 hbox hb; replace HS : Aside0 (Sep (fps []) w [b15 g3483 0 0 0] w3484) := ⟨HS.out.box hg hbox hb⟩; clear hg hbox hb; have hc3486 : w3484.cell? ⟨g3483, 0, none⟩ = some (.int .i64 0) := blk_cellv (HS.out.at0) 0 rfl; have hz3487 : w3484.frozen? ⟨g3483, 0, none⟩ = false := blk_fz (HS.out.at0) 0; have hc3488 : w3484.cell? ⟨g3483, 1, none⟩ = some (.int .i64 0) := blk_cellv (HS.out.at0) 1 rfl; have hz3489 : w3484.frozen? ⟨g3483, 1, none⟩ = false := blk_fz (HS.out.at0) 1; have hc3490 : w3484.cell? ⟨g3483, 2, none⟩ = some (.int .i64 0) := blk_cellv (HS.out.at0) 2 rfl; have hz3491 : w3484.frozen? ⟨g3483, 2, none⟩ = false := blk_fz (HS.out.at0) 2) | ((with_reducible refine gate_store (t := 165) (p := 5) rfl ?_); refine store_event (w1 := (World.setCell (World.setCell (World.setCell w3484 ⟨g3483, 0, none⟩ (.int .i64 t3480.1)) ⟨g3483, 1, none⟩ (.int .i64 t3480.2.1)) ⟨g3483, 2, none⟩ (.int .i64 t3480.2.2.1))) rfl (t := 165) (p := 5) rfl rfl ?hr ?_; (case hr => first | (go_simp; done) | (go_simp; rfl)); intro w3492 hst; clear hc3486 hz3487 hc3488 hz3489 hc3490 hz3491; replace HS : Aside0 (Sep (fps []) w [b15 g3483 t3480.1 t3480.2.1 t3480.2.2.1] w3492) := ⟨by rw [hst]; exact HS.out.setAll (l1 := []) (l2 := []) [.int .i64 t3480.1, .int .i64 t3480.2.1, .int .i64 t3480.2.2.1] rfl⟩; clear hst; have hc3494 : w3492.cell? ⟨g3483, 2, none⟩ = some (.int .i64 t3480.2.2.1) := blk_cellv (HS.out.at0) 2 rfl))
    clear hc3494
    obtain ⟨t3495, HA3496, H⟩ := bind_some H
    refine (ground_Ground_Reg_nil.calls t3480.2.2.1 t3495 _ ⟨HGl0.out.pass (l := []) HS.out⟩ ⟨Sep.start _⟩ HA3496).mono ?_
    rintro e_ w3497 ⟨rfl, hS⟩
    replace HS : Aside0 (Sep (fps []) w [b15 g3483 t3480.1 t3480.2.1 t3480.2.2.1] w3497) := ⟨HS.out.call hS⟩
    clear hS
    replace HS : Aside0 (Sep (fps []) w [] w3497) := ⟨HS.out.sub (.cons _ .slnil)⟩
    go_wp2_with fail
    go_ret
    rw [← some_eq H]
    exact ⟨(by first | rfl | (simp [IntKind.wrap_u32]; done)), HS.out⟩
  · have H := if_no c3493 H
    have c3493b0 : t3480.2.2.2 = false := by simpa using c3493
    have c3493b1 : (!t3480.2.2.2) = true := by rw [c3493b0]; rfl
    try rw [c3493b1]
    clear c3493
    go_wp2_with (first | ((with_reducible refine gate_dst (N := 5) rfl ?_); refine box_on ?hg (N := 5) ?hd (cs := #[.int .i64 0, .int .i64 0, .int .i64 0]) (t := 165) ?hr ?_; (case hd => rfl); (case hg => rfl); (case hr => first | (go_simp; done) | (go_simp; rfl)); intro g3483 hg w3484 hbox hb; replace HS : Aside0 (Sep (fps []) w [b15 g3483 0 0 0] w3484) := ⟨HS.out.box hg hbox hb⟩; clear hg hbox hb; have hc3486 : w3484.cell? ⟨g3483, 0, none⟩ = some (.int .i64 0) := blk_cellv (HS.out.at0) 0 rfl; have hz3487 : w3484.frozen? ⟨g3483, 0, none⟩ = false := blk_fz (HS.out.at0) 0; have hc3488 : w3484.cell? ⟨g3483, 1, none⟩ = some (.int .i64 0) := blk_cellv (HS.out.at0) 1 rfl; have hz3489 : w3484.frozen? ⟨g3483, 1, none⟩ = false := blk_fz (HS.out.at0) 1; have hc3490 : w3484.cell? ⟨g3483, 2, none⟩ = some (.int .i64 0) := blk_cellv (HS.out.at0) 2 rfl; have hz3491 : w3484.frozen? ⟨g3483, 2, none⟩ = false := blk_fz (HS.out.at0) 2) | ((with_reducible refine gate_store (t := 165) (p := 5) rfl ?_); refine store_event (w1 := (World.setCell (World.setCell (World.setCell w3484 ⟨g3483, 0, none⟩ (.int .i64 t3480.1)) ⟨g3483, 1, none⟩ (.int .i64 t3480.2.1)) ⟨g3483, 2, none⟩ (.int .i64 t3480.2.2.1))) rfl (t := 165) (p := 5) rfl rfl ?hr ?_; (case hr => first | (go_simp; done) | (go_simp; rfl)); intro w3492 hst; clear hc3486 hz3487 hc3488 hz3489 hc3490 hz3491; replace HS : Aside0 (Sep (fps []) w [b15 g3483 t3480.1 t3480.2.1 t3480.2.2.1] w3492) := ⟨by rw [hst]; exact HS.out.setAll (l1 := []) (l2 := []) [.int .i64 t3480.1, .int .i64 t3480.2.1, .int .i64 t3480.2.2.1] rfl⟩; clear hst; replace HS : Aside0 (Sep (fps []) w [] w3492) := ⟨HS.out.sub (.cons _ .slnil)⟩))
    go_ret
    rw [← some_eq H]
    exact ⟨(by first | rfl | (simp [IntKind.wrap_u32]; done)), HS.out⟩

set_option maxHeartbeats 30000000 in
set_option maxRecDepth 100000 in
theorem pool_Len_nil.calls  (r : Int) (w : World)  (HGl0 : Aside0 (Gl 0 #[.int .i64 0, .int .i64 0, .int .i64 0, .int .i64 0, .int .i64 0] (fps []) w)) (HS : Aside0 (Sep (fps []) w [] w)) (H : Aside0 (pool_Len_nil.f = some r)) :
    Calls Tryz.prog 47 #[.pointer none] w fun e w' => e = .returned (.int .i64 r) ∧ Sep (fps []) w [] w' := by
  unfold pool_Len_nil.f at H
  go_enter Tryz.func47, Tryz.ntmps47
  go_wp2_with fail
  obtain ⟨t3498, HA3499, H⟩ := bind_some H
  refine (chain_Len_nil.calls 0 t3498 _ ⟨HGl0.out.pass (l := []) HS.out⟩ ⟨Sep.start _⟩ HA3499).mono ?_
  rintro e_ w3500 ⟨rfl, hS⟩
  replace HS : Aside0 (Sep (fps []) w [] w3500) := ⟨HS.out.call hS⟩
  clear hS
  go_wp2_with fail
  go_ret
  rw [← some_eq H]
  exact ⟨(by first | rfl | (simp [IntKind.wrap_u32]; done)), HS.out⟩

set_option maxHeartbeats 30000000 in
set_option maxRecDepth 100000 in
theorem chain_Take_nil.calls (a3505 : Int) (r : Int × Bool) (w : World)  (HGl0 : Aside0 (Gl 0 #[.int .i64 0, .int .i64 0, .int .i64 0, .int .i64 0, .int .i64 0] (fps []) w)) (HS : Aside0 (Sep (fps []) w [] w)) (H : Aside0 (chain_Take_nil.f a3505 = some r)) :
    Calls Tryz.prog 104 #[.pointer none, .int .i64 a3505] w fun e w' => e = .returned (.tuple #[.int .i64 r.1, .bool r.2]) ∧ Sep (fps []) w [] w' := by
  unfold chain_Take_nil.f at H
  go_enter Tryz.func104, Tryz.ntmps104
  go_wp2_with fail
  obtain ⟨t3506, HA3507, H⟩ := bind_some H
  refine (chain_of_nil.calls a3505 t3506 _ ⟨HGl0.out.pass (l := []) HS.out⟩ ⟨Sep.start _⟩ HA3507).mono ?_
  rintro e_ w3508 ⟨rfl, hS⟩
  replace HS : Aside0 (Sep (fps []) w [] w3508) := ⟨HS.out.call hS⟩
  clear hS
  by_cases c3519 : t3506.2.2.2 = true
  · have H := if_yes c3519 H
    have c3519b0 : t3506.2.2.2 = true := c3519
    have c3519b1 : (!t3506.2.2.2) = false := by rw [c3519b0]; rfl
    try rw [c3519b1]
    clear c3519
    go_wp2_with (first | ((with_reducible refine gate_dst (N := 6) rfl ?_); refine box_on ?hg (N := 6) ?hd (cs := #[.int .i64 0, .int .i64 0, .int .i64 0]) (t := 165) ?hr ?_; (case hd => rfl); (case hg => rfl); (case hr => first | (go_simp; done) | (go_simp; rfl)); intro g3509 hg w3510 hbox hb; replace HS : Aside0 (Sep (fps []) w [b15 g3509 0 0 0] w3510) := ⟨HS.out.box hg hbox hb⟩; clear hg hbox hb; have hc3512 : w3510.cell? ⟨g3509, 0, none⟩ = some (.int .i64 0) := blk_cellv (HS.out.at0) 0 rfl; have hz3513 : w3510.frozen? ⟨g3509, 0, none⟩ = false := blk_fz (HS.out.at0) 0; have hc3514 : w3510.cell? ⟨g3509, 1, none⟩ = some (.int .i64 0) := blk_cellv (HS.out.at0) 1 rfl; have hz3515 : w3510.frozen? ⟨g3509, 1, none⟩ = false := blk_fz (HS.out.at0) 1; have hc3516 : w3510.cell? ⟨g3509, 2, none⟩ = some (.int .i64 0) := blk_cellv (HS.out.at0) 2 rfl; have hz3517 : w3510.frozen? ⟨g3509, 2, none⟩ = false := blk_fz (HS.out.at0) 2) | ((with_reducible refine gate_store (t := 165) (p := 6) rfl ?_); refine store_event (w1 := (World.setCell (World.setCell (World.setCell w3510 ⟨g3509, 0, none⟩ (.int .i64 t3506.1)) ⟨g3509, 1, none⟩ (.int .i64 t3506.2.1)) ⟨g3509, 2, none⟩ (.int .i64 t3506.2.2.1))) rfl (t := 165) (p := 6) rfl rfl ?hr ?_; (case hr => first | (go_simp; done) | (go_simp; rfl)); intro w3518 hst; clear hc3512 hz3513 hc3514 hz3515 hc3516 hz3517; replace HS : Aside0 (Sep (fps []) w [b15 g3509 t3506.1 t3506.2.1 t3506.2.2.1] w3518) := ⟨by rw [hst]; exact HS.out.setAll (l1 := []) (l2 := []) [.int .i64 t3506.1, .int .i64 t3506.2.1, .int .i64 t3506.2.2.1] rfl⟩; clear hst; have hc3520 : w3518.cell? ⟨g3509, 0, none⟩ = some (.int .i64 t3506.1) := blk_cellv (HS.out.at0) 0 rfl))
    clear hc3520
    obtain ⟨t3521, HA3522, H⟩ := bind_some H
    refine (ground_Ground_Reg_nil.calls t3506.1 t3521 _ ⟨HGl0.out.pass (l := []) HS.out⟩ ⟨Sep.start _⟩ HA3522).mono ?_
    rintro e_ w3523 ⟨rfl, hS⟩
    replace HS : Aside0 (Sep (fps []) w [b15 g3509 t3506.1 t3506.2.1 t3506.2.2.1] w3523) := ⟨HS.out.call hS⟩
    clear hS
    by_cases c3524 : t3521 = 0
    · have H := if_yes c3524 H
      have c3524b0 : (t3521 == 0) = true := beq_iff_eq.mpr c3524
      have c3524b1 : (t3521 != 0) = false := bne_eq_false_iff_eq.mpr c3524
      clear c3524
      replace HS : Aside0 (Sep (fps []) w [] w3523) := ⟨HS.out.sub (.cons _ .slnil)⟩
      go_wp2_with fail
      go_ret2
      rw [← some_eq H]
      exact ⟨(by first | rfl | (simp [IntKind.wrap_u32]; done)), HS.out⟩
    · have H := if_no c3524 H
      have c3524b0 : (t3521 == 0) = false := beq_eq_false_iff_ne.mpr c3524
      have c3524b1 : (t3521 != 0) = true := bne_iff_ne.mpr c3524
      clear c3524
      go_wp2_with fail
      obtain ⟨t3525, HA3526, H⟩ := bind_some H
      refine (ground_Ground_Word_nil.calls (wrap64 (t3521 - 1)) 5 t3525 _ ⟨HGl0.out.pass (l := []) HS.out⟩ ⟨Sep.start _⟩ HA3526).mono ?_
      rintro e_ w3527 ⟨rfl, hS⟩
      replace HS : Aside0 (Sep (fps []) w [b15 g3509 t3506.1 t3506.2.1 t3506.2.2.1] w3527) := ⟨HS.out.call hS⟩
      clear hS
      go_wp2_with fail
      obtain ⟨t3528, HA3529, H⟩ := bind_some H
      refine (ground_Ground_SetWord_nil.calls (wrap64 (t3521 - 1)) 5 0 t3528 _ ⟨HGl0.out.pass (l := []) HS.out⟩ ⟨Sep.start _⟩ HA3529).mono ?_
      rintro e_ w3530 ⟨rfl, hS⟩
      replace HS : Aside0 (Sep (fps []) w [b15 g3509 t3506.1 t3506.2.1 t3506.2.2.1] w3530) := ⟨HS.out.call hS⟩
      clear hS
      have hc3531 : w3530.cell? ⟨g3509, 0, none⟩ = some (.int .i64 t3506.1) := blk_cellv (HS.out.at0) 0 rfl
      go_wp2_with fail
      clear hc3531
      obtain ⟨t3532, HA3533, H⟩ := bind_some H
      refine (ground_Ground_SetReg_nil.calls t3506.1 (wrap64 (t3525)) t3532 _ ⟨HGl0.out.pass (l := []) HS.out⟩ ⟨Sep.start _⟩ HA3533).mono ?_
      rintro e_ w3534 ⟨rfl, hS⟩
      replace HS : Aside0 (Sep (fps []) w [b15 g3509 t3506.1 t3506.2.1 t3506.2.2.1] w3534) := ⟨HS.out.call hS⟩
      clear hS
      by_cases c3535 : (wrap64 (t3525)) = 0
      · have H := if_yes c3535 H
        have c3535b0 : ((wrap64 (t3525)) == 0) = true := beq_iff_eq.mpr c3535
        have c3535b1 : ((wrap64 (t3525)) != 0) = false := bne_eq_false_iff_eq.mpr c3535
        clear c3535
        have hc3536 : w3534.cell? ⟨g3509, 1, none⟩ = some (.int .i64 t3506.2.1) := blk_cellv (HS.out.at0) 1 rfl
        go_wp2_with fail
        clear hc3536
        obtain ⟨t3537, HA3538, H⟩ := bind_some H
        refine (ground_Ground_SetReg_nil.calls t3506.2.1 0 t3537 _ ⟨HGl0.out.pass (l := []) HS.out⟩ ⟨Sep.start _⟩ HA3538).mono ?_
        rintro e_ w3539 ⟨rfl, hS⟩
        replace HS : Aside0 (Sep (fps []) w [b15 g3509 t3506.1 t3506.2.1 t3506.2.2.1] w3539) := ⟨HS.out.call hS⟩
        clear hS
        go_wp2_with fail
        refine start_ (n := 9) (S := (fun w' => w'.cell? ⟨g3509, 2, none⟩ = some (.int .i64 t3506.2.2.1))) (ds := []) #[false, false, false, false, false, false, false, false, false] (by kernel_rfl) rfl rfl (blk_cellv ((HS.out.drew).at0) 2 rfl) (fun hHeld => ?_)
        have HS_ := Aside0.mk HS.out.drew
        clear HS
        generalize World.drew _ = w3541 at HS_ hHeld ⊢
        have HS := HS_
        clear HS_
        refine pure_ (i := 0) (N := some 44) (v := ?_) (a' := ?_) #[true, false, false, false, false, false, false, false, false] rfl rfl (by kernel_rfl) (fun _ _ _ h => h) (Or.inl ⟨by rfl, ?_⟩) ?_ ?_
        rotate_left
        · intro w'
          go_simp
          with_reducible rfl
        rotate_left
        · simp only [Act.put, List.setIfInBounds_toArray, List.set_cons_zero, List.set_cons_succ, i64_w, i32_w]
          rfl
        refine pure_ (i := 1) (N := some 45) (v := ?_) (a' := ?_) #[true, true, false, false, false, false, false, false, false] rfl rfl (by kernel_rfl) (fun _ _ _ h => h) (Or.inl ⟨by rfl, ?_⟩) ?_ ?_
        rotate_left
        · intro w'
          go_simp
          with_reducible rfl
        rotate_left
        · simp only [Act.put, List.setIfInBounds_toArray, List.set_cons_zero, List.set_cons_succ, i64_w, i32_w]
          rfl
        refine pure_ (i := 3) (N := some 47) (v := ?_) (a' := ?_) #[true, true, false, true, false, false, false, false, false] rfl rfl (by kernel_rfl) (fun _ _ _ h => h) (Or.inl ⟨by rfl, ?_⟩) ?_ ?_
        rotate_left
        · intro w'
          go_simp
          with_reducible rfl
        rotate_left
        · simp only [Act.put, List.setIfInBounds_toArray, List.set_cons_zero, List.set_cons_succ, i64_w, i32_w]
          rfl
        refine pure_ (i := 4) (N := some 48) (v := ?_) (a' := ?_) #[true, true, false, true, true, false, false, false, false] rfl rfl (by kernel_rfl) (fun _ _ _ h => h) (Or.inl ⟨by rfl, ?_⟩) ?_ ?_
        rotate_left
        · intro w'
          go_simp
          with_reducible rfl
        rotate_left
        · simp only [Act.put, List.setIfInBounds_toArray, List.set_cons_zero, List.set_cons_succ, i64_w, i32_w]
          rfl
        refine take_ (i := 2) (N := some 46) (v := ?_) (a' := ?_) #[true, true, true, true, true, false, false, false, false] rfl rfl (by kernel_rfl) (fun _ _ _ h => h) (Or.inl ⟨by rfl, ?_⟩) hHeld ?_ ?_
        rotate_left
        · rintro w' hS'
          have s0 := hS'
          go_simp
          with_reducible rfl
        rotate_left
        · simp only [Act.put, List.setIfInBounds_toArray, List.set_cons_zero, List.set_cons_succ, i64_w, i32_w]
          rfl
        refine take_ (i := 5) (N := some 49) (v := ?_) (a' := ?_) #[true, true, true, true, true, true, false, false, false] rfl rfl (by kernel_rfl) (fun _ _ _ h => h) (Or.inl ⟨by rfl, ?_⟩) hHeld ?_ ?_
        rotate_left
        · rintro w' hS'
          have s0 := hS'
          go_simp
          with_reducible rfl
        rotate_left
        · simp only [Act.put, List.setIfInBounds_toArray, List.set_cons_zero, List.set_cons_succ, i64_w, i32_w]
          rfl
        refine one_ (i := 6) (N := some 50) #[true, true, true, true, true, true, true, false, false] rfl rfl (by kernel_rfl) (by decide) (fun K hK => ?_)
        obtain ⟨t3542, HA3543, H⟩ := bind_some H
        refine goes_ Tryz.func44 (by kernel_rfl) rfl #[.pointer none, .int .i64 t3506.2.2.1] (by rfl) rfl rfl (by (try simp only [List.map_toArray, List.map_cons, List.map_nil]); first | done | rfl) ?_
        refine (ground_Ground_Reg_nil.calls t3506.2.2.1 t3542 _ ⟨HGl0.out.pass (l := []) HS.out⟩ ⟨Sep.start _⟩ HA3543).mono ?_
        rintro e_ w3544 ⟨rfl, hS⟩
        replace HS : Aside0 (Sep (fps []) w [b15 g3509 t3506.1 t3506.2.1 t3506.2.2.1] w3544) := ⟨HS.out.call hS⟩
        clear hS
        refine ⟨_, rfl, ?_⟩
        refine hK.out _ _ (blk_cellv (HS.out.at0) 2 rfl) (fun hHeld => ?_)
        clear hK K
        refine norm_ (a' := ?_) ?_ ?_
        rotate_left
        · show Act.put _ (some 50) _ = _
          simp only [Act.put, List.setIfInBounds_toArray, List.set_cons_zero, List.set_cons_succ, i64_w, i32_w]
          rfl
        refine pure_ (i := 7) (N := some 51) (v := ?_) (a' := ?_) #[true, true, true, true, true, true, true, true, false] rfl rfl (by kernel_rfl) (fun _ _ _ h => h) (Or.inl ⟨by rfl, ?_⟩) ?_ ?_
        rotate_left
        · intro w'
          go_simp
          with_reducible rfl
        rotate_left
        · simp only [Act.put, List.setIfInBounds_toArray, List.set_cons_zero, List.set_cons_succ, i64_w, i32_w]
          rfl
        refine one_ (i := 8) (N := some 52) #[true, true, true, true, true, true, true, true, true] rfl rfl (by kernel_rfl) (by decide) (fun K hK => ?_)
        obtain ⟨t3545, HA3546, H⟩ := bind_some H
        refine goes_ Tryz.func43 (by kernel_rfl) rfl #[.pointer none, .int .i64 t3506.2.2.1, .int .i64 (wrap64 (t3542 - 1))] (by rfl) rfl rfl (by (try simp only [List.map_toArray, List.map_cons, List.map_nil]); first | done | rfl) ?_
        refine (ground_Ground_SetReg_nil.calls t3506.2.2.1 (wrap64 (t3542 - 1)) t3545 _ ⟨HGl0.out.pass (l := []) HS.out⟩ ⟨Sep.start _⟩ HA3546).mono ?_
        rintro e_ w3547 ⟨rfl, hS⟩
        replace HS : Aside0 (Sep (fps []) w [b15 g3509 t3506.1 t3506.2.1 t3506.2.2.1] w3547) := ⟨HS.out.call hS⟩
        clear hS
        refine ⟨_, rfl, ?_⟩
        refine hK.out _ _ (blk_cellv (HS.out.at0) 2 rfl) (fun hHeld => ?_)
        clear hK K
        refine norm_ (a' := ?_) ?_ ?_
        rotate_left
        · show Act.put _ (some 52) _ = _
          simp only [Act.put, List.setIfInBounds_toArray, List.set_cons_zero, List.set_cons_succ, i64_w, i32_w]
          rfl
        refine done_ (by kernel_rfl) ?_
        replace HS : Aside0 (Sep (fps []) w [] w3547) := ⟨HS.out.sub (.cons _ .slnil)⟩
        go_wp2_with fail
        go_ret2
        rw [← some_eq H]
        exact ⟨(by first | rfl | (simp [IntKind.wrap_u32]; done)), HS.out⟩
      · have H := if_no c3535 H
        have c3535b0 : ((wrap64 (t3525)) == 0) = false := beq_eq_false_iff_ne.mpr c3535
        have c3535b1 : ((wrap64 (t3525)) != 0) = true := bne_iff_ne.mpr c3535
        clear c3535
        go_wp2_with fail
        refine start_ (n := 9) (S := (fun w' => w'.cell? ⟨g3509, 2, none⟩ = some (.int .i64 t3506.2.2.1))) (ds := []) #[false, false, false, false, false, false, false, false, false] (by kernel_rfl) rfl rfl (blk_cellv ((HS.out.drew).at0) 2 rfl) (fun hHeld => ?_)
        have HS_ := Aside0.mk HS.out.drew
        clear HS
        generalize World.drew _ = w3549 at HS_ hHeld ⊢
        have HS := HS_
        clear HS_
        refine pure_ (i := 0) (N := some 44) (v := ?_) (a' := ?_) #[true, false, false, false, false, false, false, false, false] rfl rfl (by kernel_rfl) (fun _ _ _ h => h) (Or.inl ⟨by rfl, ?_⟩) ?_ ?_
        rotate_left
        · intro w'
          go_simp
          with_reducible rfl
        rotate_left
        · simp only [Act.put, List.setIfInBounds_toArray, List.set_cons_zero, List.set_cons_succ, i64_w, i32_w]
          rfl
        refine pure_ (i := 1) (N := some 45) (v := ?_) (a' := ?_) #[true, true, false, false, false, false, false, false, false] rfl rfl (by kernel_rfl) (fun _ _ _ h => h) (Or.inl ⟨by rfl, ?_⟩) ?_ ?_
        rotate_left
        · intro w'
          go_simp
          with_reducible rfl
        rotate_left
        · simp only [Act.put, List.setIfInBounds_toArray, List.set_cons_zero, List.set_cons_succ, i64_w, i32_w]
          rfl
        refine pure_ (i := 3) (N := some 47) (v := ?_) (a' := ?_) #[true, true, false, true, false, false, false, false, false] rfl rfl (by kernel_rfl) (fun _ _ _ h => h) (Or.inl ⟨by rfl, ?_⟩) ?_ ?_
        rotate_left
        · intro w'
          go_simp
          with_reducible rfl
        rotate_left
        · simp only [Act.put, List.setIfInBounds_toArray, List.set_cons_zero, List.set_cons_succ, i64_w, i32_w]
          rfl
        refine pure_ (i := 4) (N := some 48) (v := ?_) (a' := ?_) #[true, true, false, true, true, false, false, false, false] rfl rfl (by kernel_rfl) (fun _ _ _ h => h) (Or.inl ⟨by rfl, ?_⟩) ?_ ?_
        rotate_left
        · intro w'
          go_simp
          with_reducible rfl
        rotate_left
        · simp only [Act.put, List.setIfInBounds_toArray, List.set_cons_zero, List.set_cons_succ, i64_w, i32_w]
          rfl
        refine take_ (i := 2) (N := some 46) (v := ?_) (a' := ?_) #[true, true, true, true, true, false, false, false, false] rfl rfl (by kernel_rfl) (fun _ _ _ h => h) (Or.inl ⟨by rfl, ?_⟩) hHeld ?_ ?_
        rotate_left
        · rintro w' hS'
          have s0 := hS'
          go_simp
          with_reducible rfl
        rotate_left
        · simp only [Act.put, List.setIfInBounds_toArray, List.set_cons_zero, List.set_cons_succ, i64_w, i32_w]
          rfl
        refine take_ (i := 5) (N := some 49) (v := ?_) (a' := ?_) #[true, true, true, true, true, true, false, false, false] rfl rfl (by kernel_rfl) (fun _ _ _ h => h) (Or.inl ⟨by rfl, ?_⟩) hHeld ?_ ?_
        rotate_left
        · rintro w' hS'
          have s0 := hS'
          go_simp
          with_reducible rfl
        rotate_left
        · simp only [Act.put, List.setIfInBounds_toArray, List.set_cons_zero, List.set_cons_succ, i64_w, i32_w]
          rfl
        refine one_ (i := 6) (N := some 50) #[true, true, true, true, true, true, true, false, false] rfl rfl (by kernel_rfl) (by decide) (fun K hK => ?_)
        obtain ⟨t3542, HA3550, H⟩ := bind_some H
        refine goes_ Tryz.func44 (by kernel_rfl) rfl #[.pointer none, .int .i64 t3506.2.2.1] (by rfl) rfl rfl (by (try simp only [List.map_toArray, List.map_cons, List.map_nil]); first | done | rfl) ?_
        refine (ground_Ground_Reg_nil.calls t3506.2.2.1 t3542 _ ⟨HGl0.out.pass (l := []) HS.out⟩ ⟨Sep.start _⟩ HA3550).mono ?_
        rintro e_ w3551 ⟨rfl, hS⟩
        replace HS : Aside0 (Sep (fps []) w [b15 g3509 t3506.1 t3506.2.1 t3506.2.2.1] w3551) := ⟨HS.out.call hS⟩
        clear hS
        refine ⟨_, rfl, ?_⟩
        refine hK.out _ _ (blk_cellv (HS.out.at0) 2 rfl) (fun hHeld => ?_)
        clear hK K
        refine norm_ (a' := ?_) ?_ ?_
        rotate_left
        · show Act.put _ (some 50) _ = _
          simp only [Act.put, List.setIfInBounds_toArray, List.set_cons_zero, List.set_cons_succ, i64_w, i32_w]
          rfl
        refine pure_ (i := 7) (N := some 51) (v := ?_) (a' := ?_) #[true, true, true, true, true, true, true, true, false] rfl rfl (by kernel_rfl) (fun _ _ _ h => h) (Or.inl ⟨by rfl, ?_⟩) ?_ ?_
        rotate_left
        · intro w'
          go_simp
          with_reducible rfl
        rotate_left
        · simp only [Act.put, List.setIfInBounds_toArray, List.set_cons_zero, List.set_cons_succ, i64_w, i32_w]
          rfl
        refine one_ (i := 8) (N := some 52) #[true, true, true, true, true, true, true, true, true] rfl rfl (by kernel_rfl) (by decide) (fun K hK => ?_)
        obtain ⟨t3545, HA3552, H⟩ := bind_some H
        refine goes_ Tryz.func43 (by kernel_rfl) rfl #[.pointer none, .int .i64 t3506.2.2.1, .int .i64 (wrap64 (t3542 - 1))] (by rfl) rfl rfl (by (try simp only [List.map_toArray, List.map_cons, List.map_nil]); first | done | rfl) ?_
        refine (ground_Ground_SetReg_nil.calls t3506.2.2.1 (wrap64 (t3542 - 1)) t3545 _ ⟨HGl0.out.pass (l := []) HS.out⟩ ⟨Sep.start _⟩ HA3552).mono ?_
        rintro e_ w3553 ⟨rfl, hS⟩
        replace HS : Aside0 (Sep (fps []) w [b15 g3509 t3506.1 t3506.2.1 t3506.2.2.1] w3553) := ⟨HS.out.call hS⟩
        clear hS
        refine ⟨_, rfl, ?_⟩
        refine hK.out _ _ (blk_cellv (HS.out.at0) 2 rfl) (fun hHeld => ?_)
        clear hK K
        refine norm_ (a' := ?_) ?_ ?_
        rotate_left
        · show Act.put _ (some 52) _ = _
          simp only [Act.put, List.setIfInBounds_toArray, List.set_cons_zero, List.set_cons_succ, i64_w, i32_w]
          rfl
        refine done_ (by kernel_rfl) ?_
        replace HS : Aside0 (Sep (fps []) w [] w3553) := ⟨HS.out.sub (.cons _ .slnil)⟩
        go_wp2_with fail
        go_ret2
        rw [← some_eq H]
        exact ⟨(by first | rfl | (simp [IntKind.wrap_u32]; done)), HS.out⟩
  · have H := if_no c3519 H
    have c3519b0 : t3506.2.2.2 = false := by simpa using c3519
    have c3519b1 : (!t3506.2.2.2) = true := by rw [c3519b0]; rfl
    try rw [c3519b1]
    clear c3519
    go_wp2_with (first | ((with_reducible refine gate_dst (N := 6) rfl ?_); refine box_on ?hg (N := 6) ?hd (cs := #[.int .i64 0, .int .i64 0, .int .i64 0]) (t := 165) ?hr ?_; (case hd => rfl); (case hg => rfl); (case hr => first | (go_simp; done) | (go_simp; rfl)); intro g3509 hg w3510 hbox hb; replace HS : Aside0 (Sep (fps []) w [b15 g3509 0 0 0] w3510) := ⟨HS.out.box hg hbox hb⟩; clear hg hbox hb; have hc3512 : w3510.cell? ⟨g3509, 0, none⟩ = some (.int .i64 0) := blk_cellv (HS.out.at0) 0 rfl; have hz3513 : w3510.frozen? ⟨g3509, 0, none⟩ = false := blk_fz (HS.out.at0) 0; have hc3514 : w3510.cell? ⟨g3509, 1, none⟩ = some (.int .i64 0) := blk_cellv (HS.out.at0) 1 rfl; have hz3515 : w3510.frozen? ⟨g3509, 1, none⟩ = false := blk_fz (HS.out.at0) 1; have hc3516 : w3510.cell? ⟨g3509, 2, none⟩ = some (.int .i64 0) := blk_cellv (HS.out.at0) 2 rfl; have hz3517 : w3510.frozen? ⟨g3509, 2, none⟩ = false := blk_fz (HS.out.at0) 2) | ((with_reducible refine gate_store (t := 165) (p := 6) rfl ?_); refine store_event (w1 := (World.setCell (World.setCell (World.setCell w3510 ⟨g3509, 0, none⟩ (.int .i64 t3506.1)) ⟨g3509, 1, none⟩ (.int .i64 t3506.2.1)) ⟨g3509, 2, none⟩ (.int .i64 t3506.2.2.1))) rfl (t := 165) (p := 6) rfl rfl ?hr ?_; (case hr => first | (go_simp; done) | (go_simp; rfl)); intro w3518 hst; clear hc3512 hz3513 hc3514 hz3515 hc3516 hz3517; replace HS : Aside0 (Sep (fps []) w [b15 g3509 t3506.1 t3506.2.1 t3506.2.2.1] w3518) := ⟨by rw [hst]; exact HS.out.setAll (l1 := []) (l2 := []) [.int .i64 t3506.1, .int .i64 t3506.2.1, .int .i64 t3506.2.2.1] rfl⟩; clear hst; replace HS : Aside0 (Sep (fps []) w [] w3518) := ⟨HS.out.sub (.cons _ .slnil)⟩))
    go_ret2
    rw [← some_eq H]
    exact ⟨(by first | rfl | (simp [IntKind.wrap_u32]; done)), HS.out⟩

set_option maxHeartbeats 30000000 in
set_option maxRecDepth 100000 in
theorem ground_Ground_Wipe_nil.calls (k : Nat) (a3558 : Int) (r : Int) (w : World)  (HGl0 : Aside0 (Gl 0 #[.int .i64 0, .int .i64 0, .int .i64 0, .int .i64 0, .int .i64 0] (fps []) w)) (HS : Aside0 (Sep (fps []) w [] w)) (H : Aside0 (ground_Ground_Wipe_nil.f k a3558 = some r)) :
    Calls Tryz.prog 105 #[.pointer none, .int .i64 a3558] w fun e w' => e = .returned (.int .i64 r) ∧ Sep (fps []) w [] w' := by
  unfold ground_Ground_Wipe_nil.f at H
  go_enter Tryz.func105, Tryz.ntmps105
  go_wp2_with fail
  obtain ⟨t3559, HA3560, H⟩ := bind_some H
  refine (ground_Ground_Conf_nil.calls t3559 _ ⟨HGl0.out.pass (l := []) HS.out⟩ ⟨Sep.start _⟩ HA3560).mono ?_
  rintro e_ w3561 ⟨rfl, hS⟩
  replace HS : Aside0 (Sep (fps []) w [] w3561) := ⟨HS.out.call hS⟩
  clear hS
  have fl3562 : ∀ w, (Instr.field 29 (.agg #[.int .i64 t3559.1, .int .i64 t3559.2.1, .int .i64 t3559.2.2.1, .int .i64 t3559.2.2.2]) 1).run Tryz.prog w = .ok (.int .i64 t3559.2.1) w := fun _ => by kernel_rfl
  go_wp2_with fail
  clear fl3562
  obtain ⟨o3564, AL3565, H⟩ := bind_some H
  go_loopg [5, 10] k (fun kq v5 v10 wc => ∃ (x3568 : Int) (x3569 : Int), v5 = .int .i64 x3568 ∧ v10 = .int .i64 x3569 ∧ Aside0 (ground_Ground_Wipe_nil.lo0 kq a3558 t3559 x3568 x3569 = some o3564) ∧ Aside0 (Sep (fps []) w [] wc))
  case atStart => exact ⟨(0), (0), (by first | rfl | (simp [IntKind.wrap_u32]; done)), (by first | rfl | (simp [IntKind.wrap_u32]; done)), AL3565, ⟨HS.out⟩⟩
  case round =>
    clear AL3565 HS
    obtain ⟨x3568, x3569, rfl, rfl, AL3565, HS⟩ := hrel
    obtain ⟨w3566, rfl⟩ : ∃ x : World, x = wr := ⟨_, rfl⟩
    cases gk with
    | zero => exact absurd AL3565.out (by simp [ground_Ground_Wipe_nil.lo0])
    | succ k3567 =>
      have AL0 := AL3565.out
      rw [ground_Ground_Wipe_nil.lo0] at AL0
      clear AL3565
      have AL3565 := Aside0.mk AL0
      clear AL0
      by_cases c3570 : x3569 < t3559.2.1
      · have AL3565 := if_yes c3570 AL3565
        have c3570b0 : decide (x3569 < t3559.2.1) = true := decide_eq_true c3570
        clear c3570
        go_wp2_with fail
        obtain ⟨t3571, HA3572, AL3565⟩ := bind_some AL3565
        refine (ground_Ground_SetWord_nil.calls a3558 x3569 0 t3571 _ ⟨HGl0.out.pass (l := []) HS.out⟩ ⟨Sep.start _⟩ HA3572).mono ?_
        rintro e_ w3573 ⟨rfl, hS⟩
        replace HS : Aside0 (Sep (fps []) w [] w3573) := ⟨HS.out.call hS⟩
        clear hS
        by_cases c3574 : t3571 = true
        · have AL3565 := if_yes c3574 AL3565
          have c3574b0 : t3571 = true := c3574
          have c3574b1 : (!t3571) = false := by rw [c3574b0]; rfl
          clear c3574
          go_wp2_with fail
          go_roundg k3567
          case measure => exact Nat.lt_succ_self _
          case rel => exact ⟨(wrap64 (x3568 + 1)), (wrap64 (x3569 + 1)), (by first | rfl | (simp [IntKind.wrap_u32]; done)), (by first | rfl | (simp [IntKind.wrap_u32]; done)), Aside0.mk AL3565.out, ⟨HS.out⟩⟩
        · have AL3565 := if_no c3574 AL3565
          have c3574b0 : t3571 = false := by simpa using c3574
          have c3574b1 : (!t3571) = true := by rw [c3574b0]; rfl
          clear c3574
          go_wp2_with fail
          go_roundg k3567
          case measure => exact Nat.lt_succ_self _
          case rel => exact ⟨(x3568), (wrap64 (x3569 + 1)), (by first | rfl | (simp [IntKind.wrap_u32]; done)), (by first | rfl | (simp [IntKind.wrap_u32]; done)), Aside0.mk AL3565.out, ⟨HS.out⟩⟩
      · have AL3565 := if_no c3570 AL3565
        have c3570b0 : decide (x3569 < t3559.2.1) = false := decide_eq_false c3570
        clear c3570
        have ho := some_eq AL3565
        subst ho
        clear AL3565
        go_wp2_with fail
        go_ret
        rw [← some_eq H]
        exact ⟨(by first | rfl | (simp [IntKind.wrap_u32]; done)), HS.out⟩

set_option maxHeartbeats 30000000 in
set_option maxRecDepth 100000 in
theorem pool_Take_nil.calls (k : Nat)  (r : Int × Bool) (w : World)  (HGl0 : Aside0 (Gl 0 #[.int .i64 0, .int .i64 0, .int .i64 0, .int .i64 0, .int .i64 0] (fps []) w)) (HS : Aside0 (Sep (fps []) w [] w)) (H : Aside0 (pool_Take_nil.f k = some r)) :
    Calls Tryz.prog 48 #[.pointer none] w fun e w' => e = .returned (.tuple #[.int .i64 r.1, .bool r.2]) ∧ Sep (fps []) w [] w' := by
  unfold pool_Take_nil.f at H
  go_enter Tryz.func48, Tryz.ntmps48
  go_wp2_with fail
  obtain ⟨t3554, HA3555, H⟩ := bind_some H
  refine (chain_Take_nil.calls 0 t3554 _ ⟨HGl0.out.pass (l := []) HS.out⟩ ⟨Sep.start _⟩ HA3555).mono ?_
  rintro e_ w3556 ⟨rfl, hS⟩
  replace HS : Aside0 (Sep (fps []) w [] w3556) := ⟨HS.out.call hS⟩
  clear hS
  by_cases c3557 : t3554.2 = true
  · have H := if_yes c3557 H
    have c3557b0 : t3554.2 = true := c3557
    have c3557b1 : (!t3554.2) = false := by rw [c3557b0]; rfl
    try rw [c3557b1]
    clear c3557
    go_wp2_with fail
    obtain ⟨t3576, HA3577, H⟩ := bind_some H
    refine (ground_Ground_Wipe_nil.calls _ t3554.1 t3576 _ ⟨HGl0.out.pass (l := []) HS.out⟩ ⟨Sep.start _⟩ HA3577).mono ?_
    rintro e_ w3578 ⟨rfl, hS⟩
    replace HS : Aside0 (Sep (fps []) w [] w3578) := ⟨HS.out.call hS⟩
    clear hS
    go_wp2_with fail
    go_ret2
    rw [← some_eq H]
    exact ⟨(by first | rfl | (simp [IntKind.wrap_u32]; done)), HS.out⟩
  · have H := if_no c3557 H
    have c3557b0 : t3554.2 = false := by simpa using c3557
    have c3557b1 : (!t3554.2) = true := by rw [c3557b0]; rfl
    try rw [c3557b1]
    clear c3557
    go_wp2_with fail
    go_ret2
    rw [← some_eq H]
    exact ⟨(by first | rfl | (simp [IntKind.wrap_u32]; done)), HS.out⟩

set_option maxHeartbeats 30000000 in
set_option maxRecDepth 100000 in
theorem obj_mark_nil.calls (k : Nat) (a3583 : Int) (a3584 : Int) (a3585 : Int) (a3586 : Int) (a3587 : Int) (a3588 : Int) (a3589 : Int) (a3590 : Int) (r : Unit) (w : World)  (HGl0 : Aside0 (Gl 0 #[.int .i64 0, .int .i64 0, .int .i64 0, .int .i64 0, .int .i64 0] (fps []) w)) (HS : Aside0 (Sep (fps []) w [] w)) (H : Aside0 (obj_mark_nil.f k a3583 a3584 a3585 a3586 a3587 a3588 a3589 a3590 = some r)) :
    Calls Tryz.prog 49 #[.pointer none, .int .i64 a3583, .agg #[.int .i64 a3584, .int .i64 a3585, .int .i64 a3586, .int .i64 a3587, .int .i64 a3588, .int .i64 a3589, .int .i64 a3590]] w fun e w' => e = .returned (.tuple #[]) ∧ Sep (fps []) w [] w' := by
  unfold obj_mark_nil.f at H
  go_enter Tryz.func49, Tryz.ntmps49
  go_wp2_with (first | ((with_reducible refine gate_dst (N := 5) rfl ?_); refine box_on ?hg (N := 5) ?hd (cs := #[.int .i64 a3584, .int .i64 a3585, .int .i64 a3586, .int .i64 a3587, .int .i64 a3588, .int .i64 a3589, .int .i64 a3590]) (t := 79) ?hr ?_; (case hd => rfl); (case hg => rfl); (case hr => first | (go_simp; done) | (go_simp; rfl)); intro g3591 hg w3592 hbox hb; replace HS : Aside0 (Sep (fps []) w [b3 g3591 a3584 a3585 a3586 a3587 a3588 a3589 a3590] w3592) := ⟨HS.out.box hg hbox hb⟩; clear hg hbox hb; have hc3594 : w3592.cell? ⟨g3591, 0, none⟩ = some (.int .i64 a3584) := blk_cellv (HS.out.at0) 0 rfl; have hc3595 : w3592.cell? ⟨g3591, 1, none⟩ = some (.int .i64 a3585) := blk_cellv (HS.out.at0) 1 rfl; have hc3596 : w3592.cell? ⟨g3591, 2, none⟩ = some (.int .i64 a3586) := blk_cellv (HS.out.at0) 2 rfl; have hc3597 : w3592.cell? ⟨g3591, 3, none⟩ = some (.int .i64 a3587) := blk_cellv (HS.out.at0) 3 rfl; have hc3598 : w3592.cell? ⟨g3591, 4, none⟩ = some (.int .i64 a3588) := blk_cellv (HS.out.at0) 4 rfl; have hc3599 : w3592.cell? ⟨g3591, 5, none⟩ = some (.int .i64 a3589) := blk_cellv (HS.out.at0) 5 rfl; have hc3600 : w3592.cell? ⟨g3591, 6, none⟩ = some (.int .i64 a3590) := blk_cellv (HS.out.at0) 6 rfl))
  clear hc3594 hc3595 hc3596 hc3597 hc3598 hc3599 hc3600
  obtain ⟨t3601, HA3602, H⟩ := bind_some H
  refine (tag_Pack.calls _ a3584 a3585 a3586 a3587 a3588 a3589 a3590 t3601 _ ⟨HGl0.out.pass (l := []) HS.out⟩ ⟨Sep.start _⟩ HA3602).mono ?_
  rintro e_ w3603 ⟨rfl, hS⟩
  replace HS : Aside0 (Sep (fps []) w [b3 g3591 a3584 a3585 a3586 a3587 a3588 a3589 a3590] w3603) := ⟨HS.out.call hS⟩
  clear hS
  by_cases c3604 : t3601.2 = 0
  · have H := if_yes c3604 H
    have c3604b0 : (t3601.2 == 0) = true := beq_iff_eq.mpr c3604
    have c3604b1 : (t3601.2 != 0) = false := bne_eq_false_iff_eq.mpr c3604
    clear c3604
    replace HS : Aside0 (Sep (fps []) w [] w3603) := ⟨HS.out.sub (.cons _ .slnil)⟩
    go_wp2_with fail
    obtain ⟨t3605, HA3606, H⟩ := bind_some H
    refine (ground_Ground_SetWord_nil.calls a3583 0 t3601.1 t3605 _ ⟨HGl0.out.pass (l := []) HS.out⟩ ⟨Sep.start _⟩ HA3606).mono ?_
    rintro e_ w3607 ⟨rfl, hS⟩
    replace HS : Aside0 (Sep (fps []) w [] w3607) := ⟨HS.out.call hS⟩
    clear hS
    go_wp2_with fail
    first | go_end0 | refine bodyPost_ret (results_none rfl _ _ _) rfl ?_
    clear H
    exact ⟨rfl, HS.out⟩
  · have H := if_no c3604 H
    have c3604b0 : (t3601.2 == 0) = false := beq_eq_false_iff_ne.mpr c3604
    have c3604b1 : (t3601.2 != 0) = true := bne_iff_ne.mpr c3604
    clear c3604
    replace HS : Aside0 (Sep (fps []) w [] w3603) := ⟨HS.out.sub (.cons _ .slnil)⟩
    go_wp2_with fail
    first | go_end0 | refine bodyPost_ret (results_none rfl _ _ _) rfl ?_
    clear H
    exact ⟨rfl, HS.out⟩

set_option maxHeartbeats 30000000 in
set_option maxRecDepth 100000 in
theorem obj_Make_nil.calls (k : Nat) (a3382 : Int) (a3383 : Int) (r : Int × Int) (w : World)  (HGl0 : Aside0 (Gl 0 #[.int .i64 0, .int .i64 0, .int .i64 0, .int .i64 0, .int .i64 0] (fps []) w)) (HS : Aside0 (Sep (fps []) w [] w)) (H : Aside0 (obj_Make_nil.f k a3382 a3383 = some r)) :
    Calls Tryz.prog 11 #[.pointer none, .int .i64 a3382, .int .i64 a3383] w fun e w' => e = .returned (.tuple #[.int .i64 r.1, .int .i64 r.2]) ∧ Sep (fps []) w [] w' := by
  unfold obj_Make_nil.f at H
  go_enter Tryz.func11, Tryz.ntmps11
  go_wp2_with fail
  obtain ⟨t3384, HA3385, H⟩ := bind_some H
  refine (ground_Ground_Conf_nil.calls t3384 _ ⟨HGl0.out.pass (l := []) HS.out⟩ ⟨Sep.start _⟩ HA3385).mono ?_
  rintro e_ w3386 ⟨rfl, hS⟩
  replace HS : Aside0 (Sep (fps []) w [] w3386) := ⟨HS.out.call hS⟩
  clear hS
  have fl3387 : ∀ w, (Instr.field 29 (.agg #[.int .i64 t3384.1, .int .i64 t3384.2.1, .int .i64 t3384.2.2.1, .int .i64 t3384.2.2.2]) 1).run Tryz.prog w = .ok (.int .i64 t3384.2.1) w := fun _ => by kernel_rfl
  go_wp2_with fail
  clear fl3387
  obtain ⟨t3461, HA3462, H⟩ := bind_some H
  refine (shape_Blocks.calls _ t3384.2.1 a3382 a3383 t3461 _ ⟨HGl0.out.pass (l := []) HS.out⟩ ⟨Sep.start _⟩ HA3462).mono ?_
  rintro e_ w3463 ⟨rfl, hS⟩
  replace HS : Aside0 (Sep (fps []) w [] w3463) := ⟨HS.out.call hS⟩
  clear hS
  by_cases c3464 : t3461.2 = 0
  · have H := if_yes c3464 H
    have c3464b0 : (t3461.2 == 0) = true := beq_iff_eq.mpr c3464
    have c3464b1 : (t3461.2 != 0) = false := bne_eq_false_iff_eq.mpr c3464
    clear c3464
    go_wp2_with fail
    obtain ⟨t3501, HA3502, H⟩ := bind_some H
    refine (pool_Len_nil.calls t3501 _ ⟨HGl0.out.pass (l := []) HS.out⟩ ⟨Sep.start _⟩ HA3502).mono ?_
    rintro e_ w3503 ⟨rfl, hS⟩
    replace HS : Aside0 (Sep (fps []) w [] w3503) := ⟨HS.out.call hS⟩
    clear hS
    by_cases c3504 : t3501 < t3461.1
    · have H := if_yes c3504 H
      have c3504b0 : decide (t3501 < t3461.1) = true := decide_eq_true c3504
      clear c3504
      go_wp2_with fail
      go_ret2
      rw [← some_eq H]
      exact ⟨(by first | rfl | (simp [IntKind.wrap_u32]; done)), HS.out⟩
    · have H := if_no c3504 H
      have c3504b0 : decide (t3501 < t3461.1) = false := decide_eq_false c3504
      clear c3504
      go_wp2_with fail
      obtain ⟨t3579, HA3580, H⟩ := bind_some H
      refine (pool_Take_nil.calls _ t3579 _ ⟨HGl0.out.pass (l := []) HS.out⟩ ⟨Sep.start _⟩ HA3580).mono ?_
      rintro e_ w3581 ⟨rfl, hS⟩
      replace HS : Aside0 (Sep (fps []) w [] w3581) := ⟨HS.out.call hS⟩
      clear hS
      by_cases c3582 : t3461.1 > 1
      · have H := if_yes c3582 H
        have c3582b0 : decide (1 < t3461.1) = true := decide_eq_true c3582
        clear c3582
        go_wp2_with fail
        obtain ⟨t3608, HA3609, H⟩ := bind_some H
        refine (obj_mark_nil.calls _ t3579.1 2 0 0 0 0 0 0 t3608 _ ⟨HGl0.out.pass (l := []) HS.out⟩ ⟨Sep.start _⟩ HA3609).mono ?_
        rintro e_ w3610 ⟨rfl, hS⟩
        replace HS : Aside0 (Sep (fps []) w [] w3610) := ⟨HS.out.call hS⟩
        clear hS
        go_wp2_with fail
        obtain ⟨t3611, HA3612, H⟩ := bind_some H
        refine (ground_Ground_SetWord_nil.calls t3579.1 1 ((a3382) % 4294967296) t3611 _ ⟨HGl0.out.pass (l := []) HS.out⟩ ⟨Sep.start _⟩ HA3612).mono ?_
        rintro e_ w3613 ⟨rfl, hS⟩
        replace HS : Aside0 (Sep (fps []) w [] w3613) := ⟨HS.out.call hS⟩
        clear hS
        go_wp2_with fail
        obtain ⟨t3614, HA3615, H⟩ := bind_some H
        refine (ground_Ground_SetWord_nil.calls t3579.1 2 ((a3383) % 4294967296) t3614 _ ⟨HGl0.out.pass (l := []) HS.out⟩ ⟨Sep.start _⟩ HA3615).mono ?_
        rintro e_ w3616 ⟨rfl, hS⟩
        replace HS : Aside0 (Sep (fps []) w [] w3616) := ⟨HS.out.call hS⟩
        clear hS
        go_wp2_with fail
        obtain ⟨o3618, AL3619, H⟩ := bind_some H
        go_loopg [56] k (fun kq v56 wc => ∃ (x3622 : Int), v56 = .int .i64 x3622 ∧ Aside0 (obj_Make_nil.lo0 kq t3461 t3579 x3622 = some o3618) ∧ Aside0 (Sep (fps []) w [] wc))
        case atStart => exact ⟨(0), (by first | rfl | (simp [IntKind.wrap_u32]; done)), AL3619, ⟨HS.out⟩⟩
        case round =>
          clear AL3619 HS
          obtain ⟨x3622, rfl, AL3619, HS⟩ := hrel
          obtain ⟨w3620, rfl⟩ : ∃ x : World, x = wr := ⟨_, rfl⟩
          cases gk with
          | zero => exact absurd AL3619.out (by simp [obj_Make_nil.lo0])
          | succ k3621 =>
            have AL0 := AL3619.out
            rw [obj_Make_nil.lo0] at AL0
            clear AL3619
            have AL3619 := Aside0.mk AL0
            clear AL0
            by_cases c3623 : x3622 < (wrap64 (t3461.1 - 1))
            · have AL3619 := if_yes c3623 AL3619
              have c3623b0 : decide (x3622 < (wrap64 (t3461.1 - 1))) = true := decide_eq_true c3623
              clear c3623
              go_wp2_with fail
              obtain ⟨t3624, HA3625, AL3619⟩ := bind_some AL3619
              refine (pool_Take_nil.calls _ t3624 _ ⟨HGl0.out.pass (l := []) HS.out⟩ ⟨Sep.start _⟩ HA3625).mono ?_
              rintro e_ w3626 ⟨rfl, hS⟩
              replace HS : Aside0 (Sep (fps []) w [] w3626) := ⟨HS.out.call hS⟩
              clear hS
              go_wp2_with fail
              obtain ⟨t3627, HA3628, AL3619⟩ := bind_some AL3619
              refine (obj_mark_nil.calls _ t3624.1 3 0 0 0 0 0 t3579.1 t3627 _ ⟨HGl0.out.pass (l := []) HS.out⟩ ⟨Sep.start _⟩ HA3628).mono ?_
              rintro e_ w3629 ⟨rfl, hS⟩
              replace HS : Aside0 (Sep (fps []) w [] w3629) := ⟨HS.out.call hS⟩
              clear hS
              go_wp2_with fail
              obtain ⟨t3630, HA3631, AL3619⟩ := bind_some AL3619
              refine (ground_Ground_SetWord_nil.calls t3579.1 (wrap64 (8 + x3622)) ((wrap64 (t3624.1 + 1)) % 4294967296) t3630 _ ⟨HGl0.out.pass (l := []) HS.out⟩ ⟨Sep.start _⟩ HA3631).mono ?_
              rintro e_ w3632 ⟨rfl, hS⟩
              replace HS : Aside0 (Sep (fps []) w [] w3632) := ⟨HS.out.call hS⟩
              clear hS
              go_wp2_with fail
              go_roundg k3621
              case measure => exact Nat.lt_succ_self _
              case rel => exact ⟨(wrap64 (x3622 + 1)), (by first | rfl | (simp [IntKind.wrap_u32]; done)), Aside0.mk AL3619.out, ⟨HS.out⟩⟩
            · have AL3619 := if_no c3623 AL3619
              have c3623b0 : decide (x3622 < (wrap64 (t3461.1 - 1))) = false := decide_eq_false c3623
              clear c3623
              have ho := some_eq AL3619
              subst ho
              clear AL3619
              go_wp2_with fail
              go_ret2
              rw [← some_eq H]
              exact ⟨(by first | rfl | (simp [IntKind.wrap_u32]; done)), HS.out⟩
      · have H := if_no c3582 H
        have c3582b0 : decide (1 < t3461.1) = false := decide_eq_false c3582
        clear c3582
        go_wp2_with fail
        obtain ⟨t3608, HA3634, H⟩ := bind_some H
        refine (obj_mark_nil.calls _ t3579.1 1 0 0 0 0 0 0 t3608 _ ⟨HGl0.out.pass (l := []) HS.out⟩ ⟨Sep.start _⟩ HA3634).mono ?_
        rintro e_ w3635 ⟨rfl, hS⟩
        replace HS : Aside0 (Sep (fps []) w [] w3635) := ⟨HS.out.call hS⟩
        clear hS
        go_wp2_with fail
        obtain ⟨t3611, HA3636, H⟩ := bind_some H
        refine (ground_Ground_SetWord_nil.calls t3579.1 1 ((a3382) % 4294967296) t3611 _ ⟨HGl0.out.pass (l := []) HS.out⟩ ⟨Sep.start _⟩ HA3636).mono ?_
        rintro e_ w3637 ⟨rfl, hS⟩
        replace HS : Aside0 (Sep (fps []) w [] w3637) := ⟨HS.out.call hS⟩
        clear hS
        go_wp2_with fail
        obtain ⟨t3614, HA3638, H⟩ := bind_some H
        refine (ground_Ground_SetWord_nil.calls t3579.1 2 ((a3383) % 4294967296) t3614 _ ⟨HGl0.out.pass (l := []) HS.out⟩ ⟨Sep.start _⟩ HA3638).mono ?_
        rintro e_ w3639 ⟨rfl, hS⟩
        replace HS : Aside0 (Sep (fps []) w [] w3639) := ⟨HS.out.call hS⟩
        clear hS
        go_wp2_with fail
        obtain ⟨o3641, AL3642, H⟩ := bind_some H
        go_loopg [56] k (fun kq v56 wc => ∃ (x3645 : Int), v56 = .int .i64 x3645 ∧ Aside0 (obj_Make_nil.lo1 kq t3461 t3579 x3645 = some o3641) ∧ Aside0 (Sep (fps []) w [] wc))
        case atStart => exact ⟨(0), (by first | rfl | (simp [IntKind.wrap_u32]; done)), AL3642, ⟨HS.out⟩⟩
        case round =>
          clear AL3642 HS
          obtain ⟨x3645, rfl, AL3642, HS⟩ := hrel
          obtain ⟨w3643, rfl⟩ : ∃ x : World, x = wr := ⟨_, rfl⟩
          cases gk with
          | zero => exact absurd AL3642.out (by simp [obj_Make_nil.lo1])
          | succ k3644 =>
            have AL0 := AL3642.out
            rw [obj_Make_nil.lo1] at AL0
            clear AL3642
            have AL3642 := Aside0.mk AL0
            clear AL0
            by_cases c3646 : x3645 < (wrap64 (t3461.1 - 1))
            · have AL3642 := if_yes c3646 AL3642
              have c3646b0 : decide (x3645 < (wrap64 (t3461.1 - 1))) = true := decide_eq_true c3646
              clear c3646
              go_wp2_with fail
              obtain ⟨t3624, HA3647, AL3642⟩ := bind_some AL3642
              refine (pool_Take_nil.calls _ t3624 _ ⟨HGl0.out.pass (l := []) HS.out⟩ ⟨Sep.start _⟩ HA3647).mono ?_
              rintro e_ w3648 ⟨rfl, hS⟩
              replace HS : Aside0 (Sep (fps []) w [] w3648) := ⟨HS.out.call hS⟩
              clear hS
              go_wp2_with fail
              obtain ⟨t3627, HA3649, AL3642⟩ := bind_some AL3642
              refine (obj_mark_nil.calls _ t3624.1 3 0 0 0 0 0 t3579.1 t3627 _ ⟨HGl0.out.pass (l := []) HS.out⟩ ⟨Sep.start _⟩ HA3649).mono ?_
              rintro e_ w3650 ⟨rfl, hS⟩
              replace HS : Aside0 (Sep (fps []) w [] w3650) := ⟨HS.out.call hS⟩
              clear hS
              go_wp2_with fail
              obtain ⟨t3630, HA3651, AL3642⟩ := bind_some AL3642
              refine (ground_Ground_SetWord_nil.calls t3579.1 (wrap64 (8 + x3645)) ((wrap64 (t3624.1 + 1)) % 4294967296) t3630 _ ⟨HGl0.out.pass (l := []) HS.out⟩ ⟨Sep.start _⟩ HA3651).mono ?_
              rintro e_ w3652 ⟨rfl, hS⟩
              replace HS : Aside0 (Sep (fps []) w [] w3652) := ⟨HS.out.call hS⟩
              clear hS
              go_wp2_with fail
              go_roundg k3644
              case measure => exact Nat.lt_succ_self _
              case rel => exact ⟨(wrap64 (x3645 + 1)), (by first | rfl | (simp [IntKind.wrap_u32]; done)), Aside0.mk AL3642.out, ⟨HS.out⟩⟩
            · have AL3642 := if_no c3646 AL3642
              have c3646b0 : decide (x3645 < (wrap64 (t3461.1 - 1))) = false := decide_eq_false c3646
              clear c3646
              have ho := some_eq AL3642
              subst ho
              clear AL3642
              go_wp2_with fail
              go_ret2
              rw [← some_eq H]
              exact ⟨(by first | rfl | (simp [IntKind.wrap_u32]; done)), HS.out⟩
  · have H := if_no c3464 H
    have c3464b0 : (t3461.2 == 0) = false := beq_eq_false_iff_ne.mpr c3464
    have c3464b1 : (t3461.2 != 0) = true := bne_iff_ne.mpr c3464
    clear c3464
    go_wp2_with fail
    go_ret2
    rw [← some_eq H]
    exact ⟨(by first | rfl | (simp [IntKind.wrap_u32]; done)), HS.out⟩

set_option maxHeartbeats 30000000 in
set_option maxRecDepth 100000 in
theorem ring_List_nil.calls  (r : List Int) (w : World)  (HGl0 : Aside0 (Gl 0 #[.int .i64 0, .int .i64 0, .int .i64 0, .int .i64 0, .int .i64 0] (fps []) w)) (HS : Aside0 (Sep (fps []) w [] w)) (H : Aside0 (ring_List_nil.f = some r)) :
    Calls Tryz.prog 39 #[.pointer none] w fun e w' => ∃ (A3709 : Option Addr) (m3710 : Nat) (n3711 : Nat), e = .returned (.slice A3709 m3710 n3711) ∧ Sep (fps []) w [r17 A3709 m3710 n3711 r] w' := by
  unfold ring_List_nil.f at H
  go_enter Tryz.func39, Tryz.ntmps39
  go_wp2_with fail
  replace HS : Aside0 (Sep (fps []) w [r17 none 0 0 []] w) := ⟨HS.out.nilrow 3 (Value.int .i64)⟩
  go_ret
  rw [← some_eq H]
  exact ⟨none, 0, 0, (by first | rfl | (simp [IntKind.wrap_u32]; done)), HS.out⟩

set_option maxHeartbeats 30000000 in
set_option maxRecDepth 100000 in
theorem quitrentref01_Ints.calls (k : Nat) (l3724 : List Int) (l3728 : List Int) (A3725 : Option Addr) (n3726 : Nat) (A3729 : Option Addr) (n3730 : Nat) (r : Bool) (w : World) (HR3727 : Aside0 (Rd (Kd.int .i64) (fps []) w A3725 l3724.length l3724)) (HR3731 : Aside0 (Rd (Kd.int .i64) (fps []) w A3729 l3728.length l3728)) (HGl0 : Aside0 (Gl 0 #[.int .i64 0, .int .i64 0, .int .i64 0, .int .i64 0, .int .i64 0] (fps []) w)) (HS : Aside0 (Sep (fps []) w [] w)) (H : Aside0 (quitrentref01_Ints.f k l3724 l3728 = some r)) :
    Calls Tryz.prog 38 #[.slice A3725 l3724.length n3726, .slice A3729 l3728.length n3730] w fun e w' => e = .returned (.bool r) ∧ Sep (fps []) w [] w' := by
  unfold quitrentref01_Ints.f at H
  go_enter Tryz.func38, Tryz.ntmps38
  by_cases c3732 : (l3724.length : Int) = (l3728.length : Int)
  · have H := if_yes c3732 H
    have c3732b0 : ((l3724.length : Int) == (l3728.length : Int)) = true := beq_iff_eq.mpr c3732
    have c3732b1 : ((l3724.length : Int) != (l3728.length : Int)) = false := bne_eq_false_iff_eq.mpr c3732
    clear c3732
    go_wp2_with fail
    obtain ⟨o3748, AL3749, H⟩ := bind_some H
    go_loopg [5] k (fun kq v5 wc => ∃ (x3752 : Int), v5 = .int .i64 x3752 ∧ Aside0 (quitrentref01_Ints.lo0 kq l3724 l3728 x3752 = some o3748) ∧ Aside0 (Sep (fps []) w [] wc))
    case atStart => exact ⟨(0), (by first | rfl | (simp [IntKind.wrap_u32]; done)), AL3749, ⟨HS.out⟩⟩
    case round =>
      clear AL3749 HS
      obtain ⟨x3752, rfl, AL3749, HS⟩ := hrel
      obtain ⟨w3750, rfl⟩ : ∃ x : World, x = wr := ⟨_, rfl⟩
      cases gk with
      | zero => exact absurd AL3749.out (by simp [quitrentref01_Ints.lo0])
      | succ k3751 =>
        have AL0 := AL3749.out
        rw [quitrentref01_Ints.lo0] at AL0
        clear AL3749
        have AL3749 := Aside0.mk AL0
        clear AL0
        by_cases c3753 : x3752 < (l3724.length : Int)
        · have AL3749 := if_yes c3753 AL3749
          have c3753b0 : decide (x3752 < (l3724.length : Int)) = true := decide_eq_true c3753
          clear c3753
          go_wp2_with fail
          refine start_ (n := 9) (S := (fun w' => Kd.C (Kd.int .i64) w' A3725 l3724.length l3724 ∧ Kd.C (Kd.int .i64) w' A3729 l3728.length l3728)) (ds := []) #[false, false, false, false, false, false, false, false, false] (by kernel_rfl) rfl rfl (⟨Rd.read (fun _ _ _ _ h => h) HR3727.out (HS.out.drew).fr, Rd.read (fun _ _ _ _ h => h) HR3731.out (HS.out.drew).fr⟩) (fun hHeld => ?_)
          have HS_ := Aside0.mk HS.out.drew
          clear HS
          generalize World.drew _ = w3755 at HS_ hHeld ⊢
          have HS := HS_
          clear HS_
          refine pure_ (i := 0) (N := some 17) (v := ?_) (a' := ?_) #[true, false, false, false, false, false, false, false, false] rfl rfl (by kernel_rfl) (fun _ _ _ h => h) (Or.inl ⟨by rfl, ?_⟩) ?_ ?_
          rotate_left
          · intro w'
            go_simp
            with_reducible rfl
          rotate_left
          · simp only [Act.put, List.setIfInBounds_toArray, List.set_cons_zero, List.set_cons_succ, i64_w, i32_w]
            rfl
          refine pure_ (i := 1) (N := some 18) (v := ?_) (a' := ?_) #[true, true, false, false, false, false, false, false, false] rfl rfl (by kernel_rfl) (fun _ _ _ h => h) (Or.inl ⟨by rfl, ?_⟩) ?_ ?_
          rotate_left
          · intro w'
            go_simp
            with_reducible rfl
          rotate_left
          · simp only [Act.put, List.setIfInBounds_toArray, List.set_cons_zero, List.set_cons_succ, i64_w, i32_w]
            rfl
          by_cases c3756 : 0 ≤ x3752
          · have AL3749 := if_yes c3756 AL3749
            have c3756b0 : decide (0 ≤ x3752) = true := decide_eq_true c3756
            have c3756p : (0 ≤ x3752) = True := eq_true c3756
            clear c3756
            have ip3757 : (x3752 < (l3724.length : Int)) = True := eq_true (of_decide_eq_true c3753b0)
            obtain ⟨ad3758, ea, _⟩ := Kd.at_int (Rd.read (fun _ _ _ _ h => h) HR3727.out HS.out.fr) x3752 (of_decide_eq_true c3756b0) (of_decide_eq_true c3753b0)
            cases ea
            refine pure_ (i := 2) (N := some 19) (v := ?_) (a' := ?_) #[true, true, true, false, false, false, false, false, false] rfl rfl (by kernel_rfl) (fun _ _ _ h => h) (Or.inl ⟨by rfl, ?_⟩) ?_ ?_
            rotate_left
            · intro w'
              go_simp
              with_reducible rfl
            rotate_left
            · simp only [Act.put, List.setIfInBounds_toArray, List.set_cons_zero, List.set_cons_succ, i64_w, i32_w]
              rfl
            refine pure_ (i := 4) (N := some 21) (v := ?_) (a' := ?_) #[true, true, true, false, true, false, false, false, false] rfl rfl (by kernel_rfl) (fun _ _ _ h => h) (Or.inl ⟨by rfl, ?_⟩) ?_ ?_
            rotate_left
            · intro w'
              go_simp
              with_reducible rfl
            rotate_left
            · simp only [Act.put, List.setIfInBounds_toArray, List.set_cons_zero, List.set_cons_succ, i64_w, i32_w]
              rfl
            refine pure_ (i := 5) (N := some 22) (v := ?_) (a' := ?_) #[true, true, true, false, true, true, false, false, false] rfl rfl (by kernel_rfl) (fun _ _ _ h => h) (Or.inl ⟨by rfl, ?_⟩) ?_ ?_
            rotate_left
            · intro w'
              go_simp
              with_reducible rfl
            rotate_left
            · simp only [Act.put, List.setIfInBounds_toArray, List.set_cons_zero, List.set_cons_succ, i64_w, i32_w]
              rfl
            by_cases c3759 : x3752 < (l3728.length : Int)
            · have AL3749 := if_yes c3759 AL3749
              have c3759b0 : decide (x3752 < (l3728.length : Int)) = true := decide_eq_true c3759
              have c3759p : (x3752 < (l3728.length : Int)) = True := eq_true c3759
              clear c3759
              obtain ⟨ad3760, ea, _⟩ := Kd.at_int (Rd.read (fun _ _ _ _ h => h) HR3731.out HS.out.fr) x3752 (of_decide_eq_true c3756b0) (of_decide_eq_true c3759b0)
              cases ea
              refine pure_ (i := 6) (N := some 23) (v := ?_) (a' := ?_) #[true, true, true, false, true, true, true, false, false] rfl rfl (by kernel_rfl) (fun _ _ _ h => h) (Or.inl ⟨by rfl, ?_⟩) ?_ ?_
              rotate_left
              · intro w'
                go_simp
                with_reducible rfl
              rotate_left
              · simp only [Act.put, List.setIfInBounds_toArray, List.set_cons_zero, List.set_cons_succ, i64_w, i32_w]
                rfl
              refine take_ (i := 3) (N := some 20) (v := ?_) (a' := ?_) #[true, true, true, true, true, true, true, false, false] rfl rfl (by kernel_rfl) (fun _ _ _ h => h) (Or.inl ⟨by rfl, ?_⟩) hHeld ?_ ?_
              rotate_left
              · rintro w' hS'
                obtain ⟨s0, s1⟩ := hS'
                have hx := C_at_int s0 x3752 (of_decide_eq_true c3756b0) (of_decide_eq_true c3753b0)
                go_simp
                with_reducible rfl
              rotate_left
              · simp only [Act.put, List.setIfInBounds_toArray, List.set_cons_zero, List.set_cons_succ, i64_w, i32_w]
                rfl
              refine take_ (i := 7) (N := some 24) (v := ?_) (a' := ?_) #[true, true, true, true, true, true, true, true, false] rfl rfl (by kernel_rfl) (fun _ _ _ h => h) (Or.inl ⟨by rfl, ?_⟩) hHeld ?_ ?_
              rotate_left
              · rintro w' hS'
                obtain ⟨s0, s1⟩ := hS'
                have hx := C_at_int s1 x3752 (of_decide_eq_true c3756b0) (of_decide_eq_true c3759b0)
                go_simp
                with_reducible rfl
              rotate_left
              · simp only [Act.put, List.setIfInBounds_toArray, List.set_cons_zero, List.set_cons_succ, i64_w, i32_w]
                rfl
              refine pure_ (i := 8) (N := some 25) (v := ?_) (a' := ?_) #[true, true, true, true, true, true, true, true, true] rfl rfl (by kernel_rfl) (fun _ _ _ h => h) (Or.inl ⟨by rfl, ?_⟩) ?_ ?_
              rotate_left
              · intro w'
                go_simp
                with_reducible rfl
              rotate_left
              · simp only [Act.put, List.setIfInBounds_toArray, List.set_cons_zero, List.set_cons_succ, i64_w, i32_w]
                rfl
              refine done_ (by kernel_rfl) ?_
              by_cases c3761 : (rd l3724 x3752) = (rd l3728 x3752)
              · have AL3749 := if_yes c3761 AL3749
                have c3761b0 : ((rd l3724 x3752) == (rd l3728 x3752)) = true := beq_iff_eq.mpr c3761
                have c3761b1 : ((rd l3724 x3752) != (rd l3728 x3752)) = false := bne_eq_false_iff_eq.mpr c3761
                clear c3761
                go_wp2_with fail
                go_roundg k3751
                case measure => exact Nat.lt_succ_self _
                case rel => exact ⟨(wrap64 (x3752 + 1)), (by first | rfl | (simp [IntKind.wrap_u32]; done)), Aside0.mk AL3749.out, ⟨HS.out⟩⟩
              · have AL3749 := if_no c3761 AL3749
                have c3761b0 : ((rd l3724 x3752) == (rd l3728 x3752)) = false := beq_eq_false_iff_ne.mpr c3761
                have c3761b1 : ((rd l3724 x3752) != (rd l3728 x3752)) = true := bne_iff_ne.mpr c3761
                clear c3761
                go_wp2_with fail
                have ho := some_eq AL3749
                subst ho
                have H := lp_ret H
                go_ret
                rw [← some_eq H]
                exact ⟨(by first | rfl | (simp [IntKind.wrap_u32]; done)), HS.out⟩
            · have AL3749 := if_no c3759 AL3749
              have c3759b0 : decide (x3752 < (l3728.length : Int)) = false := decide_eq_false c3759
              clear c3759
              exact (none_no AL3749).elim
          · have AL3749 := if_no c3756 AL3749
            have c3756b0 : decide (0 ≤ x3752) = false := decide_eq_false c3756
            clear c3756
            exact (none_no AL3749).elim
        · have AL3749 := if_no c3753 AL3749
          have c3753b0 : decide (x3752 < (l3724.length : Int)) = false := decide_eq_false c3753
          clear c3753
          have ho := some_eq AL3749
          subst ho
          clear AL3749
          have H := lp_out H
          go_wp2_with fail
          go_ret
          rw [← some_eq H]
          exact ⟨(by first | rfl | (simp [IntKind.wrap_u32]; done)), HS.out⟩
  · have H := if_no c3732 H
    have c3732b0 : ((l3724.length : Int) == (l3728.length : Int)) = false := beq_eq_false_iff_ne.mpr c3732
    have c3732b1 : ((l3724.length : Int) != (l3728.length : Int)) = true := bne_iff_ne.mpr c3732
    clear c3732
    go_wp2_with fail
    go_ret
    rw [← some_eq H]
    exact ⟨(by first | rfl | (simp [IntKind.wrap_u32]; done)), HS.out⟩

set_option maxHeartbeats 30000000 in
set_option maxRecDepth 100000 in
theorem pool_Len.calls (l3826 : List Int) (a3831 : Int) (a3832 : Int) (a3833 : Int) (a3834 : Int) (a3835 : Int) (g3822 : Nat) (g3824 : Nat) (A3827 : Option Addr) (m3828 : Nat) (n3829 : Nat) (r : Int × Int) (w : World)  (HGl0 : Aside0 (Gl 0 #[.int .i64 0, .int .i64 0, .int .i64 0, .int .i64 0, .int .i64 0] (fps [b14 g3822 g3824 a3832 a3833 a3834 a3835, b13 g3824 A3827 m3828 n3829 a3831, r7 A3827 m3828 n3829 l3826]) w)) (HS : Aside0 (Sep (fps [b14 g3822 g3824 a3832 a3833 a3834 a3835, b13 g3824 A3827 m3828 n3829 a3831, r7 A3827 m3828 n3829 l3826]) w [b14 g3822 g3824 a3832 a3833 a3834 a3835, b13 g3824 A3827 m3828 n3829 a3831, r7 A3827 m3828 n3829 l3826] w)) (H : Aside0 (pool_Len.f l3826 a3831 a3832 a3833 a3834 a3835 = some r)) :
    Calls Tryz.prog 47 #[.pointer (some ⟨g3822, 0, none⟩)] w fun e w' => e = .returned (.int .i64 r.1) ∧ Sep (fps [b14 g3822 g3824 a3832 a3833 a3834 a3835, b13 g3824 A3827 m3828 n3829 a3831, r7 A3827 m3828 n3829 l3826]) w [b14 g3822 g3824 a3832 a3833 a3834 a3835, b13 g3824 A3827 m3828 n3829 r.2, r7 A3827 m3828 n3829 l3826] w' := by
  generalize (fps [b14 g3822 g3824 a3832 a3833 a3834 a3835, b13 g3824 A3827 m3828 n3829 a3831, r7 A3827 m3828 n3829 l3826]) = FF at HS HGl0 ⊢
  obtain rfl := (row_len (HS.out.at2)).symm
  unfold pool_Len.f at H
  go_enter Tryz.func47, Tryz.ntmps47
  go_wp2_with fail
  obtain ⟨t3839, HA3840, H⟩ := bind_some H
  refine (chain_Len.calls l3826 a3831 a3832 a3833 a3834 a3835 0 g3822 g3824 A3827 l3826.length n3829 t3839 _ ⟨HGl0.out.pass HS.out⟩ ⟨HS.out.begin⟩ HA3840).mono ?_
  rintro e_ w3841 ⟨rfl, hS⟩
  replace HS : Aside0 (Sep FF w [b14 g3822 g3824 a3832 a3833 a3834 a3835, b13 g3824 A3827 l3826.length n3829 t3839.2, r7 A3827 l3826.length n3829 l3826] w3841) := ⟨HS.out.call hS⟩
  clear hS
  go_wp2_with fail
  go_ret
  rw [← some_eq H]
  exact ⟨(by first | rfl | (simp [IntKind.wrap_u32]; done)), HS.out⟩

set_option maxHeartbeats 30000000 in
set_option maxRecDepth 100000 in
theorem ground_Ground_Word.calls (l3932 : List Int) (a3937 : Int) (a3938 : Int) (a3939 : Int) (a3940 : Int) (a3941 : Int) (a3942 : Int) (a3943 : Int) (g3928 : Nat) (g3930 : Nat) (A3933 : Option Addr) (m3934 : Nat) (n3935 : Nat) (r : Int × Int) (w : World)  (HGl0 : Aside0 (Gl 0 #[.int .i64 0, .int .i64 0, .int .i64 0, .int .i64 0, .int .i64 0] (fps [b14 g3928 g3930 a3938 a3939 a3940 a3941, b13 g3930 A3933 m3934 n3935 a3937, r7 A3933 m3934 n3935 l3932]) w)) (HS : Aside0 (Sep (fps [b14 g3928 g3930 a3938 a3939 a3940 a3941, b13 g3930 A3933 m3934 n3935 a3937, r7 A3933 m3934 n3935 l3932]) w [b14 g3928 g3930 a3938 a3939 a3940 a3941, b13 g3930 A3933 m3934 n3935 a3937, r7 A3933 m3934 n3935 l3932] w)) (H : Aside0 (ground_Ground_Word.f l3932 a3937 a3938 a3939 a3940 a3941 a3942 a3943 = some r)) :
    Calls Tryz.prog 55 #[.pointer (some ⟨g3928, 0, none⟩), .int .i64 a3942, .int .i64 a3943] w fun e w' => e = .returned (.int .u32 r.1) ∧ Sep (fps [b14 g3928 g3930 a3938 a3939 a3940 a3941, b13 g3930 A3933 m3934 n3935 a3937, r7 A3933 m3934 n3935 l3932]) w [b14 g3928 g3930 a3938 a3939 a3940 a3941, b13 g3930 A3933 m3934 n3935 r.2, r7 A3933 m3934 n3935 l3932] w' := by
  generalize (fps [b14 g3928 g3930 a3938 a3939 a3940 a3941, b13 g3930 A3933 m3934 n3935 a3937, r7 A3933 m3934 n3935 l3932]) = FF at HS HGl0 ⊢
  obtain rfl := (row_len (HS.out.at2)).symm
  unfold ground_Ground_Word.f at H
  go_enter Tryz.func55, Tryz.ntmps55
  go_wp2_with fail
  obtain ⟨t3953, HA3954, H⟩ := bind_some H
  refine (ground_Ground_all.calls l3932 a3937 a3938 a3939 a3940 a3941 g3928 g3930 A3933 l3932.length n3935 t3953 _ ⟨HGl0.out.pass HS.out⟩ ⟨HS.out.begin⟩ HA3954).mono ?_
  rintro e_ w3955 ⟨rfl, hS⟩
  replace HS : Aside0 (Sep FF w [b14 g3928 g3930 a3938 a3939 a3940 a3941, b13 g3930 A3933 l3932.length n3935 a3937, r7 A3933 l3932.length n3935 l3932] w3955) := ⟨HS.out.call hS⟩
  clear hS
  go_wp2_with fail
  obtain ⟨t3956, HA3957, H⟩ := bind_some H
  refine (ground_Ground_word.calls l3932 a3937 a3938 a3939 a3940 a3941 a3942 a3943 g3928 g3930 A3933 l3932.length n3935 t3956 _ ⟨HGl0.out.pass HS.out⟩ ⟨HS.out.begin⟩ HA3957).mono ?_
  rintro e_ w3958 ⟨rfl, hS⟩
  replace HS : Aside0 (Sep FF w [b14 g3928 g3930 a3938 a3939 a3940 a3941, b13 g3930 A3933 l3932.length n3935 a3937, r7 A3933 l3932.length n3935 l3932] w3958) := ⟨HS.out.call hS⟩
  clear hS
  go_wp2_with fail
  replace HS : Aside0 (Sep FF w [r7 A3933 l3932.length n3935 l3932, b14 g3928 g3930 a3938 a3939 a3940 a3941, b13 g3930 A3933 l3932.length n3935 a3937] w3958) := ⟨HS.out.front 2 (by simp)⟩
  replace HS : Aside0 (Sep FF w [b13 g3930 A3933 l3932.length n3935 a3937, r7 A3933 l3932.length n3935 l3932, b14 g3928 g3930 a3938 a3939 a3940 a3941] w3958) := ⟨HS.out.front 2 (by simp)⟩
  obtain ⟨t3959, HA3960, H⟩ := bind_some H
  refine (store_Store_Get.calls l3932 a3937 t3956 g3930 A3933 l3932.length n3935 t3959 _ ⟨HGl0.out.pass HS.out⟩ ⟨HS.out.begin⟩ HA3960).mono ?_
  rintro e_ w3961 ⟨rfl, hS⟩
  replace HS : Aside0 (Sep FF w [b13 g3930 A3933 l3932.length n3935 t3959.2, r7 A3933 l3932.length n3935 l3932, b14 g3928 g3930 a3938 a3939 a3940 a3941] w3961) := ⟨HS.out.call hS⟩
  clear hS
  go_wp2_with fail
  go_ret
  rw [← some_eq H]
  exact ⟨(by first | rfl | (simp [IntKind.wrap_u32]; done)), ((((HS.out).front 1 (by simp)).front 1 (by simp)).front 2 (by simp)).keep (l := [b14 g3928 g3930 a3938 a3939 a3940 a3941, b13 g3930 A3933 l3932.length n3935 t3959.2, r7 A3933 l3932.length n3935 l3932]) (rest := [])⟩

set_option maxHeartbeats 30000000 in
set_option maxRecDepth 100000 in
theorem chain_Take.calls (l3878 : List Int) (a3883 : Int) (a3884 : Int) (a3885 : Int) (a3886 : Int) (a3887 : Int) (a3888 : Int) (g3874 : Nat) (g3876 : Nat) (A3879 : Option Addr) (m3880 : Nat) (n3881 : Nat) (r : Int × Bool × Int × List Int) (w : World)  (HGl0 : Aside0 (Gl 0 #[.int .i64 0, .int .i64 0, .int .i64 0, .int .i64 0, .int .i64 0] (fps [b14 g3874 g3876 a3884 a3885 a3886 a3887, b13 g3876 A3879 m3880 n3881 a3883, r7 A3879 m3880 n3881 l3878]) w)) (HS : Aside0 (Sep (fps [b14 g3874 g3876 a3884 a3885 a3886 a3887, b13 g3876 A3879 m3880 n3881 a3883, r7 A3879 m3880 n3881 l3878]) w [b14 g3874 g3876 a3884 a3885 a3886 a3887, b13 g3876 A3879 m3880 n3881 a3883, r7 A3879 m3880 n3881 l3878] w)) (H : Aside0 (chain_Take.f l3878 a3883 a3884 a3885 a3886 a3887 a3888 = some r)) :
    Calls Tryz.prog 104 #[.pointer (some ⟨g3874, 0, none⟩), .int .i64 a3888] w fun e w' => e = .returned (.tuple #[.int .i64 r.1, .bool r.2.1]) ∧ Sep (fps [b14 g3874 g3876 a3884 a3885 a3886 a3887, b13 g3876 A3879 m3880 n3881 a3883, r7 A3879 m3880 n3881 l3878]) w [b14 g3874 g3876 a3884 a3885 a3886 a3887, b13 g3876 A3879 m3880 n3881 r.2.2.1, r7 A3879 m3880 n3881 r.2.2.2] w' := by
  generalize (fps [b14 g3874 g3876 a3884 a3885 a3886 a3887, b13 g3876 A3879 m3880 n3881 a3883, r7 A3879 m3880 n3881 l3878]) = FF at HS HGl0 ⊢
  obtain rfl := (row_len (HS.out.at2)).symm
  unfold chain_Take.f at H
  go_enter Tryz.func104, Tryz.ntmps104
  go_wp2_with fail
  obtain ⟨t3985, HA3986, H⟩ := bind_some H
  refine (chain_of.calls l3878 a3883 a3884 a3885 a3886 a3887 a3888 g3874 g3876 A3879 l3878.length n3881 t3985 _ ⟨HGl0.out.pass HS.out⟩ ⟨HS.out.begin⟩ HA3986).mono ?_
  rintro e_ w3987 ⟨rfl, hS⟩
  replace HS : Aside0 (Sep FF w [b14 g3874 g3876 a3884 a3885 a3886 a3887, b13 g3876 A3879 l3878.length n3881 a3883, r7 A3879 l3878.length n3881 l3878] w3987) := ⟨HS.out.call hS⟩
  clear hS
  by_cases c3998 : t3985.2.2.2 = true
  · have H := if_yes c3998 H
    have c3998b0 : t3985.2.2.2 = true := c3998
    have c3998b1 : (!t3985.2.2.2) = false := by rw [c3998b0]; rfl
    try rw [c3998b1]
    clear c3998
    go_wp2_with (first | ((with_reducible refine gate_dst (N := 6) rfl ?_); refine box_on ?hg (N := 6) ?hd (cs := #[.int .i64 0, .int .i64 0, .int .i64 0]) (t := 165) ?hr ?_; (case hd => rfl); (case hg => rfl); (case hr => first | (go_simp; done) | (go_simp; rfl)); intro g3988 hg w3989 hbox hb; replace HS : Aside0 (Sep FF w [b14 g3874 g3876 a3884 a3885 a3886 a3887, b13 g3876 A3879 l3878.length n3881 a3883, r7 A3879 l3878.length n3881 l3878, b15 g3988 0 0 0] w3989) := ⟨HS.out.box hg hbox hb⟩; clear hg hbox hb; have hc3991 : w3989.cell? ⟨g3988, 0, none⟩ = some (.int .i64 0) := blk_cellv (HS.out.at3) 0 rfl; have hz3992 : w3989.frozen? ⟨g3988, 0, none⟩ = false := blk_fz (HS.out.at3) 0; have hc3993 : w3989.cell? ⟨g3988, 1, none⟩ = some (.int .i64 0) := blk_cellv (HS.out.at3) 1 rfl; have hz3994 : w3989.frozen? ⟨g3988, 1, none⟩ = false := blk_fz (HS.out.at3) 1; have hc3995 : w3989.cell? ⟨g3988, 2, none⟩ = some (.int .i64 0) := blk_cellv (HS.out.at3) 2 rfl; have hz3996 : w3989.frozen? ⟨g3988, 2, none⟩ = false := blk_fz (HS.out.at3) 2) | ((with_reducible refine gate_store (t := 165) (p := 6) rfl ?_); refine store_event (w1 := (World.setCell (World.setCell (World.setCell w3989 ⟨g3988, 0, none⟩ (.int .i64 t3985.1)) ⟨g3988, 1, none⟩ (.int .i64 t3985.2.1)) ⟨g3988, 2, none⟩ (.int .i64 t3985.2.2.1))) rfl (t := 165) (p := 6) rfl rfl ?hr ?_; (case hr => first | (go_simp; done) | (go_simp; rfl)); intro w3997 hst; clear hc3991 hz3992 hc3993 hz3994 hc3995 hz3996; replace HS : Aside0 (Sep FF w [b14 g3874 g3876 a3884 a3885 a3886 a3887, b13 g3876 A3879 l3878.length n3881 a3883, r7 A3879 l3878.length n3881 l3878, b15 g3988 t3985.1 t3985.2.1 t3985.2.2.1] w3997) := ⟨by rw [hst]; exact HS.out.setAll (l1 := [b14 g3874 g3876 a3884 a3885 a3886 a3887, b13 g3876 A3879 l3878.length n3881 a3883, r7 A3879 l3878.length n3881 l3878]) (l2 := []) [.int .i64 t3985.1, .int .i64 t3985.2.1, .int .i64 t3985.2.2.1] rfl⟩; clear hst; have hc3999 : w3997.cell? ⟨g3988, 0, none⟩ = some (.int .i64 t3985.1) := blk_cellv (HS.out.at3) 0 rfl))
    clear hc3999
    obtain ⟨t4000, HA4001, H⟩ := bind_some H
    refine (ground_Ground_Reg.calls l3878 a3883 a3884 a3885 a3886 a3887 t3985.1 g3874 g3876 A3879 l3878.length n3881 t4000 _ ⟨HGl0.out.pass HS.out⟩ ⟨HS.out.begin⟩ HA4001).mono ?_
    rintro e_ w4002 ⟨rfl, hS⟩
    replace HS : Aside0 (Sep FF w [b14 g3874 g3876 a3884 a3885 a3886 a3887, b13 g3876 A3879 l3878.length n3881 t4000.2, r7 A3879 l3878.length n3881 l3878, b15 g3988 t3985.1 t3985.2.1 t3985.2.2.1] w4002) := ⟨HS.out.call hS⟩
    clear hS
    by_cases c4003 : t4000.1 = 0
    · have H := if_yes c4003 H
      have c4003b0 : (t4000.1 == 0) = true := beq_iff_eq.mpr c4003
      have c4003b1 : (t4000.1 != 0) = false := bne_eq_false_iff_eq.mpr c4003
      clear c4003
      replace HS : Aside0 (Sep FF w [b14 g3874 g3876 a3884 a3885 a3886 a3887, b13 g3876 A3879 l3878.length n3881 t4000.2, r7 A3879 l3878.length n3881 l3878] w4002) := ⟨HS.out.sub (.cons_cons _ (.cons_cons _ (.cons_cons _ (.cons _ .slnil))))⟩
      go_wp2_with fail
      go_ret2
      rw [← some_eq H]
      exact ⟨(by first | rfl | (simp [IntKind.wrap_u32]; done)), HS.out⟩
    · have H := if_no c4003 H
      have c4003b0 : (t4000.1 == 0) = false := beq_eq_false_iff_ne.mpr c4003
      have c4003b1 : (t4000.1 != 0) = true := bne_iff_ne.mpr c4003
      clear c4003
      go_wp2_with fail
      obtain ⟨t4004, HA4005, H⟩ := bind_some H
      refine (ground_Ground_Word.calls l3878 t4000.2 a3884 a3885 a3886 a3887 (wrap64 (t4000.1 - 1)) 5 g3874 g3876 A3879 l3878.length n3881 t4004 _ ⟨HGl0.out.pass HS.out⟩ ⟨HS.out.begin⟩ HA4005).mono ?_
      rintro e_ w4006 ⟨rfl, hS⟩
      replace HS : Aside0 (Sep FF w [b14 g3874 g3876 a3884 a3885 a3886 a3887, b13 g3876 A3879 l3878.length n3881 t4004.2, r7 A3879 l3878.length n3881 l3878, b15 g3988 t3985.1 t3985.2.1 t3985.2.2.1] w4006) := ⟨HS.out.call hS⟩
      clear hS
      go_wp2_with fail
      obtain ⟨t4007, HA4008, H⟩ := bind_some H
      refine (ground_Ground_SetWord.calls l3878 t4004.2 a3884 a3885 a3886 a3887 (wrap64 (t4000.1 - 1)) 5 0 g3874 g3876 A3879 l3878.length n3881 t4007 _ ⟨HGl0.out.pass HS.out⟩ ⟨HS.out.begin⟩ HA4008).mono ?_
      rintro e_ w4009 ⟨rfl, hS⟩
      replace HS : Aside0 (Sep FF w [b14 g3874 g3876 a3884 a3885 a3886 a3887, b13 g3876 A3879 l3878.length n3881 t4007.2.1, r7 A3879 l3878.length n3881 t4007.2.2, b15 g3988 t3985.1 t3985.2.1 t3985.2.2.1] w4009) := ⟨HS.out.call hS⟩
      clear hS
      have hc4010 : w4009.cell? ⟨g3988, 0, none⟩ = some (.int .i64 t3985.1) := blk_cellv (HS.out.at3) 0 rfl
      go_wp2_with fail
      clear hc4010
      obtain ⟨t4011, HA4012, H⟩ := bind_some H
      refine (ground_Ground_SetReg.calls t4007.2.2 t4007.2.1 a3884 a3885 a3886 a3887 t3985.1 (wrap64 (t4004.1)) g3874 g3876 A3879 l3878.length n3881 t4011 _ ⟨HGl0.out.pass HS.out⟩ ⟨HS.out.begin⟩ HA4012).mono ?_
      rintro e_ w4013 ⟨rfl, hS⟩
      replace HS : Aside0 (Sep FF w [b14 g3874 g3876 a3884 a3885 a3886 a3887, b13 g3876 A3879 l3878.length n3881 t4011.2.1, r7 A3879 l3878.length n3881 t4011.2.2, b15 g3988 t3985.1 t3985.2.1 t3985.2.2.1] w4013) := ⟨HS.out.call hS⟩
      clear hS
      by_cases c4014 : (wrap64 (t4004.1)) = 0
      · have H := if_yes c4014 H
        have c4014b0 : ((wrap64 (t4004.1)) == 0) = true := beq_iff_eq.mpr c4014
        have c4014b1 : ((wrap64 (t4004.1)) != 0) = false := bne_eq_false_iff_eq.mpr c4014
        clear c4014
        have hc4015 : w4013.cell? ⟨g3988, 1, none⟩ = some (.int .i64 t3985.2.1) := blk_cellv (HS.out.at3) 1 rfl
        go_wp2_with fail
        clear hc4015
        obtain ⟨t4016, HA4017, H⟩ := bind_some H
        refine (ground_Ground_SetReg.calls t4011.2.2 t4011.2.1 a3884 a3885 a3886 a3887 t3985.2.1 0 g3874 g3876 A3879 l3878.length n3881 t4016 _ ⟨HGl0.out.pass HS.out⟩ ⟨HS.out.begin⟩ HA4017).mono ?_
        rintro e_ w4018 ⟨rfl, hS⟩
        replace HS : Aside0 (Sep FF w [b14 g3874 g3876 a3884 a3885 a3886 a3887, b13 g3876 A3879 l3878.length n3881 t4016.2.1, r7 A3879 l3878.length n3881 t4016.2.2, b15 g3988 t3985.1 t3985.2.1 t3985.2.2.1] w4018) := ⟨HS.out.call hS⟩
        clear hS
        go_wp2_with fail
        refine start_ (n := 9) (S := (fun w' => w'.cell? ⟨g3988, 2, none⟩ = some (.int .i64 t3985.2.2.1))) (ds := []) #[false, false, false, false, false, false, false, false, false] (by kernel_rfl) rfl rfl (blk_cellv ((HS.out.drew).at3) 2 rfl) (fun hHeld => ?_)
        have HS_ := Aside0.mk HS.out.drew
        clear HS
        generalize World.drew _ = w4020 at HS_ hHeld ⊢
        have HS := HS_
        clear HS_
        refine pure_ (i := 0) (N := some 44) (v := ?_) (a' := ?_) #[true, false, false, false, false, false, false, false, false] rfl rfl (by kernel_rfl) (fun _ _ _ h => h) (Or.inl ⟨by rfl, ?_⟩) ?_ ?_
        rotate_left
        · intro w'
          go_simp
          with_reducible rfl
        rotate_left
        · simp only [Act.put, List.setIfInBounds_toArray, List.set_cons_zero, List.set_cons_succ, i64_w, i32_w]
          rfl
        refine pure_ (i := 1) (N := some 45) (v := ?_) (a' := ?_) #[true, true, false, false, false, false, false, false, false] rfl rfl (by kernel_rfl) (fun _ _ _ h => h) (Or.inl ⟨by rfl, ?_⟩) ?_ ?_
        rotate_left
        · intro w'
          go_simp
          with_reducible rfl
        rotate_left
        · simp only [Act.put, List.setIfInBounds_toArray, List.set_cons_zero, List.set_cons_succ, i64_w, i32_w]
          rfl
        refine pure_ (i := 3) (N := some 47) (v := ?_) (a' := ?_) #[true, true, false, true, false, false, false, false, false] rfl rfl (by kernel_rfl) (fun _ _ _ h => h) (Or.inl ⟨by rfl, ?_⟩) ?_ ?_
        rotate_left
        · intro w'
          go_simp
          with_reducible rfl
        rotate_left
        · simp only [Act.put, List.setIfInBounds_toArray, List.set_cons_zero, List.set_cons_succ, i64_w, i32_w]
          rfl
        refine pure_ (i := 4) (N := some 48) (v := ?_) (a' := ?_) #[true, true, false, true, true, false, false, false, false] rfl rfl (by kernel_rfl) (fun _ _ _ h => h) (Or.inl ⟨by rfl, ?_⟩) ?_ ?_
        rotate_left
        · intro w'
          go_simp
          with_reducible rfl
        rotate_left
        · simp only [Act.put, List.setIfInBounds_toArray, List.set_cons_zero, List.set_cons_succ, i64_w, i32_w]
          rfl
        refine take_ (i := 2) (N := some 46) (v := ?_) (a' := ?_) #[true, true, true, true, true, false, false, false, false] rfl rfl (by kernel_rfl) (fun _ _ _ h => h) (Or.inl ⟨by rfl, ?_⟩) hHeld ?_ ?_
        rotate_left
        · rintro w' hS'
          have s0 := hS'
          go_simp
          with_reducible rfl
        rotate_left
        · simp only [Act.put, List.setIfInBounds_toArray, List.set_cons_zero, List.set_cons_succ, i64_w, i32_w]
          rfl
        refine take_ (i := 5) (N := some 49) (v := ?_) (a' := ?_) #[true, true, true, true, true, true, false, false, false] rfl rfl (by kernel_rfl) (fun _ _ _ h => h) (Or.inl ⟨by rfl, ?_⟩) hHeld ?_ ?_
        rotate_left
        · rintro w' hS'
          have s0 := hS'
          go_simp
          with_reducible rfl
        rotate_left
        · simp only [Act.put, List.setIfInBounds_toArray, List.set_cons_zero, List.set_cons_succ, i64_w, i32_w]
          rfl
        refine one_ (i := 6) (N := some 50) #[true, true, true, true, true, true, true, false, false] rfl rfl (by kernel_rfl) (by decide) (fun K hK => ?_)
        obtain ⟨t4021, HA4022, H⟩ := bind_some H
        refine goes_ Tryz.func44 (by kernel_rfl) rfl #[.pointer (some ⟨g3874, 0, none⟩), .int .i64 t3985.2.2.1] (by rfl) rfl rfl (by (try simp only [List.map_toArray, List.map_cons, List.map_nil]); first | done | rfl) ?_
        refine (ground_Ground_Reg.calls t4016.2.2 t4016.2.1 a3884 a3885 a3886 a3887 t3985.2.2.1 g3874 g3876 A3879 l3878.length n3881 t4021 _ ⟨HGl0.out.pass HS.out⟩ ⟨HS.out.begin⟩ HA4022).mono ?_
        rintro e_ w4023 ⟨rfl, hS⟩
        replace HS : Aside0 (Sep FF w [b14 g3874 g3876 a3884 a3885 a3886 a3887, b13 g3876 A3879 l3878.length n3881 t4021.2, r7 A3879 l3878.length n3881 t4016.2.2, b15 g3988 t3985.1 t3985.2.1 t3985.2.2.1] w4023) := ⟨HS.out.call hS⟩
        clear hS
        refine ⟨_, rfl, ?_⟩
        refine hK.out _ _ (blk_cellv (HS.out.at3) 2 rfl) (fun hHeld => ?_)
        clear hK K
        refine norm_ (a' := ?_) ?_ ?_
        rotate_left
        · show Act.put _ (some 50) _ = _
          simp only [Act.put, List.setIfInBounds_toArray, List.set_cons_zero, List.set_cons_succ, i64_w, i32_w]
          rfl
        refine pure_ (i := 7) (N := some 51) (v := ?_) (a' := ?_) #[true, true, true, true, true, true, true, true, false] rfl rfl (by kernel_rfl) (fun _ _ _ h => h) (Or.inl ⟨by rfl, ?_⟩) ?_ ?_
        rotate_left
        · intro w'
          go_simp
          with_reducible rfl
        rotate_left
        · simp only [Act.put, List.setIfInBounds_toArray, List.set_cons_zero, List.set_cons_succ, i64_w, i32_w]
          rfl
        refine one_ (i := 8) (N := some 52) #[true, true, true, true, true, true, true, true, true] rfl rfl (by kernel_rfl) (by decide) (fun K hK => ?_)
        obtain ⟨t4024, HA4025, H⟩ := bind_some H
        refine goes_ Tryz.func43 (by kernel_rfl) rfl #[.pointer (some ⟨g3874, 0, none⟩), .int .i64 t3985.2.2.1, .int .i64 (wrap64 (t4021.1 - 1))] (by rfl) rfl rfl (by (try simp only [List.map_toArray, List.map_cons, List.map_nil]); first | done | rfl) ?_
        refine (ground_Ground_SetReg.calls t4016.2.2 t4021.2 a3884 a3885 a3886 a3887 t3985.2.2.1 (wrap64 (t4021.1 - 1)) g3874 g3876 A3879 l3878.length n3881 t4024 _ ⟨HGl0.out.pass HS.out⟩ ⟨HS.out.begin⟩ HA4025).mono ?_
        rintro e_ w4026 ⟨rfl, hS⟩
        replace HS : Aside0 (Sep FF w [b14 g3874 g3876 a3884 a3885 a3886 a3887, b13 g3876 A3879 l3878.length n3881 t4024.2.1, r7 A3879 l3878.length n3881 t4024.2.2, b15 g3988 t3985.1 t3985.2.1 t3985.2.2.1] w4026) := ⟨HS.out.call hS⟩
        clear hS
        refine ⟨_, rfl, ?_⟩
        refine hK.out _ _ (blk_cellv (HS.out.at3) 2 rfl) (fun hHeld => ?_)
        clear hK K
        refine norm_ (a' := ?_) ?_ ?_
        rotate_left
        · show Act.put _ (some 52) _ = _
          simp only [Act.put, List.setIfInBounds_toArray, List.set_cons_zero, List.set_cons_succ, i64_w, i32_w]
          rfl
        refine done_ (by kernel_rfl) ?_
        replace HS : Aside0 (Sep FF w [b14 g3874 g3876 a3884 a3885 a3886 a3887, b13 g3876 A3879 l3878.length n3881 t4024.2.1, r7 A3879 l3878.length n3881 t4024.2.2] w4026) := ⟨HS.out.sub (.cons_cons _ (.cons_cons _ (.cons_cons _ (.cons _ .slnil))))⟩
        go_wp2_with fail
        go_ret2
        rw [← some_eq H]
        exact ⟨(by first | rfl | (simp [IntKind.wrap_u32]; done)), HS.out⟩
      · have H := if_no c4014 H
        have c4014b0 : ((wrap64 (t4004.1)) == 0) = false := beq_eq_false_iff_ne.mpr c4014
        have c4014b1 : ((wrap64 (t4004.1)) != 0) = true := bne_iff_ne.mpr c4014
        clear c4014
        go_wp2_with fail
        refine start_ (n := 9) (S := (fun w' => w'.cell? ⟨g3988, 2, none⟩ = some (.int .i64 t3985.2.2.1))) (ds := []) #[false, false, false, false, false, false, false, false, false] (by kernel_rfl) rfl rfl (blk_cellv ((HS.out.drew).at3) 2 rfl) (fun hHeld => ?_)
        have HS_ := Aside0.mk HS.out.drew
        clear HS
        generalize World.drew _ = w4028 at HS_ hHeld ⊢
        have HS := HS_
        clear HS_
        refine pure_ (i := 0) (N := some 44) (v := ?_) (a' := ?_) #[true, false, false, false, false, false, false, false, false] rfl rfl (by kernel_rfl) (fun _ _ _ h => h) (Or.inl ⟨by rfl, ?_⟩) ?_ ?_
        rotate_left
        · intro w'
          go_simp
          with_reducible rfl
        rotate_left
        · simp only [Act.put, List.setIfInBounds_toArray, List.set_cons_zero, List.set_cons_succ, i64_w, i32_w]
          rfl
        refine pure_ (i := 1) (N := some 45) (v := ?_) (a' := ?_) #[true, true, false, false, false, false, false, false, false] rfl rfl (by kernel_rfl) (fun _ _ _ h => h) (Or.inl ⟨by rfl, ?_⟩) ?_ ?_
        rotate_left
        · intro w'
          go_simp
          with_reducible rfl
        rotate_left
        · simp only [Act.put, List.setIfInBounds_toArray, List.set_cons_zero, List.set_cons_succ, i64_w, i32_w]
          rfl
        refine pure_ (i := 3) (N := some 47) (v := ?_) (a' := ?_) #[true, true, false, true, false, false, false, false, false] rfl rfl (by kernel_rfl) (fun _ _ _ h => h) (Or.inl ⟨by rfl, ?_⟩) ?_ ?_
        rotate_left
        · intro w'
          go_simp
          with_reducible rfl
        rotate_left
        · simp only [Act.put, List.setIfInBounds_toArray, List.set_cons_zero, List.set_cons_succ, i64_w, i32_w]
          rfl
        refine pure_ (i := 4) (N := some 48) (v := ?_) (a' := ?_) #[true, true, false, true, true, false, false, false, false] rfl rfl (by kernel_rfl) (fun _ _ _ h => h) (Or.inl ⟨by rfl, ?_⟩) ?_ ?_
        rotate_left
        · intro w'
          go_simp
          with_reducible rfl
        rotate_left
        · simp only [Act.put, List.setIfInBounds_toArray, List.set_cons_zero, List.set_cons_succ, i64_w, i32_w]
          rfl
        refine take_ (i := 2) (N := some 46) (v := ?_) (a' := ?_) #[true, true, true, true, true, false, false, false, false] rfl rfl (by kernel_rfl) (fun _ _ _ h => h) (Or.inl ⟨by rfl, ?_⟩) hHeld ?_ ?_
        rotate_left
        · rintro w' hS'
          have s0 := hS'
          go_simp
          with_reducible rfl
        rotate_left
        · simp only [Act.put, List.setIfInBounds_toArray, List.set_cons_zero, List.set_cons_succ, i64_w, i32_w]
          rfl
        refine take_ (i := 5) (N := some 49) (v := ?_) (a' := ?_) #[true, true, true, true, true, true, false, false, false] rfl rfl (by kernel_rfl) (fun _ _ _ h => h) (Or.inl ⟨by rfl, ?_⟩) hHeld ?_ ?_
        rotate_left
        · rintro w' hS'
          have s0 := hS'
          go_simp
          with_reducible rfl
        rotate_left
        · simp only [Act.put, List.setIfInBounds_toArray, List.set_cons_zero, List.set_cons_succ, i64_w, i32_w]
          rfl
        refine one_ (i := 6) (N := some 50) #[true, true, true, true, true, true, true, false, false] rfl rfl (by kernel_rfl) (by decide) (fun K hK => ?_)
        obtain ⟨t4021, HA4029, H⟩ := bind_some H
        refine goes_ Tryz.func44 (by kernel_rfl) rfl #[.pointer (some ⟨g3874, 0, none⟩), .int .i64 t3985.2.2.1] (by rfl) rfl rfl (by (try simp only [List.map_toArray, List.map_cons, List.map_nil]); first | done | rfl) ?_
        refine (ground_Ground_Reg.calls t4011.2.2 t4011.2.1 a3884 a3885 a3886 a3887 t3985.2.2.1 g3874 g3876 A3879 l3878.length n3881 t4021 _ ⟨HGl0.out.pass HS.out⟩ ⟨HS.out.begin⟩ HA4029).mono ?_
        rintro e_ w4030 ⟨rfl, hS⟩
        replace HS : Aside0 (Sep FF w [b14 g3874 g3876 a3884 a3885 a3886 a3887, b13 g3876 A3879 l3878.length n3881 t4021.2, r7 A3879 l3878.length n3881 t4011.2.2, b15 g3988 t3985.1 t3985.2.1 t3985.2.2.1] w4030) := ⟨HS.out.call hS⟩
        clear hS
        refine ⟨_, rfl, ?_⟩
        refine hK.out _ _ (blk_cellv (HS.out.at3) 2 rfl) (fun hHeld => ?_)
        clear hK K
        refine norm_ (a' := ?_) ?_ ?_
        rotate_left
        · show Act.put _ (some 50) _ = _
          simp only [Act.put, List.setIfInBounds_toArray, List.set_cons_zero, List.set_cons_succ, i64_w, i32_w]
          rfl
        refine pure_ (i := 7) (N := some 51) (v := ?_) (a' := ?_) #[true, true, true, true, true, true, true, true, false] rfl rfl (by kernel_rfl) (fun _ _ _ h => h) (Or.inl ⟨by rfl, ?_⟩) ?_ ?_
        rotate_left
        · intro w'
          go_simp
          with_reducible rfl
        rotate_left
        · simp only [Act.put, List.setIfInBounds_toArray, List.set_cons_zero, List.set_cons_succ, i64_w, i32_w]
          rfl
        refine one_ (i := 8) (N := some 52) #[true, true, true, true, true, true, true, true, true] rfl rfl (by kernel_rfl) (by decide) (fun K hK => ?_)
        obtain ⟨t4024, HA4031, H⟩ := bind_some H
        refine goes_ Tryz.func43 (by kernel_rfl) rfl #[.pointer (some ⟨g3874, 0, none⟩), .int .i64 t3985.2.2.1, .int .i64 (wrap64 (t4021.1 - 1))] (by rfl) rfl rfl (by (try simp only [List.map_toArray, List.map_cons, List.map_nil]); first | done | rfl) ?_
        refine (ground_Ground_SetReg.calls t4011.2.2 t4021.2 a3884 a3885 a3886 a3887 t3985.2.2.1 (wrap64 (t4021.1 - 1)) g3874 g3876 A3879 l3878.length n3881 t4024 _ ⟨HGl0.out.pass HS.out⟩ ⟨HS.out.begin⟩ HA4031).mono ?_
        rintro e_ w4032 ⟨rfl, hS⟩
        replace HS : Aside0 (Sep FF w [b14 g3874 g3876 a3884 a3885 a3886 a3887, b13 g3876 A3879 l3878.length n3881 t4024.2.1, r7 A3879 l3878.length n3881 t4024.2.2, b15 g3988 t3985.1 t3985.2.1 t3985.2.2.1] w4032) := ⟨HS.out.call hS⟩
        clear hS
        refine ⟨_, rfl, ?_⟩
        refine hK.out _ _ (blk_cellv (HS.out.at3) 2 rfl) (fun hHeld => ?_)
        clear hK K
        refine norm_ (a' := ?_) ?_ ?_
        rotate_left
        · show Act.put _ (some 52) _ = _
          simp only [Act.put, List.setIfInBounds_toArray, List.set_cons_zero, List.set_cons_succ, i64_w, i32_w]
          rfl
        refine done_ (by kernel_rfl) ?_
        replace HS : Aside0 (Sep FF w [b14 g3874 g3876 a3884 a3885 a3886 a3887, b13 g3876 A3879 l3878.length n3881 t4024.2.1, r7 A3879 l3878.length n3881 t4024.2.2] w4032) := ⟨HS.out.sub (.cons_cons _ (.cons_cons _ (.cons_cons _ (.cons _ .slnil))))⟩
        go_wp2_with fail
        go_ret2
        rw [← some_eq H]
        exact ⟨(by first | rfl | (simp [IntKind.wrap_u32]; done)), HS.out⟩
  · have H := if_no c3998 H
    have c3998b0 : t3985.2.2.2 = false := by simpa using c3998
    have c3998b1 : (!t3985.2.2.2) = true := by rw [c3998b0]; rfl
    try rw [c3998b1]
    clear c3998
    go_wp2_with (first | ((with_reducible refine gate_dst (N := 6) rfl ?_); refine box_on ?hg (N := 6) ?hd (cs := #[.int .i64 0, .int .i64 0, .int .i64 0]) (t := 165) ?hr ?_; (case hd => rfl); (case hg => rfl); (case hr => first | (go_simp; done) | (go_simp; rfl)); intro g3988 hg w3989 hbox hb; replace HS : Aside0 (Sep FF w [b14 g3874 g3876 a3884 a3885 a3886 a3887, b13 g3876 A3879 l3878.length n3881 a3883, r7 A3879 l3878.length n3881 l3878, b15 g3988 0 0 0] w3989) := ⟨HS.out.box hg hbox hb⟩; clear hg hbox hb; have hc3991 : w3989.cell? ⟨g3988, 0, none⟩ = some (.int .i64 0) := blk_cellv (HS.out.at3) 0 rfl; have hz3992 : w3989.frozen? ⟨g3988, 0, none⟩ = false := blk_fz (HS.out.at3) 0; have hc3993 : w3989.cell? ⟨g3988, 1, none⟩ = some (.int .i64 0) := blk_cellv (HS.out.at3) 1 rfl; have hz3994 : w3989.frozen? ⟨g3988, 1, none⟩ = false := blk_fz (HS.out.at3) 1; have hc3995 : w3989.cell? ⟨g3988, 2, none⟩ = some (.int .i64 0) := blk_cellv (HS.out.at3) 2 rfl; have hz3996 : w3989.frozen? ⟨g3988, 2, none⟩ = false := blk_fz (HS.out.at3) 2) | ((with_reducible refine gate_store (t := 165) (p := 6) rfl ?_); refine store_event (w1 := (World.setCell (World.setCell (World.setCell w3989 ⟨g3988, 0, none⟩ (.int .i64 t3985.1)) ⟨g3988, 1, none⟩ (.int .i64 t3985.2.1)) ⟨g3988, 2, none⟩ (.int .i64 t3985.2.2.1))) rfl (t := 165) (p := 6) rfl rfl ?hr ?_; (case hr => first | (go_simp; done) | (go_simp; rfl)); intro w3997 hst; clear hc3991 hz3992 hc3993 hz3994 hc3995 hz3996; replace HS : Aside0 (Sep FF w [b14 g3874 g3876 a3884 a3885 a3886 a3887, b13 g3876 A3879 l3878.length n3881 a3883, r7 A3879 l3878.length n3881 l3878, b15 g3988 t3985.1 t3985.2.1 t3985.2.2.1] w3997) := ⟨by rw [hst]; exact HS.out.setAll (l1 := [b14 g3874 g3876 a3884 a3885 a3886 a3887, b13 g3876 A3879 l3878.length n3881 a3883, r7 A3879 l3878.length n3881 l3878]) (l2 := []) [.int .i64 t3985.1, .int .i64 t3985.2.1, .int .i64 t3985.2.2.1] rfl⟩; clear hst; replace HS : Aside0 (Sep FF w [b14 g3874 g3876 a3884 a3885 a3886 a3887, b13 g3876 A3879 l3878.length n3881 a3883, r7 A3879 l3878.length n3881 l3878] w3997) := ⟨HS.out.sub (.cons_cons _ (.cons_cons _ (.cons_cons _ (.cons _ .slnil))))⟩))
    go_ret2
    rw [← some_eq H]
    exact ⟨(by first | rfl | (simp [IntKind.wrap_u32]; done)), HS.out⟩

set_option maxHeartbeats 30000000 in
set_option maxRecDepth 100000 in
theorem ground_Ground_Wipe.calls (k : Nat) (l4042 : List Int) (a4047 : Int) (a4048 : Int) (a4049 : Int) (a4050 : Int) (a4051 : Int) (a4052 : Int) (g4038 : Nat) (g4040 : Nat) (A4043 : Option Addr) (m4044 : Nat) (n4045 : Nat) (r : Int × Int × List Int) (w : World)  (HGl0 : Aside0 (Gl 0 #[.int .i64 0, .int .i64 0, .int .i64 0, .int .i64 0, .int .i64 0] (fps [b14 g4038 g4040 a4048 a4049 a4050 a4051, b13 g4040 A4043 m4044 n4045 a4047, r7 A4043 m4044 n4045 l4042]) w)) (HS : Aside0 (Sep (fps [b14 g4038 g4040 a4048 a4049 a4050 a4051, b13 g4040 A4043 m4044 n4045 a4047, r7 A4043 m4044 n4045 l4042]) w [b14 g4038 g4040 a4048 a4049 a4050 a4051, b13 g4040 A4043 m4044 n4045 a4047, r7 A4043 m4044 n4045 l4042] w)) (H : Aside0 (ground_Ground_Wipe.f k l4042 a4047 a4048 a4049 a4050 a4051 a4052 = some r)) :
    Calls Tryz.prog 105 #[.pointer (some ⟨g4038, 0, none⟩), .int .i64 a4052] w fun e w' => e = .returned (.int .i64 r.1) ∧ Sep (fps [b14 g4038 g4040 a4048 a4049 a4050 a4051, b13 g4040 A4043 m4044 n4045 a4047, r7 A4043 m4044 n4045 l4042]) w [b14 g4038 g4040 a4048 a4049 a4050 a4051, b13 g4040 A4043 m4044 n4045 r.2.1, r7 A4043 m4044 n4045 r.2.2] w' := by
  generalize (fps [b14 g4038 g4040 a4048 a4049 a4050 a4051, b13 g4040 A4043 m4044 n4045 a4047, r7 A4043 m4044 n4045 l4042]) = FF at HS HGl0 ⊢
  obtain rfl := (row_len (HS.out.at2)).symm
  unfold ground_Ground_Wipe.f at H
  go_enter Tryz.func105, Tryz.ntmps105
  go_wp2_with fail
  obtain ⟨t4081, HA4082, H⟩ := bind_some H
  refine (ground_Ground_Conf.calls l4042 a4047 a4048 a4049 a4050 a4051 g4038 g4040 A4043 l4042.length n4045 t4081 _ ⟨HGl0.out.pass HS.out⟩ ⟨HS.out.begin⟩ HA4082).mono ?_
  rintro e_ w4083 ⟨rfl, hS⟩
  replace HS : Aside0 (Sep FF w [b14 g4038 g4040 a4048 a4049 a4050 a4051, b13 g4040 A4043 l4042.length n4045 a4047, r7 A4043 l4042.length n4045 l4042] w4083) := ⟨HS.out.call hS⟩
  clear hS
  have fl4084 : ∀ w, (Instr.field 29 (.agg #[.int .i64 t4081.1, .int .i64 t4081.2.1, .int .i64 t4081.2.2.1, .int .i64 t4081.2.2.2]) 1).run Tryz.prog w = .ok (.int .i64 t4081.2.1) w := fun _ => by kernel_rfl
  go_wp2_with fail
  clear fl4084
  obtain ⟨o4097, AL4098, H⟩ := bind_some H
  go_loopg [5, 10] k (fun kq v5 v10 wc => ∃ (x4101 : Int) (x4102 : Int) (x4103 : List Int) (x4104 : Int), v5 = .int .i64 x4101 ∧ v10 = .int .i64 x4102 ∧ Aside0 (ground_Ground_Wipe.lo0 kq a4048 a4049 a4050 a4051 a4052 t4081 x4101 x4102 x4103 x4104 = some o4097) ∧ Aside0 (Sep FF w [b14 g4038 g4040 a4048 a4049 a4050 a4051, b13 g4040 A4043 l4042.length n4045 x4104, r7 A4043 l4042.length n4045 x4103] wc))
  case atStart => exact ⟨(0), (0), (l4042), (a4047), (by first | rfl | (simp [IntKind.wrap_u32]; done)), (by first | rfl | (simp [IntKind.wrap_u32]; done)), AL4098, ⟨HS.out⟩⟩
  case round =>
    clear AL4098 HS
    obtain ⟨x4101, x4102, x4103, x4104, rfl, rfl, AL4098, HS⟩ := hrel
    obtain ⟨w4099, rfl⟩ : ∃ x : World, x = wr := ⟨_, rfl⟩
    cases gk with
    | zero => exact absurd AL4098.out (by simp [ground_Ground_Wipe.lo0])
    | succ k4100 =>
      have AL0 := AL4098.out
      rw [ground_Ground_Wipe.lo0] at AL0
      clear AL4098
      have AL4098 := Aside0.mk AL0
      clear AL0
      by_cases c4105 : x4102 < t4081.2.1
      · have AL4098 := if_yes c4105 AL4098
        have c4105b0 : decide (x4102 < t4081.2.1) = true := decide_eq_true c4105
        clear c4105
        go_wp2_with fail
        obtain ⟨t4093, HA4106, AL4098⟩ := bind_some AL4098
        refine (ground_Ground_SetWord.calls x4103 x4104 a4048 a4049 a4050 a4051 a4052 x4102 0 g4038 g4040 A4043 l4042.length n4045 t4093 _ ⟨HGl0.out.pass HS.out⟩ ⟨HS.out.begin⟩ HA4106).mono ?_
        rintro e_ w4107 ⟨rfl, hS⟩
        replace HS : Aside0 (Sep FF w [b14 g4038 g4040 a4048 a4049 a4050 a4051, b13 g4040 A4043 l4042.length n4045 t4093.2.1, r7 A4043 l4042.length n4045 t4093.2.2] w4107) := ⟨HS.out.call hS⟩
        clear hS
        by_cases c4108 : t4093.1 = true
        · have AL4098 := if_yes c4108 AL4098
          have c4108b0 : t4093.1 = true := c4108
          have c4108b1 : (!t4093.1) = false := by rw [c4108b0]; rfl
          clear c4108
          go_wp2_with fail
          go_roundg k4100
          case measure => exact Nat.lt_succ_self _
          case rel => exact ⟨(wrap64 (x4101 + 1)), (wrap64 (x4102 + 1)), (t4093.2.2), (t4093.2.1), (by first | rfl | (simp [IntKind.wrap_u32]; done)), (by first | rfl | (simp [IntKind.wrap_u32]; done)), Aside0.mk AL4098.out, ⟨HS.out⟩⟩
        · have AL4098 := if_no c4108 AL4098
          have c4108b0 : t4093.1 = false := by simpa using c4108
          have c4108b1 : (!t4093.1) = true := by rw [c4108b0]; rfl
          clear c4108
          go_wp2_with fail
          go_roundg k4100
          case measure => exact Nat.lt_succ_self _
          case rel => exact ⟨(x4101), (wrap64 (x4102 + 1)), (t4093.2.2), (t4093.2.1), (by first | rfl | (simp [IntKind.wrap_u32]; done)), (by first | rfl | (simp [IntKind.wrap_u32]; done)), Aside0.mk AL4098.out, ⟨HS.out⟩⟩
      · have AL4098 := if_no c4105 AL4098
        have c4105b0 : decide (x4102 < t4081.2.1) = false := decide_eq_false c4105
        clear c4105
        have ho := some_eq AL4098
        subst ho
        clear AL4098
        go_wp2_with fail
        go_ret
        rw [← some_eq H]
        exact ⟨(by first | rfl | (simp [IntKind.wrap_u32]; done)), HS.out⟩

set_option maxHeartbeats 30000000 in
set_option maxRecDepth 100000 in
theorem pool_Take.calls (k : Nat) (l3863 : List Int) (a3868 : Int) (a3869 : Int) (a3870 : Int) (a3871 : Int) (a3872 : Int) (g3859 : Nat) (g3861 : Nat) (A3864 : Option Addr) (m3865 : Nat) (n3866 : Nat) (r : Int × Bool × Int × List Int) (w : World)  (HGl0 : Aside0 (Gl 0 #[.int .i64 0, .int .i64 0, .int .i64 0, .int .i64 0, .int .i64 0] (fps [b14 g3859 g3861 a3869 a3870 a3871 a3872, b13 g3861 A3864 m3865 n3866 a3868, r7 A3864 m3865 n3866 l3863]) w)) (HS : Aside0 (Sep (fps [b14 g3859 g3861 a3869 a3870 a3871 a3872, b13 g3861 A3864 m3865 n3866 a3868, r7 A3864 m3865 n3866 l3863]) w [b14 g3859 g3861 a3869 a3870 a3871 a3872, b13 g3861 A3864 m3865 n3866 a3868, r7 A3864 m3865 n3866 l3863] w)) (H : Aside0 (pool_Take.f k l3863 a3868 a3869 a3870 a3871 a3872 = some r)) :
    Calls Tryz.prog 48 #[.pointer (some ⟨g3859, 0, none⟩)] w fun e w' => e = .returned (.tuple #[.int .i64 r.1, .bool r.2.1]) ∧ Sep (fps [b14 g3859 g3861 a3869 a3870 a3871 a3872, b13 g3861 A3864 m3865 n3866 a3868, r7 A3864 m3865 n3866 l3863]) w [b14 g3859 g3861 a3869 a3870 a3871 a3872, b13 g3861 A3864 m3865 n3866 r.2.2.1, r7 A3864 m3865 n3866 r.2.2.2] w' := by
  generalize (fps [b14 g3859 g3861 a3869 a3870 a3871 a3872, b13 g3861 A3864 m3865 n3866 a3868, r7 A3864 m3865 n3866 l3863]) = FF at HS HGl0 ⊢
  obtain rfl := (row_len (HS.out.at2)).symm
  unfold pool_Take.f at H
  go_enter Tryz.func48, Tryz.ntmps48
  go_wp2_with fail
  obtain ⟨t4113, HA4114, H⟩ := bind_some H
  refine (chain_Take.calls l3863 a3868 a3869 a3870 a3871 a3872 0 g3859 g3861 A3864 l3863.length n3866 t4113 _ ⟨HGl0.out.pass HS.out⟩ ⟨HS.out.begin⟩ HA4114).mono ?_
  rintro e_ w4115 ⟨rfl, hS⟩
  replace HS : Aside0 (Sep FF w [b14 g3859 g3861 a3869 a3870 a3871 a3872, b13 g3861 A3864 l3863.length n3866 t4113.2.2.1, r7 A3864 l3863.length n3866 t4113.2.2.2] w4115) := ⟨HS.out.call hS⟩
  clear hS
  by_cases c4116 : t4113.2.1 = true
  · have H := if_yes c4116 H
    have c4116b0 : t4113.2.1 = true := c4116
    have c4116b1 : (!t4113.2.1) = false := by rw [c4116b0]; rfl
    try rw [c4116b1]
    clear c4116
    go_wp2_with fail
    obtain ⟨t4117, HA4118, H⟩ := bind_some H
    refine (ground_Ground_Wipe.calls _ t4113.2.2.2 t4113.2.2.1 a3869 a3870 a3871 a3872 t4113.1 g3859 g3861 A3864 l3863.length n3866 t4117 _ ⟨HGl0.out.pass HS.out⟩ ⟨HS.out.begin⟩ HA4118).mono ?_
    rintro e_ w4119 ⟨rfl, hS⟩
    replace HS : Aside0 (Sep FF w [b14 g3859 g3861 a3869 a3870 a3871 a3872, b13 g3861 A3864 l3863.length n3866 t4117.2.1, r7 A3864 l3863.length n3866 t4117.2.2] w4119) := ⟨HS.out.call hS⟩
    clear hS
    go_wp2_with fail
    go_ret2
    rw [← some_eq H]
    exact ⟨(by first | rfl | (simp [IntKind.wrap_u32]; done)), HS.out⟩
  · have H := if_no c4116 H
    have c4116b0 : t4113.2.1 = false := by simpa using c4116
    have c4116b1 : (!t4113.2.1) = true := by rw [c4116b0]; rfl
    try rw [c4116b1]
    clear c4116
    go_wp2_with fail
    go_ret2
    rw [← some_eq H]
    exact ⟨(by first | rfl | (simp [IntKind.wrap_u32]; done)), HS.out⟩

set_option maxHeartbeats 30000000 in
set_option maxRecDepth 100000 in
theorem obj_mark.calls (k : Nat) (l4129 : List Int) (a4134 : Int) (a4135 : Int) (a4136 : Int) (a4137 : Int) (a4138 : Int) (a4139 : Int) (a4140 : Int) (a4141 : Int) (a4142 : Int) (a4143 : Int) (a4144 : Int) (a4145 : Int) (a4146 : Int) (g4125 : Nat) (g4127 : Nat) (A4130 : Option Addr) (m4131 : Nat) (n4132 : Nat) (r : Int × List Int) (w : World)  (HGl0 : Aside0 (Gl 0 #[.int .i64 0, .int .i64 0, .int .i64 0, .int .i64 0, .int .i64 0] (fps [b14 g4125 g4127 a4135 a4136 a4137 a4138, b13 g4127 A4130 m4131 n4132 a4134, r7 A4130 m4131 n4132 l4129]) w)) (HS : Aside0 (Sep (fps [b14 g4125 g4127 a4135 a4136 a4137 a4138, b13 g4127 A4130 m4131 n4132 a4134, r7 A4130 m4131 n4132 l4129]) w [b14 g4125 g4127 a4135 a4136 a4137 a4138, b13 g4127 A4130 m4131 n4132 a4134, r7 A4130 m4131 n4132 l4129] w)) (H : Aside0 (obj_mark.f k l4129 a4134 a4135 a4136 a4137 a4138 a4139 a4140 a4141 a4142 a4143 a4144 a4145 a4146 = some r)) :
    Calls Tryz.prog 49 #[.pointer (some ⟨g4125, 0, none⟩), .int .i64 a4139, .agg #[.int .i64 a4140, .int .i64 a4141, .int .i64 a4142, .int .i64 a4143, .int .i64 a4144, .int .i64 a4145, .int .i64 a4146]] w fun e w' => e = .returned (.tuple #[]) ∧ Sep (fps [b14 g4125 g4127 a4135 a4136 a4137 a4138, b13 g4127 A4130 m4131 n4132 a4134, r7 A4130 m4131 n4132 l4129]) w [b14 g4125 g4127 a4135 a4136 a4137 a4138, b13 g4127 A4130 m4131 n4132 r.1, r7 A4130 m4131 n4132 r.2] w' := by
  generalize (fps [b14 g4125 g4127 a4135 a4136 a4137 a4138, b13 g4127 A4130 m4131 n4132 a4134, r7 A4130 m4131 n4132 l4129]) = FF at HS HGl0 ⊢
  obtain rfl := (row_len (HS.out.at2)).symm
  unfold obj_mark.f at H
  go_enter Tryz.func49, Tryz.ntmps49
  go_wp2_with (first | ((with_reducible refine gate_dst (N := 5) rfl ?_); refine box_on ?hg (N := 5) ?hd (cs := #[.int .i64 a4140, .int .i64 a4141, .int .i64 a4142, .int .i64 a4143, .int .i64 a4144, .int .i64 a4145, .int .i64 a4146]) (t := 79) ?hr ?_; (case hd => rfl); (case hg => rfl); (case hr => first | (go_simp; done) | (go_simp; rfl)); intro g4164 hg w4165 hbox hb; replace HS : Aside0 (Sep FF w [b14 g4125 g4127 a4135 a4136 a4137 a4138, b13 g4127 A4130 l4129.length n4132 a4134, r7 A4130 l4129.length n4132 l4129, b3 g4164 a4140 a4141 a4142 a4143 a4144 a4145 a4146] w4165) := ⟨HS.out.box hg hbox hb⟩; clear hg hbox hb; have hc4167 : w4165.cell? ⟨g4164, 0, none⟩ = some (.int .i64 a4140) := blk_cellv (HS.out.at3) 0 rfl; have hc4168 : w4165.cell? ⟨g4164, 1, none⟩ = some (.int .i64 a4141) := blk_cellv (HS.out.at3) 1 rfl; have hc4169 : w4165.cell? ⟨g4164, 2, none⟩ = some (.int .i64 a4142) := blk_cellv (HS.out.at3) 2 rfl; have hc4170 : w4165.cell? ⟨g4164, 3, none⟩ = some (.int .i64 a4143) := blk_cellv (HS.out.at3) 3 rfl; have hc4171 : w4165.cell? ⟨g4164, 4, none⟩ = some (.int .i64 a4144) := blk_cellv (HS.out.at3) 4 rfl; have hc4172 : w4165.cell? ⟨g4164, 5, none⟩ = some (.int .i64 a4145) := blk_cellv (HS.out.at3) 5 rfl; have hc4173 : w4165.cell? ⟨g4164, 6, none⟩ = some (.int .i64 a4146) := blk_cellv (HS.out.at3) 6 rfl))
  clear hc4167 hc4168 hc4169 hc4170 hc4171 hc4172 hc4173
  obtain ⟨t4174, HA4175, H⟩ := bind_some H
  refine (tag_Pack.calls _ a4140 a4141 a4142 a4143 a4144 a4145 a4146 t4174 _ ⟨HGl0.out.pass (l := []) HS.out⟩ ⟨Sep.start _⟩ HA4175).mono ?_
  rintro e_ w4176 ⟨rfl, hS⟩
  replace HS : Aside0 (Sep FF w [b14 g4125 g4127 a4135 a4136 a4137 a4138, b13 g4127 A4130 l4129.length n4132 a4134, r7 A4130 l4129.length n4132 l4129, b3 g4164 a4140 a4141 a4142 a4143 a4144 a4145 a4146] w4176) := ⟨HS.out.call hS⟩
  clear hS
  by_cases c4177 : t4174.2 = 0
  · have H := if_yes c4177 H
    have c4177b0 : (t4174.2 == 0) = true := beq_iff_eq.mpr c4177
    have c4177b1 : (t4174.2 != 0) = false := bne_eq_false_iff_eq.mpr c4177
    clear c4177
    replace HS : Aside0 (Sep FF w [b14 g4125 g4127 a4135 a4136 a4137 a4138, b13 g4127 A4130 l4129.length n4132 a4134, r7 A4130 l4129.length n4132 l4129] w4176) := ⟨HS.out.sub (.cons_cons _ (.cons_cons _ (.cons_cons _ (.cons _ .slnil))))⟩
    go_wp2_with fail
    obtain ⟨t4178, HA4179, H⟩ := bind_some H
    refine (ground_Ground_SetWord.calls l4129 a4134 a4135 a4136 a4137 a4138 a4139 0 t4174.1 g4125 g4127 A4130 l4129.length n4132 t4178 _ ⟨HGl0.out.pass HS.out⟩ ⟨HS.out.begin⟩ HA4179).mono ?_
    rintro e_ w4180 ⟨rfl, hS⟩
    replace HS : Aside0 (Sep FF w [b14 g4125 g4127 a4135 a4136 a4137 a4138, b13 g4127 A4130 l4129.length n4132 t4178.2.1, r7 A4130 l4129.length n4132 t4178.2.2] w4180) := ⟨HS.out.call hS⟩
    clear hS
    go_wp2_with fail
    first | go_end0 | refine bodyPost_ret (results_none rfl _ _ _) rfl ?_
    rw [← some_eq H]
    exact ⟨rfl, HS.out⟩
  · have H := if_no c4177 H
    have c4177b0 : (t4174.2 == 0) = false := beq_eq_false_iff_ne.mpr c4177
    have c4177b1 : (t4174.2 != 0) = true := bne_iff_ne.mpr c4177
    clear c4177
    replace HS : Aside0 (Sep FF w [b14 g4125 g4127 a4135 a4136 a4137 a4138, b13 g4127 A4130 l4129.length n4132 a4134, r7 A4130 l4129.length n4132 l4129] w4176) := ⟨HS.out.sub (.cons_cons _ (.cons_cons _ (.cons_cons _ (.cons _ .slnil))))⟩
    go_wp2_with fail
    first | go_end0 | refine bodyPost_ret (results_none rfl _ _ _) rfl ?_
    rw [← some_eq H]
    exact ⟨rfl, HS.out⟩

set_option maxHeartbeats 30000000 in
set_option maxRecDepth 100000 in
theorem obj_Make.calls (k : Nat) (l3801 : List Int) (a3806 : Int) (a3807 : Int) (a3808 : Int) (a3809 : Int) (a3810 : Int) (a3811 : Int) (a3812 : Int) (g3797 : Nat) (g3799 : Nat) (A3802 : Option Addr) (m3803 : Nat) (n3804 : Nat) (r : Int × Int × Int × List Int) (w : World)  (HGl0 : Aside0 (Gl 0 #[.int .i64 0, .int .i64 0, .int .i64 0, .int .i64 0, .int .i64 0] (fps [b14 g3797 g3799 a3807 a3808 a3809 a3810, b13 g3799 A3802 m3803 n3804 a3806, r7 A3802 m3803 n3804 l3801]) w)) (HS : Aside0 (Sep (fps [b14 g3797 g3799 a3807 a3808 a3809 a3810, b13 g3799 A3802 m3803 n3804 a3806, r7 A3802 m3803 n3804 l3801]) w [b14 g3797 g3799 a3807 a3808 a3809 a3810, b13 g3799 A3802 m3803 n3804 a3806, r7 A3802 m3803 n3804 l3801] w)) (H : Aside0 (obj_Make.f k l3801 a3806 a3807 a3808 a3809 a3810 a3811 a3812 = some r)) :
    Calls Tryz.prog 11 #[.pointer (some ⟨g3797, 0, none⟩), .int .i64 a3811, .int .i64 a3812] w fun e w' => e = .returned (.tuple #[.int .i64 r.1, .int .i64 r.2.1]) ∧ Sep (fps [b14 g3797 g3799 a3807 a3808 a3809 a3810, b13 g3799 A3802 m3803 n3804 a3806, r7 A3802 m3803 n3804 l3801]) w [b14 g3797 g3799 a3807 a3808 a3809 a3810, b13 g3799 A3802 m3803 n3804 r.2.2.1, r7 A3802 m3803 n3804 r.2.2.2] w' := by
  generalize (fps [b14 g3797 g3799 a3807 a3808 a3809 a3810, b13 g3799 A3802 m3803 n3804 a3806, r7 A3802 m3803 n3804 l3801]) = FF at HS HGl0 ⊢
  obtain rfl := (row_len (HS.out.at2)).symm
  unfold obj_Make.f at H
  go_enter Tryz.func11, Tryz.ntmps11
  go_wp2_with fail
  obtain ⟨t4220, HA4221, H⟩ := bind_some H
  refine (ground_Ground_Conf.calls l3801 a3806 a3807 a3808 a3809 a3810 g3797 g3799 A3802 l3801.length n3804 t4220 _ ⟨HGl0.out.pass HS.out⟩ ⟨HS.out.begin⟩ HA4221).mono ?_
  rintro e_ w4222 ⟨rfl, hS⟩
  replace HS : Aside0 (Sep FF w [b14 g3797 g3799 a3807 a3808 a3809 a3810, b13 g3799 A3802 l3801.length n3804 a3806, r7 A3802 l3801.length n3804 l3801] w4222) := ⟨HS.out.call hS⟩
  clear hS
  have fl4223 : ∀ w, (Instr.field 29 (.agg #[.int .i64 t4220.1, .int .i64 t4220.2.1, .int .i64 t4220.2.2.1, .int .i64 t4220.2.2.2]) 1).run Tryz.prog w = .ok (.int .i64 t4220.2.1) w := fun _ => by kernel_rfl
  go_wp2_with fail
  clear fl4223
  obtain ⟨t4224, HA4225, H⟩ := bind_some H
  refine (shape_Blocks.calls _ t4220.2.1 a3811 a3812 t4224 _ ⟨HGl0.out.pass (l := []) HS.out⟩ ⟨Sep.start _⟩ HA4225).mono ?_
  rintro e_ w4226 ⟨rfl, hS⟩
  replace HS : Aside0 (Sep FF w [b14 g3797 g3799 a3807 a3808 a3809 a3810, b13 g3799 A3802 l3801.length n3804 a3806, r7 A3802 l3801.length n3804 l3801] w4226) := ⟨HS.out.call hS⟩
  clear hS
  by_cases c4227 : t4224.2 = 0
  · have H := if_yes c4227 H
    have c4227b0 : (t4224.2 == 0) = true := beq_iff_eq.mpr c4227
    have c4227b1 : (t4224.2 != 0) = false := bne_eq_false_iff_eq.mpr c4227
    clear c4227
    go_wp2_with fail
    obtain ⟨t4228, HA4229, H⟩ := bind_some H
    refine (pool_Len.calls l3801 a3806 a3807 a3808 a3809 a3810 g3797 g3799 A3802 l3801.length n3804 t4228 _ ⟨HGl0.out.pass HS.out⟩ ⟨HS.out.begin⟩ HA4229).mono ?_
    rintro e_ w4230 ⟨rfl, hS⟩
    replace HS : Aside0 (Sep FF w [b14 g3797 g3799 a3807 a3808 a3809 a3810, b13 g3799 A3802 l3801.length n3804 t4228.2, r7 A3802 l3801.length n3804 l3801] w4230) := ⟨HS.out.call hS⟩
    clear hS
    by_cases c4231 : t4228.1 < t4224.1
    · have H := if_yes c4231 H
      have c4231b0 : decide (t4228.1 < t4224.1) = true := decide_eq_true c4231
      clear c4231
      go_wp2_with fail
      go_ret2
      rw [← some_eq H]
      exact ⟨(by first | rfl | (simp [IntKind.wrap_u32]; done)), HS.out⟩
    · have H := if_no c4231 H
      have c4231b0 : decide (t4228.1 < t4224.1) = false := decide_eq_false c4231
      clear c4231
      go_wp2_with fail
      obtain ⟨t4232, HA4233, H⟩ := bind_some H
      refine (pool_Take.calls _ l3801 t4228.2 a3807 a3808 a3809 a3810 g3797 g3799 A3802 l3801.length n3804 t4232 _ ⟨HGl0.out.pass HS.out⟩ ⟨HS.out.begin⟩ HA4233).mono ?_
      rintro e_ w4234 ⟨rfl, hS⟩
      replace HS : Aside0 (Sep FF w [b14 g3797 g3799 a3807 a3808 a3809 a3810, b13 g3799 A3802 l3801.length n3804 t4232.2.2.1, r7 A3802 l3801.length n3804 t4232.2.2.2] w4234) := ⟨HS.out.call hS⟩
      clear hS
      by_cases c4235 : t4224.1 > 1
      · have H := if_yes c4235 H
        have c4235b0 : decide (1 < t4224.1) = true := decide_eq_true c4235
        clear c4235
        go_wp2_with fail
        obtain ⟨t4236, HA4237, H⟩ := bind_some H
        refine (obj_mark.calls _ t4232.2.2.2 t4232.2.2.1 a3807 a3808 a3809 a3810 t4232.1 2 0 0 0 0 0 0 g3797 g3799 A3802 l3801.length n3804 t4236 _ ⟨HGl0.out.pass HS.out⟩ ⟨HS.out.begin⟩ HA4237).mono ?_
        rintro e_ w4238 ⟨rfl, hS⟩
        replace HS : Aside0 (Sep FF w [b14 g3797 g3799 a3807 a3808 a3809 a3810, b13 g3799 A3802 l3801.length n3804 t4236.1, r7 A3802 l3801.length n3804 t4236.2] w4238) := ⟨HS.out.call hS⟩
        clear hS
        go_wp2_with fail
        obtain ⟨t4239, HA4240, H⟩ := bind_some H
        refine (ground_Ground_SetWord.calls t4236.2 t4236.1 a3807 a3808 a3809 a3810 t4232.1 1 ((a3811) % 4294967296) g3797 g3799 A3802 l3801.length n3804 t4239 _ ⟨HGl0.out.pass HS.out⟩ ⟨HS.out.begin⟩ HA4240).mono ?_
        rintro e_ w4241 ⟨rfl, hS⟩
        replace HS : Aside0 (Sep FF w [b14 g3797 g3799 a3807 a3808 a3809 a3810, b13 g3799 A3802 l3801.length n3804 t4239.2.1, r7 A3802 l3801.length n3804 t4239.2.2] w4241) := ⟨HS.out.call hS⟩
        clear hS
        go_wp2_with fail
        obtain ⟨t4242, HA4243, H⟩ := bind_some H
        refine (ground_Ground_SetWord.calls t4239.2.2 t4239.2.1 a3807 a3808 a3809 a3810 t4232.1 2 ((a3812) % 4294967296) g3797 g3799 A3802 l3801.length n3804 t4242 _ ⟨HGl0.out.pass HS.out⟩ ⟨HS.out.begin⟩ HA4243).mono ?_
        rintro e_ w4244 ⟨rfl, hS⟩
        replace HS : Aside0 (Sep FF w [b14 g3797 g3799 a3807 a3808 a3809 a3810, b13 g3799 A3802 l3801.length n3804 t4242.2.1, r7 A3802 l3801.length n3804 t4242.2.2] w4244) := ⟨HS.out.call hS⟩
        clear hS
        go_wp2_with fail
        obtain ⟨o4261, AL4262, H⟩ := bind_some H
        go_loopg [56] k (fun kq v56 wc => ∃ (x4265 : Int) (x4266 : List Int) (x4267 : Int), v56 = .int .i64 x4265 ∧ Aside0 (obj_Make.lo0 kq a3807 a3808 a3809 a3810 t4224 t4232 x4265 x4266 x4267 = some o4261) ∧ Aside0 (Sep FF w [b14 g3797 g3799 a3807 a3808 a3809 a3810, b13 g3799 A3802 l3801.length n3804 x4267, r7 A3802 l3801.length n3804 x4266] wc))
        case atStart => exact ⟨(0), (t4242.2.2), (t4242.2.1), (by first | rfl | (simp [IntKind.wrap_u32]; done)), AL4262, ⟨HS.out⟩⟩
        case round =>
          clear AL4262 HS
          obtain ⟨x4265, x4266, x4267, rfl, AL4262, HS⟩ := hrel
          obtain ⟨w4263, rfl⟩ : ∃ x : World, x = wr := ⟨_, rfl⟩
          cases gk with
          | zero => exact absurd AL4262.out (by simp [obj_Make.lo0])
          | succ k4264 =>
            have AL0 := AL4262.out
            rw [obj_Make.lo0] at AL0
            clear AL4262
            have AL4262 := Aside0.mk AL0
            clear AL0
            by_cases c4268 : x4265 < (wrap64 (t4224.1 - 1))
            · have AL4262 := if_yes c4268 AL4262
              have c4268b0 : decide (x4265 < (wrap64 (t4224.1 - 1))) = true := decide_eq_true c4268
              clear c4268
              go_wp2_with fail
              obtain ⟨t4252, HA4269, AL4262⟩ := bind_some AL4262
              refine (pool_Take.calls _ x4266 x4267 a3807 a3808 a3809 a3810 g3797 g3799 A3802 l3801.length n3804 t4252 _ ⟨HGl0.out.pass HS.out⟩ ⟨HS.out.begin⟩ HA4269).mono ?_
              rintro e_ w4270 ⟨rfl, hS⟩
              replace HS : Aside0 (Sep FF w [b14 g3797 g3799 a3807 a3808 a3809 a3810, b13 g3799 A3802 l3801.length n3804 t4252.2.2.1, r7 A3802 l3801.length n3804 t4252.2.2.2] w4270) := ⟨HS.out.call hS⟩
              clear hS
              go_wp2_with fail
              obtain ⟨t4255, HA4271, AL4262⟩ := bind_some AL4262
              refine (obj_mark.calls _ t4252.2.2.2 t4252.2.2.1 a3807 a3808 a3809 a3810 t4252.1 3 0 0 0 0 0 t4232.1 g3797 g3799 A3802 l3801.length n3804 t4255 _ ⟨HGl0.out.pass HS.out⟩ ⟨HS.out.begin⟩ HA4271).mono ?_
              rintro e_ w4272 ⟨rfl, hS⟩
              replace HS : Aside0 (Sep FF w [b14 g3797 g3799 a3807 a3808 a3809 a3810, b13 g3799 A3802 l3801.length n3804 t4255.1, r7 A3802 l3801.length n3804 t4255.2] w4272) := ⟨HS.out.call hS⟩
              clear hS
              go_wp2_with fail
              obtain ⟨t4258, HA4273, AL4262⟩ := bind_some AL4262
              refine (ground_Ground_SetWord.calls t4255.2 t4255.1 a3807 a3808 a3809 a3810 t4232.1 (wrap64 (8 + x4265)) ((wrap64 (t4252.1 + 1)) % 4294967296) g3797 g3799 A3802 l3801.length n3804 t4258 _ ⟨HGl0.out.pass HS.out⟩ ⟨HS.out.begin⟩ HA4273).mono ?_
              rintro e_ w4274 ⟨rfl, hS⟩
              replace HS : Aside0 (Sep FF w [b14 g3797 g3799 a3807 a3808 a3809 a3810, b13 g3799 A3802 l3801.length n3804 t4258.2.1, r7 A3802 l3801.length n3804 t4258.2.2] w4274) := ⟨HS.out.call hS⟩
              clear hS
              go_wp2_with fail
              go_roundg k4264
              case measure => exact Nat.lt_succ_self _
              case rel => exact ⟨(wrap64 (x4265 + 1)), (t4258.2.2), (t4258.2.1), (by first | rfl | (simp [IntKind.wrap_u32]; done)), Aside0.mk AL4262.out, ⟨HS.out⟩⟩
            · have AL4262 := if_no c4268 AL4262
              have c4268b0 : decide (x4265 < (wrap64 (t4224.1 - 1))) = false := decide_eq_false c4268
              clear c4268
              have ho := some_eq AL4262
              subst ho
              clear AL4262
              go_wp2_with fail
              go_ret2
              rw [← some_eq H]
              exact ⟨(by first | rfl | (simp [IntKind.wrap_u32]; done)), HS.out⟩
      · have H := if_no c4235 H
        have c4235b0 : decide (1 < t4224.1) = false := decide_eq_false c4235
        clear c4235
        go_wp2_with fail
        obtain ⟨t4236, HA4276, H⟩ := bind_some H
        refine (obj_mark.calls _ t4232.2.2.2 t4232.2.2.1 a3807 a3808 a3809 a3810 t4232.1 1 0 0 0 0 0 0 g3797 g3799 A3802 l3801.length n3804 t4236 _ ⟨HGl0.out.pass HS.out⟩ ⟨HS.out.begin⟩ HA4276).mono ?_
        rintro e_ w4277 ⟨rfl, hS⟩
        replace HS : Aside0 (Sep FF w [b14 g3797 g3799 a3807 a3808 a3809 a3810, b13 g3799 A3802 l3801.length n3804 t4236.1, r7 A3802 l3801.length n3804 t4236.2] w4277) := ⟨HS.out.call hS⟩
        clear hS
        go_wp2_with fail
        obtain ⟨t4239, HA4278, H⟩ := bind_some H
        refine (ground_Ground_SetWord.calls t4236.2 t4236.1 a3807 a3808 a3809 a3810 t4232.1 1 ((a3811) % 4294967296) g3797 g3799 A3802 l3801.length n3804 t4239 _ ⟨HGl0.out.pass HS.out⟩ ⟨HS.out.begin⟩ HA4278).mono ?_
        rintro e_ w4279 ⟨rfl, hS⟩
        replace HS : Aside0 (Sep FF w [b14 g3797 g3799 a3807 a3808 a3809 a3810, b13 g3799 A3802 l3801.length n3804 t4239.2.1, r7 A3802 l3801.length n3804 t4239.2.2] w4279) := ⟨HS.out.call hS⟩
        clear hS
        go_wp2_with fail
        obtain ⟨t4242, HA4280, H⟩ := bind_some H
        refine (ground_Ground_SetWord.calls t4239.2.2 t4239.2.1 a3807 a3808 a3809 a3810 t4232.1 2 ((a3812) % 4294967296) g3797 g3799 A3802 l3801.length n3804 t4242 _ ⟨HGl0.out.pass HS.out⟩ ⟨HS.out.begin⟩ HA4280).mono ?_
        rintro e_ w4281 ⟨rfl, hS⟩
        replace HS : Aside0 (Sep FF w [b14 g3797 g3799 a3807 a3808 a3809 a3810, b13 g3799 A3802 l3801.length n3804 t4242.2.1, r7 A3802 l3801.length n3804 t4242.2.2] w4281) := ⟨HS.out.call hS⟩
        clear hS
        go_wp2_with fail
        obtain ⟨o4295, AL4296, H⟩ := bind_some H
        go_loopg [56] k (fun kq v56 wc => ∃ (x4299 : Int) (x4300 : List Int) (x4301 : Int), v56 = .int .i64 x4299 ∧ Aside0 (obj_Make.lo1 kq a3807 a3808 a3809 a3810 t4224 t4232 x4299 x4300 x4301 = some o4295) ∧ Aside0 (Sep FF w [b14 g3797 g3799 a3807 a3808 a3809 a3810, b13 g3799 A3802 l3801.length n3804 x4301, r7 A3802 l3801.length n3804 x4300] wc))
        case atStart => exact ⟨(0), (t4242.2.2), (t4242.2.1), (by first | rfl | (simp [IntKind.wrap_u32]; done)), AL4296, ⟨HS.out⟩⟩
        case round =>
          clear AL4296 HS
          obtain ⟨x4299, x4300, x4301, rfl, AL4296, HS⟩ := hrel
          obtain ⟨w4297, rfl⟩ : ∃ x : World, x = wr := ⟨_, rfl⟩
          cases gk with
          | zero => exact absurd AL4296.out (by simp [obj_Make.lo1])
          | succ k4298 =>
            have AL0 := AL4296.out
            rw [obj_Make.lo1] at AL0
            clear AL4296
            have AL4296 := Aside0.mk AL0
            clear AL0
            by_cases c4302 : x4299 < (wrap64 (t4224.1 - 1))
            · have AL4296 := if_yes c4302 AL4296
              have c4302b0 : decide (x4299 < (wrap64 (t4224.1 - 1))) = true := decide_eq_true c4302
              clear c4302
              go_wp2_with fail
              obtain ⟨t4252, HA4303, AL4296⟩ := bind_some AL4296
              refine (pool_Take.calls _ x4300 x4301 a3807 a3808 a3809 a3810 g3797 g3799 A3802 l3801.length n3804 t4252 _ ⟨HGl0.out.pass HS.out⟩ ⟨HS.out.begin⟩ HA4303).mono ?_
              rintro e_ w4304 ⟨rfl, hS⟩
              replace HS : Aside0 (Sep FF w [b14 g3797 g3799 a3807 a3808 a3809 a3810, b13 g3799 A3802 l3801.length n3804 t4252.2.2.1, r7 A3802 l3801.length n3804 t4252.2.2.2] w4304) := ⟨HS.out.call hS⟩
              clear hS
              go_wp2_with fail
              obtain ⟨t4255, HA4305, AL4296⟩ := bind_some AL4296
              refine (obj_mark.calls _ t4252.2.2.2 t4252.2.2.1 a3807 a3808 a3809 a3810 t4252.1 3 0 0 0 0 0 t4232.1 g3797 g3799 A3802 l3801.length n3804 t4255 _ ⟨HGl0.out.pass HS.out⟩ ⟨HS.out.begin⟩ HA4305).mono ?_
              rintro e_ w4306 ⟨rfl, hS⟩
              replace HS : Aside0 (Sep FF w [b14 g3797 g3799 a3807 a3808 a3809 a3810, b13 g3799 A3802 l3801.length n3804 t4255.1, r7 A3802 l3801.length n3804 t4255.2] w4306) := ⟨HS.out.call hS⟩
              clear hS
              go_wp2_with fail
              obtain ⟨t4258, HA4307, AL4296⟩ := bind_some AL4296
              refine (ground_Ground_SetWord.calls t4255.2 t4255.1 a3807 a3808 a3809 a3810 t4232.1 (wrap64 (8 + x4299)) ((wrap64 (t4252.1 + 1)) % 4294967296) g3797 g3799 A3802 l3801.length n3804 t4258 _ ⟨HGl0.out.pass HS.out⟩ ⟨HS.out.begin⟩ HA4307).mono ?_
              rintro e_ w4308 ⟨rfl, hS⟩
              replace HS : Aside0 (Sep FF w [b14 g3797 g3799 a3807 a3808 a3809 a3810, b13 g3799 A3802 l3801.length n3804 t4258.2.1, r7 A3802 l3801.length n3804 t4258.2.2] w4308) := ⟨HS.out.call hS⟩
              clear hS
              go_wp2_with fail
              go_roundg k4298
              case measure => exact Nat.lt_succ_self _
              case rel => exact ⟨(wrap64 (x4299 + 1)), (t4258.2.2), (t4258.2.1), (by first | rfl | (simp [IntKind.wrap_u32]; done)), Aside0.mk AL4296.out, ⟨HS.out⟩⟩
            · have AL4296 := if_no c4302 AL4296
              have c4302b0 : decide (x4299 < (wrap64 (t4224.1 - 1))) = false := decide_eq_false c4302
              clear c4302
              have ho := some_eq AL4296
              subst ho
              clear AL4296
              go_wp2_with fail
              go_ret2
              rw [← some_eq H]
              exact ⟨(by first | rfl | (simp [IntKind.wrap_u32]; done)), HS.out⟩
  · have H := if_no c4227 H
    have c4227b0 : (t4224.2 == 0) = false := beq_eq_false_iff_ne.mpr c4227
    have c4227b1 : (t4224.2 != 0) = true := bne_iff_ne.mpr c4227
    clear c4227
    go_wp2_with fail
    go_ret2
    rw [← some_eq H]
    exact ⟨(by first | rfl | (simp [IntKind.wrap_u32]; done)), HS.out⟩

set_option maxHeartbeats 30000000 in
set_option maxRecDepth 100000 in
theorem tint_of.calls (l4363 : List Int) (a4368 : Int) (a4369 : Int) (a4370 : Int) (a4371 : Int) (a4372 : Int) (a4373 : Int) (g4359 : Nat) (g4361 : Nat) (A4364 : Option Addr) (m4365 : Nat) (n4366 : Nat) (r : Int × Int × Int × Int × Int × Int × Int × Bool × Int) (w : World)  (HGl0 : Aside0 (Gl 0 #[.int .i64 0, .int .i64 0, .int .i64 0, .int .i64 0, .int .i64 0] (fps [b14 g4359 g4361 a4369 a4370 a4371 a4372, b13 g4361 A4364 m4365 n4366 a4368, r7 A4364 m4365 n4366 l4363]) w)) (HS : Aside0 (Sep (fps [b14 g4359 g4361 a4369 a4370 a4371 a4372, b13 g4361 A4364 m4365 n4366 a4368, r7 A4364 m4365 n4366 l4363]) w [b14 g4359 g4361 a4369 a4370 a4371 a4372, b13 g4361 A4364 m4365 n4366 a4368, r7 A4364 m4365 n4366 l4363] w)) (H : Aside0 (tint_of.f l4363 a4368 a4369 a4370 a4371 a4372 a4373 = some r)) :
    Calls Tryz.prog 53 #[.pointer (some ⟨g4359, 0, none⟩), .int .i64 a4373] w fun e w' => e = .returned (.tuple #[.agg #[.int .i64 r.1, .int .i64 r.2.1, .int .i64 r.2.2.1, .int .i64 r.2.2.2.1, .int .i64 r.2.2.2.2.1, .int .i64 r.2.2.2.2.2.1, .int .i64 r.2.2.2.2.2.2.1], .bool r.2.2.2.2.2.2.2.1]) ∧ Sep (fps [b14 g4359 g4361 a4369 a4370 a4371 a4372, b13 g4361 A4364 m4365 n4366 a4368, r7 A4364 m4365 n4366 l4363]) w [b14 g4359 g4361 a4369 a4370 a4371 a4372, b13 g4361 A4364 m4365 n4366 r.2.2.2.2.2.2.2.2, r7 A4364 m4365 n4366 l4363] w' := by
  generalize (fps [b14 g4359 g4361 a4369 a4370 a4371 a4372, b13 g4361 A4364 m4365 n4366 a4368, r7 A4364 m4365 n4366 l4363]) = FF at HS HGl0 ⊢
  obtain rfl := (row_len (HS.out.at2)).symm
  unfold tint_of.f at H
  go_enter Tryz.func53, Tryz.ntmps53
  by_cases c4479 : a4373 < 1
  · have H := if_yes c4479 H
    have c4479b0 : decide (a4373 < 1) = true := decide_eq_true c4479
    clear c4479
    go_wp2_with (first | ((with_reducible refine gate_dst (N := 4) rfl ?_); refine box_on ?hg (N := 4) ?hd (cs := #[.int .i64 0, .int .i64 0, .int .i64 0, .int .i64 0, .int .i64 0, .int .i64 0, .int .i64 0]) (t := 79) ?hr ?_; (case hd => rfl); (case hg => rfl); (case hr => first | (go_simp; done) | (go_simp; rfl)); intro g4476 hg w4477 hbox hb; replace HS : Aside0 (Sep FF w [b14 g4359 g4361 a4369 a4370 a4371 a4372, b13 g4361 A4364 l4363.length n4366 a4368, r7 A4364 l4363.length n4366 l4363, b3 g4476 0 0 0 0 0 0 0] w4477) := ⟨HS.out.box hg hbox hb⟩; clear hg hbox hb; have hc4480 : w4477.cell? ⟨g4476, 0, none⟩ = some (.int .i64 0) := blk_cellv (HS.out.at3) 0 rfl; have hz4481 : w4477.frozen? ⟨g4476, 0, none⟩ = false := blk_fz (HS.out.at3) 0; have hc4482 : w4477.cell? ⟨g4476, 1, none⟩ = some (.int .i64 0) := blk_cellv (HS.out.at3) 1 rfl; have hz4483 : w4477.frozen? ⟨g4476, 1, none⟩ = false := blk_fz (HS.out.at3) 1; have hc4484 : w4477.cell? ⟨g4476, 2, none⟩ = some (.int .i64 0) := blk_cellv (HS.out.at3) 2 rfl; have hz4485 : w4477.frozen? ⟨g4476, 2, none⟩ = false := blk_fz (HS.out.at3) 2; have hc4486 : w4477.cell? ⟨g4476, 3, none⟩ = some (.int .i64 0) := blk_cellv (HS.out.at3) 3 rfl; have hz4487 : w4477.frozen? ⟨g4476, 3, none⟩ = false := blk_fz (HS.out.at3) 3; have hc4488 : w4477.cell? ⟨g4476, 4, none⟩ = some (.int .i64 0) := blk_cellv (HS.out.at3) 4 rfl; have hz4489 : w4477.frozen? ⟨g4476, 4, none⟩ = false := blk_fz (HS.out.at3) 4; have hc4490 : w4477.cell? ⟨g4476, 5, none⟩ = some (.int .i64 0) := blk_cellv (HS.out.at3) 5 rfl; have hz4491 : w4477.frozen? ⟨g4476, 5, none⟩ = false := blk_fz (HS.out.at3) 5; have hc4492 : w4477.cell? ⟨g4476, 6, none⟩ = some (.int .i64 0) := blk_cellv (HS.out.at3) 6 rfl; have hz4493 : w4477.frozen? ⟨g4476, 6, none⟩ = false := blk_fz (HS.out.at3) 6) | ((with_reducible refine gate_store (t := 79) (p := 4) rfl ?_); refine store_event (w1 := (World.setCell (World.setCell (World.setCell (World.setCell (World.setCell (World.setCell (World.setCell w4477 ⟨g4476, 0, none⟩ (.int .i64 0)) ⟨g4476, 1, none⟩ (.int .i64 0)) ⟨g4476, 2, none⟩ (.int .i64 0)) ⟨g4476, 3, none⟩ (.int .i64 0)) ⟨g4476, 4, none⟩ (.int .i64 0)) ⟨g4476, 5, none⟩ (.int .i64 0)) ⟨g4476, 6, none⟩ (.int .i64 0))) rfl (t := 79) (p := 4) rfl rfl ?hr ?_; (case hr => first | (go_simp; done) | (go_simp; rfl)); intro w4494 hst; clear hc4480 hz4481 hc4482 hz4483 hc4484 hz4485 hc4486 hz4487 hc4488 hz4489 hc4490 hz4491 hc4492 hz4493; replace HS : Aside0 (Sep FF w [b14 g4359 g4361 a4369 a4370 a4371 a4372, b13 g4361 A4364 l4363.length n4366 a4368, r7 A4364 l4363.length n4366 l4363, b3 g4476 0 0 0 0 0 0 0] w4494) := ⟨by rw [hst]; exact HS.out.setAll (l1 := [b14 g4359 g4361 a4369 a4370 a4371 a4372, b13 g4361 A4364 l4363.length n4366 a4368, r7 A4364 l4363.length n4366 l4363]) (l2 := []) [.int .i64 0, .int .i64 0, .int .i64 0, .int .i64 0, .int .i64 0, .int .i64 0, .int .i64 0] rfl⟩; clear hst))
    have hc4495 : w4494.cell? ⟨g4476, 0, none⟩ = some (.int .i64 0) := blk_cellv (HS.out.at3) 0 rfl
    have hc4496 : w4494.cell? ⟨g4476, 1, none⟩ = some (.int .i64 0) := blk_cellv (HS.out.at3) 1 rfl
    have hc4497 : w4494.cell? ⟨g4476, 2, none⟩ = some (.int .i64 0) := blk_cellv (HS.out.at3) 2 rfl
    have hc4498 : w4494.cell? ⟨g4476, 3, none⟩ = some (.int .i64 0) := blk_cellv (HS.out.at3) 3 rfl
    have hc4499 : w4494.cell? ⟨g4476, 4, none⟩ = some (.int .i64 0) := blk_cellv (HS.out.at3) 4 rfl
    have hc4500 : w4494.cell? ⟨g4476, 5, none⟩ = some (.int .i64 0) := blk_cellv (HS.out.at3) 5 rfl
    have hc4501 : w4494.cell? ⟨g4476, 6, none⟩ = some (.int .i64 0) := blk_cellv (HS.out.at3) 6 rfl
    refine bodyPost_ret (v := .tuple #[.agg #[.int .i64 0, .int .i64 0, .int .i64 0, .int .i64 0, .int .i64 0, .int .i64 0, .int .i64 0], .bool false]) (by simp [results, Tryz.results53, go_sem, hc4495, hc4496, hc4497, hc4498, hc4499, hc4500, hc4501]) rfl ?_
    rw [← some_eq H]
    exact ⟨(by first | rfl | (simp [IntKind.wrap_u32]; done)), HS.out.sub (.cons_cons _ (.cons_cons _ (.cons_cons _ (.cons _ .slnil))))⟩
  · have H := if_no c4479 H
    have c4479b0 : decide (a4373 < 1) = false := decide_eq_false c4479
    clear c4479
    go_wp2_with (first | ((with_reducible refine gate_dst (N := 4) rfl ?_); refine box_on ?hg (N := 4) ?hd (cs := #[.int .i64 0, .int .i64 0, .int .i64 0, .int .i64 0, .int .i64 0, .int .i64 0, .int .i64 0]) (t := 79) ?hr ?_; (case hd => rfl); (case hg => rfl); (case hr => first | (go_simp; done) | (go_simp; rfl)); intro g4476 hg w4477 hbox hb; replace HS : Aside0 (Sep FF w [b14 g4359 g4361 a4369 a4370 a4371 a4372, b13 g4361 A4364 l4363.length n4366 a4368, r7 A4364 l4363.length n4366 l4363, b3 g4476 0 0 0 0 0 0 0] w4477) := ⟨HS.out.box hg hbox hb⟩; clear hg hbox hb))
    obtain ⟨t4502, HA4503, H⟩ := bind_some H
    refine (ground_Ground_Conf.calls l4363 a4368 a4369 a4370 a4371 a4372 g4359 g4361 A4364 l4363.length n4366 t4502 _ ⟨HGl0.out.pass HS.out⟩ ⟨HS.out.begin⟩ HA4503).mono ?_
    rintro e_ w4504 ⟨rfl, hS⟩
    replace HS : Aside0 (Sep FF w [b14 g4359 g4361 a4369 a4370 a4371 a4372, b13 g4361 A4364 l4363.length n4366 a4368, r7 A4364 l4363.length n4366 l4363, b3 g4476 0 0 0 0 0 0 0] w4504) := ⟨HS.out.call hS⟩
    clear hS
    by_cases c4506 : a4373 > t4502.1
    · have H := if_yes c4506 H
      have c4506b0 : decide (t4502.1 < a4373) = true := decide_eq_true c4506
      clear c4506
      have fl4505 : ∀ w, (Instr.field 29 (.agg #[.int .i64 t4502.1, .int .i64 t4502.2.1, .int .i64 t4502.2.2.1, .int .i64 t4502.2.2.2]) 0).run Tryz.prog w = .ok (.int .i64 t4502.1) w := fun _ => by kernel_rfl
      have hc4507 : w4504.cell? ⟨g4476, 0, none⟩ = some (.int .i64 0) := blk_cellv (HS.out.at3) 0 rfl
      have hz4508 : w4504.frozen? ⟨g4476, 0, none⟩ = false := blk_fz (HS.out.at3) 0
      have hc4509 : w4504.cell? ⟨g4476, 1, none⟩ = some (.int .i64 0) := blk_cellv (HS.out.at3) 1 rfl
      have hz4510 : w4504.frozen? ⟨g4476, 1, none⟩ = false := blk_fz (HS.out.at3) 1
      have hc4511 : w4504.cell? ⟨g4476, 2, none⟩ = some (.int .i64 0) := blk_cellv (HS.out.at3) 2 rfl
      have hz4512 : w4504.frozen? ⟨g4476, 2, none⟩ = false := blk_fz (HS.out.at3) 2
      have hc4513 : w4504.cell? ⟨g4476, 3, none⟩ = some (.int .i64 0) := blk_cellv (HS.out.at3) 3 rfl
      have hz4514 : w4504.frozen? ⟨g4476, 3, none⟩ = false := blk_fz (HS.out.at3) 3
      have hc4515 : w4504.cell? ⟨g4476, 4, none⟩ = some (.int .i64 0) := blk_cellv (HS.out.at3) 4 rfl
      have hz4516 : w4504.frozen? ⟨g4476, 4, none⟩ = false := blk_fz (HS.out.at3) 4
      have hc4517 : w4504.cell? ⟨g4476, 5, none⟩ = some (.int .i64 0) := blk_cellv (HS.out.at3) 5 rfl
      have hz4518 : w4504.frozen? ⟨g4476, 5, none⟩ = false := blk_fz (HS.out.at3) 5
      have hc4519 : w4504.cell? ⟨g4476, 6, none⟩ = some (.int .i64 0) := blk_cellv (HS.out.at3) 6 rfl
      have hz4520 : w4504.frozen? ⟨g4476, 6, none⟩ = false := blk_fz (HS.out.at3) 6
      go_wp2_with (first | ((with_reducible refine gate_store (t := 79) (p := 4) rfl ?_); refine store_event (w1 := (World.setCell (World.setCell (World.setCell (World.setCell (World.setCell (World.setCell (World.setCell w4504 ⟨g4476, 0, none⟩ (.int .i64 0)) ⟨g4476, 1, none⟩ (.int .i64 0)) ⟨g4476, 2, none⟩ (.int .i64 0)) ⟨g4476, 3, none⟩ (.int .i64 0)) ⟨g4476, 4, none⟩ (.int .i64 0)) ⟨g4476, 5, none⟩ (.int .i64 0)) ⟨g4476, 6, none⟩ (.int .i64 0))) rfl (t := 79) (p := 4) rfl rfl ?hr ?_; (case hr => first | (go_simp; done) | (go_simp; rfl)); intro w4521 hst; clear fl4505 hc4507 hz4508 hc4509 hz4510 hc4511 hz4512 hc4513 hz4514 hc4515 hz4516 hc4517 hz4518 hc4519 hz4520; replace HS : Aside0 (Sep FF w [b14 g4359 g4361 a4369 a4370 a4371 a4372, b13 g4361 A4364 l4363.length n4366 a4368, r7 A4364 l4363.length n4366 l4363, b3 g4476 0 0 0 0 0 0 0] w4521) := ⟨by rw [hst]; exact HS.out.setAll (l1 := [b14 g4359 g4361 a4369 a4370 a4371 a4372, b13 g4361 A4364 l4363.length n4366 a4368, r7 A4364 l4363.length n4366 l4363]) (l2 := []) [.int .i64 0, .int .i64 0, .int .i64 0, .int .i64 0, .int .i64 0, .int .i64 0, .int .i64 0] rfl⟩; clear hst))
      have hc4522 : w4521.cell? ⟨g4476, 0, none⟩ = some (.int .i64 0) := blk_cellv (HS.out.at3) 0 rfl
      have hc4523 : w4521.cell? ⟨g4476, 1, none⟩ = some (.int .i64 0) := blk_cellv (HS.out.at3) 1 rfl
      have hc4524 : w4521.cell? ⟨g4476, 2, none⟩ = some (.int .i64 0) := blk_cellv (HS.out.at3) 2 rfl
      have hc4525 : w4521.cell? ⟨g4476, 3, none⟩ = some (.int .i64 0) := blk_cellv (HS.out.at3) 3 rfl
      have hc4526 : w4521.cell? ⟨g4476, 4, none⟩ = some (.int .i64 0) := blk_cellv (HS.out.at3) 4 rfl
      have hc4527 : w4521.cell? ⟨g4476, 5, none⟩ = some (.int .i64 0) := blk_cellv (HS.out.at3) 5 rfl
      have hc4528 : w4521.cell? ⟨g4476, 6, none⟩ = some (.int .i64 0) := blk_cellv (HS.out.at3) 6 rfl
      refine bodyPost_ret (v := .tuple #[.agg #[.int .i64 0, .int .i64 0, .int .i64 0, .int .i64 0, .int .i64 0, .int .i64 0, .int .i64 0], .bool false]) (by simp [results, Tryz.results53, go_sem, hc4522, hc4523, hc4524, hc4525, hc4526, hc4527, hc4528]) rfl ?_
      rw [← some_eq H]
      exact ⟨(by first | rfl | (simp [IntKind.wrap_u32]; done)), HS.out.sub (.cons_cons _ (.cons_cons _ (.cons_cons _ (.cons _ .slnil))))⟩
    · have H := if_no c4506 H
      have c4506b0 : decide (t4502.1 < a4373) = false := decide_eq_false c4506
      clear c4506
      have fl4505 : ∀ w, (Instr.field 29 (.agg #[.int .i64 t4502.1, .int .i64 t4502.2.1, .int .i64 t4502.2.2.1, .int .i64 t4502.2.2.2]) 0).run Tryz.prog w = .ok (.int .i64 t4502.1) w := fun _ => by kernel_rfl
      go_wp2_with fail
      clear fl4505
      obtain ⟨t4529, HA4530, H⟩ := bind_some H
      refine (ground_Ground_Word.calls l4363 a4368 a4369 a4370 a4371 a4372 (wrap64 (a4373 - 1)) 0 g4359 g4361 A4364 l4363.length n4366 t4529 _ ⟨HGl0.out.pass HS.out⟩ ⟨HS.out.begin⟩ HA4530).mono ?_
      rintro e_ w4531 ⟨rfl, hS⟩
      replace HS : Aside0 (Sep FF w [b14 g4359 g4361 a4369 a4370 a4371 a4372, b13 g4361 A4364 l4363.length n4366 t4529.2, r7 A4364 l4363.length n4366 l4363, b3 g4476 0 0 0 0 0 0 0] w4531) := ⟨HS.out.call hS⟩
      clear hS
      go_wp2_with fail
      obtain ⟨t4532, HA4533, H⟩ := bind_some H
      refine (tag_Unpack.calls t4529.1 t4532 _ ⟨HGl0.out.pass (l := []) HS.out⟩ ⟨Sep.start _⟩ HA4533).mono ?_
      rintro e_ w4534 ⟨rfl, hS⟩
      replace HS : Aside0 (Sep FF w [b14 g4359 g4361 a4369 a4370 a4371 a4372, b13 g4361 A4364 l4363.length n4366 t4529.2, r7 A4364 l4363.length n4366 l4363, b3 g4476 0 0 0 0 0 0 0] w4534) := ⟨HS.out.call hS⟩
      clear hS
      go_wp2_with (first | ((with_reducible refine gate_dst (N := 6) rfl ?_); refine box_on ?hg (N := 6) ?hd (cs := #[.int .i64 0, .int .i64 0, .int .i64 0, .int .i64 0, .int .i64 0, .int .i64 0, .int .i64 0]) (t := 79) ?hr ?_; (case hd => rfl); (case hg => rfl); (case hr => first | (go_simp; done) | (go_simp; rfl)); intro g4535 hg w4536 hbox hb; replace HS : Aside0 (Sep FF w [b14 g4359 g4361 a4369 a4370 a4371 a4372, b13 g4361 A4364 l4363.length n4366 t4529.2, r7 A4364 l4363.length n4366 l4363, b3 g4476 0 0 0 0 0 0 0, b3 g4535 0 0 0 0 0 0 0] w4536) := ⟨HS.out.box hg hbox hb⟩; clear hg hbox hb; have hc4538 : w4536.cell? ⟨g4535, 0, none⟩ = some (.int .i64 0) := blk_cellv (HS.out.at4) 0 rfl; have hz4539 : w4536.frozen? ⟨g4535, 0, none⟩ = false := blk_fz (HS.out.at4) 0; have hc4540 : w4536.cell? ⟨g4535, 1, none⟩ = some (.int .i64 0) := blk_cellv (HS.out.at4) 1 rfl; have hz4541 : w4536.frozen? ⟨g4535, 1, none⟩ = false := blk_fz (HS.out.at4) 1; have hc4542 : w4536.cell? ⟨g4535, 2, none⟩ = some (.int .i64 0) := blk_cellv (HS.out.at4) 2 rfl; have hz4543 : w4536.frozen? ⟨g4535, 2, none⟩ = false := blk_fz (HS.out.at4) 2; have hc4544 : w4536.cell? ⟨g4535, 3, none⟩ = some (.int .i64 0) := blk_cellv (HS.out.at4) 3 rfl; have hz4545 : w4536.frozen? ⟨g4535, 3, none⟩ = false := blk_fz (HS.out.at4) 3; have hc4546 : w4536.cell? ⟨g4535, 4, none⟩ = some (.int .i64 0) := blk_cellv (HS.out.at4) 4 rfl; have hz4547 : w4536.frozen? ⟨g4535, 4, none⟩ = false := blk_fz (HS.out.at4) 4; have hc4548 : w4536.cell? ⟨g4535, 5, none⟩ = some (.int .i64 0) := blk_cellv (HS.out.at4) 5 rfl; have hz4549 : w4536.frozen? ⟨g4535, 5, none⟩ = false := blk_fz (HS.out.at4) 5; have hc4550 : w4536.cell? ⟨g4535, 6, none⟩ = some (.int .i64 0) := blk_cellv (HS.out.at4) 6 rfl; have hz4551 : w4536.frozen? ⟨g4535, 6, none⟩ = false := blk_fz (HS.out.at4) 6) | ((with_reducible refine gate_store (t := 79) (p := 6) rfl ?_); refine store_event (w1 := (World.setCell (World.setCell (World.setCell (World.setCell (World.setCell (World.setCell (World.setCell w4536 ⟨g4535, 0, none⟩ (.int .i64 t4532.1)) ⟨g4535, 1, none⟩ (.int .i64 t4532.2.1)) ⟨g4535, 2, none⟩ (.int .i64 t4532.2.2.1)) ⟨g4535, 3, none⟩ (.int .i64 t4532.2.2.2.1)) ⟨g4535, 4, none⟩ (.int .i64 t4532.2.2.2.2.1)) ⟨g4535, 5, none⟩ (.int .i64 t4532.2.2.2.2.2.1)) ⟨g4535, 6, none⟩ (.int .i64 t4532.2.2.2.2.2.2))) rfl (t := 79) (p := 6) rfl rfl ?hr ?_; (case hr => first | (go_simp; done) | (go_simp; rfl)); intro w4552 hst; clear hc4538 hz4539 hc4540 hz4541 hc4542 hz4543 hc4544 hz4545 hc4546 hz4547 hc4548 hz4549 hc4550 hz4551; replace HS : Aside0 (Sep FF w [b14 g4359 g4361 a4369 a4370 a4371 a4372, b13 g4361 A4364 l4363.length n4366 t4529.2, r7 A4364 l4363.length n4366 l4363, b3 g4476 0 0 0 0 0 0 0, b3 g4535 t4532.1 t4532.2.1 t4532.2.2.1 t4532.2.2.2.1 t4532.2.2.2.2.1 t4532.2.2.2.2.2.1 t4532.2.2.2.2.2.2] w4552) := ⟨by rw [hst]; exact HS.out.setAll (l1 := [b14 g4359 g4361 a4369 a4370 a4371 a4372, b13 g4361 A4364 l4363.length n4366 t4529.2, r7 A4364 l4363.length n4366 l4363, b3 g4476 0 0 0 0 0 0 0]) (l2 := []) [.int .i64 t4532.1, .int .i64 t4532.2.1, .int .i64 t4532.2.2.1, .int .i64 t4532.2.2.2.1, .int .i64 t4532.2.2.2.2.1, .int .i64 t4532.2.2.2.2.2.1, .int .i64 t4532.2.2.2.2.2.2] rfl⟩; clear hst))
      refine start_ (n := 11) (S := (fun w' => w'.cell? ⟨g4535, 0, none⟩ = some (.int .i64 t4532.1) ∧ w'.cell? ⟨g4535, 1, none⟩ = some (.int .i64 t4532.2.1) ∧ w'.cell? ⟨g4535, 2, none⟩ = some (.int .i64 t4532.2.2.1) ∧ w'.cell? ⟨g4535, 3, none⟩ = some (.int .i64 t4532.2.2.2.1) ∧ w'.cell? ⟨g4535, 4, none⟩ = some (.int .i64 t4532.2.2.2.2.1) ∧ w'.cell? ⟨g4535, 5, none⟩ = some (.int .i64 t4532.2.2.2.2.2.1) ∧ w'.cell? ⟨g4535, 6, none⟩ = some (.int .i64 t4532.2.2.2.2.2.2))) (ds := []) #[false, false, false, false, false, false, false, false, false, false, false] (by kernel_rfl) rfl rfl (⟨blk_cellv ((HS.out.drew).at4) 0 rfl, blk_cellv ((HS.out.drew).at4) 1 rfl, blk_cellv ((HS.out.drew).at4) 2 rfl, blk_cellv ((HS.out.drew).at4) 3 rfl, blk_cellv ((HS.out.drew).at4) 4 rfl, blk_cellv ((HS.out.drew).at4) 5 rfl, blk_cellv ((HS.out.drew).at4) 6 rfl⟩) (fun hHeld => ?_)
      have HS_ := Aside0.mk HS.out.drew
      clear HS
      generalize World.drew _ = w4554 at HS_ hHeld ⊢
      have HS := HS_
      clear HS_
      refine pure_ (i := 1) (N := some 27) (v := ?_) (a' := ?_) #[false, true, false, false, false, false, false, false, false, false, false] rfl rfl (by kernel_rfl) (fun _ _ _ h => h) (Or.inl ⟨by rfl, ?_⟩) ?_ ?_
      rotate_left
      · intro w'
        go_simp
        with_reducible rfl
      rotate_left
      · simp only [Act.put, List.setIfInBounds_toArray, List.set_cons_zero, List.set_cons_succ, i64_w, i32_w]
        rfl
      refine take_ (i := 0) (N := some 26) (v := ?_) (a' := ?_) #[true, true, false, false, false, false, false, false, false, false, false] rfl rfl (by kernel_rfl) (fun _ _ _ h => h) (Or.inl ⟨by rfl, ?_⟩) hHeld ?_ ?_
      rotate_left
      · rintro w' hS'
        obtain ⟨s0, s1, s2, s3, s4, s5, s6⟩ := hS'
        go_simp
        with_reducible rfl
      rotate_left
      · simp only [Act.put, List.setIfInBounds_toArray, List.set_cons_zero, List.set_cons_succ, i64_w, i32_w]
        rfl
      refine take_ (i := 2) (N := some 28) (v := ?_) (a' := ?_) #[true, true, true, false, false, false, false, false, false, false, false] rfl rfl (by kernel_rfl) (fun _ _ _ h => h) (Or.inl ⟨by rfl, ?_⟩) hHeld ?_ ?_
      rotate_left
      · rintro w' hS'
        obtain ⟨s0, s1, s2, s3, s4, s5, s6⟩ := hS'
        go_simp
        with_reducible rfl
      rotate_left
      · simp only [Act.put, List.setIfInBounds_toArray, List.set_cons_zero, List.set_cons_succ, i64_w, i32_w]
        rfl
      refine pure_ (i := 3) (N := some 29) (v := ?_) (a' := ?_) #[true, true, true, true, false, false, false, false, false, false, false] rfl rfl (by kernel_rfl) (fun _ _ _ h => h) (Or.inl ⟨by rfl, ?_⟩) ?_ ?_
      rotate_left
      · intro w'
        go_simp
        with_reducible rfl
      rotate_left
      · simp only [Act.put, List.setIfInBounds_toArray, List.set_cons_zero, List.set_cons_succ, i64_w, i32_w]
        rfl
      refine pure_ (i := 4) (N := some 30) (v := ?_) (a' := ?_) #[true, true, true, true, true, false, false, false, false, false, false] rfl rfl (by kernel_rfl) (fun _ _ _ h => h) (Or.inl ⟨by rfl, ?_⟩) ?_ ?_
      rotate_left
      · intro w'
        go_simp
        with_reducible rfl
      rotate_left
      · simp only [Act.put, List.setIfInBounds_toArray, List.set_cons_zero, List.set_cons_succ, i64_w, i32_w]
        rfl
      by_cases c4555 : t4532.1 = 1
      · have H := if_yes c4555 H
        have c4555b0 : (t4532.1 == 1) = true := beq_iff_eq.mpr c4555
        have c4555b1 : (t4532.1 != 1) = false := bne_eq_false_iff_eq.mpr c4555
        clear c4555
        try simp only [c4555b0, Bool.not_true, Bool.not_false]
        refine pure_ (i := 5) (N := some 31) (v := undef) (a' := ?_) #[true, true, true, true, true, true, false, false, false, false, false] rfl rfl (by kernel_rfl) (fun _ _ _ h => h) (Or.inr ⟨by rfl, rfl⟩) ?_ ?_
        rotate_left
        · simp only [Act.put, List.setIfInBounds_toArray, List.set_cons_zero, List.set_cons_succ, i64_w, i32_w]
          rfl
        try simp only [c4555b0, Bool.not_true, Bool.not_false]
        refine pure_ (i := 6) (N := some 32) (v := undef) (a' := ?_) #[true, true, true, true, true, true, true, false, false, false, false] rfl rfl (by kernel_rfl) (fun _ _ _ h => h) (Or.inr ⟨by rfl, rfl⟩) ?_ ?_
        rotate_left
        · simp only [Act.put, List.setIfInBounds_toArray, List.set_cons_zero, List.set_cons_succ, i64_w, i32_w]
          rfl
        try simp only [c4555b0, Bool.not_true, Bool.not_false]
        refine pure_ (i := 7) (N := some 33) (v := undef) (a' := ?_) #[true, true, true, true, true, true, true, true, false, false, false] rfl rfl (by kernel_rfl) (fun _ _ _ h => h) (Or.inr ⟨by rfl, rfl⟩) ?_ ?_
        rotate_left
        · simp only [Act.put, List.setIfInBounds_toArray, List.set_cons_zero, List.set_cons_succ, i64_w, i32_w]
          rfl
        refine pure_ (i := 8) (N := some 34) (v := ?_) (a' := ?_) #[true, true, true, true, true, true, true, true, true, false, false] rfl rfl (by kernel_rfl) (fun _ _ _ h => h) (Or.inl ⟨by rfl, ?_⟩) ?_ ?_
        rotate_left
        · intro w'
          go_simp
          with_reducible rfl
        rotate_left
        · simp only [Act.put, List.setIfInBounds_toArray, List.set_cons_zero, List.set_cons_succ, i64_w, i32_w]
          rfl
        refine one_ (i := 9) (N := none) #[true, true, true, true, true, true, true, true, true, true, false] rfl rfl (by kernel_rfl) (by decide) (fun K hK => ?_)
        have hc4557 := blk_cellv (v := .int .i64 0) (HS.out.at3) 0 rfl
        have hz4558 := blk_fz (HS.out.at3) 0
        have hc4559 := blk_cellv (v := .int .i64 0) (HS.out.at3) 1 rfl
        have hz4560 := blk_fz (HS.out.at3) 1
        have hc4561 := blk_cellv (v := .int .i64 0) (HS.out.at3) 2 rfl
        have hz4562 := blk_fz (HS.out.at3) 2
        have hc4563 := blk_cellv (v := .int .i64 0) (HS.out.at3) 3 rfl
        have hz4564 := blk_fz (HS.out.at3) 3
        have hc4565 := blk_cellv (v := .int .i64 0) (HS.out.at3) 4 rfl
        have hz4566 := blk_fz (HS.out.at3) 4
        have hc4567 := blk_cellv (v := .int .i64 0) (HS.out.at3) 5 rfl
        have hz4568 := blk_fz (HS.out.at3) 5
        have hc4569 := blk_cellv (v := .int .i64 0) (HS.out.at3) 6 rfl
        have hz4570 := blk_fz (HS.out.at3) 6
        refine store_step (w1 := (World.setCell (World.setCell (World.setCell (World.setCell (World.setCell (World.setCell (World.setCell w4554 ⟨g4476, 0, none⟩ (.int .i64 t4532.1)) ⟨g4476, 1, none⟩ (.int .i64 t4532.2.1)) ⟨g4476, 2, none⟩ (.int .i64 t4532.2.2.1)) ⟨g4476, 3, none⟩ (.int .i64 t4532.2.2.2.1)) ⟨g4476, 4, none⟩ (.int .i64 t4532.2.2.2.2.1)) ⟨g4476, 5, none⟩ (.int .i64 t4532.2.2.2.2.2.1)) ⟨g4476, 6, none⟩ (.int .i64 t4532.2.2.2.2.2.2))) (by rfl) rfl ?hr ?_
        case hr => first | (go_simp; done) | (go_simp; rfl)
        clear hc4557 hz4558 hc4559 hz4560 hc4561 hz4562 hc4563 hz4564 hc4565 hz4566 hc4567 hz4568 hc4569 hz4570
        intro w4556 hst
        replace HS : Aside0 (Sep FF w [b14 g4359 g4361 a4369 a4370 a4371 a4372, b13 g4361 A4364 l4363.length n4366 t4529.2, r7 A4364 l4363.length n4366 l4363, b3 g4476 t4532.1 t4532.2.1 t4532.2.2.1 t4532.2.2.2.1 t4532.2.2.2.2.1 t4532.2.2.2.2.2.1 t4532.2.2.2.2.2.2, b3 g4535 t4532.1 t4532.2.1 t4532.2.2.1 t4532.2.2.2.1 t4532.2.2.2.2.1 t4532.2.2.2.2.2.1 t4532.2.2.2.2.2.2] w4556) := ⟨by rw [hst]; exact HS.out.setAll (l1 := [b14 g4359 g4361 a4369 a4370 a4371 a4372, b13 g4361 A4364 l4363.length n4366 t4529.2, r7 A4364 l4363.length n4366 l4363]) (l2 := [b3 g4535 t4532.1 t4532.2.1 t4532.2.2.1 t4532.2.2.2.1 t4532.2.2.2.2.1 t4532.2.2.2.2.2.1 t4532.2.2.2.2.2.2]) [.int .i64 t4532.1, .int .i64 t4532.2.1, .int .i64 t4532.2.2.1, .int .i64 t4532.2.2.2.1, .int .i64 t4532.2.2.2.2.1, .int .i64 t4532.2.2.2.2.2.1, .int .i64 t4532.2.2.2.2.2.2] rfl⟩
        clear hst
        refine hK.out _ _ (⟨blk_cellv (HS.out.at4) 0 rfl, blk_cellv (HS.out.at4) 1 rfl, blk_cellv (HS.out.at4) 2 rfl, blk_cellv (HS.out.at4) 3 rfl, blk_cellv (HS.out.at4) 4 rfl, blk_cellv (HS.out.at4) 5 rfl, blk_cellv (HS.out.at4) 6 rfl⟩) (fun hHeld => ?_)
        clear hK K
        refine pure_ (i := 10) (N := some 5) (v := ?_) (a' := ?_) #[true, true, true, true, true, true, true, true, true, true, true] rfl rfl (by kernel_rfl) (fun _ _ _ h => h) (Or.inl ⟨by rfl, ?_⟩) ?_ ?_
        rotate_left
        · intro w'
          go_simp
          with_reducible rfl
        rotate_left
        · simp only [Act.put, List.setIfInBounds_toArray, List.set_cons_zero, List.set_cons_succ, i64_w, i32_w]
          rfl
        refine done_ (by kernel_rfl) ?_
        replace HS : Aside0 (Sep FF w [b14 g4359 g4361 a4369 a4370 a4371 a4372, b13 g4361 A4364 l4363.length n4366 t4529.2, r7 A4364 l4363.length n4366 l4363, b3 g4476 t4532.1 t4532.2.1 t4532.2.2.1 t4532.2.2.2.1 t4532.2.2.2.2.1 t4532.2.2.2.2.2.1 t4532.2.2.2.2.2.2] w4556) := ⟨HS.out.sub (.cons_cons _ (.cons_cons _ (.cons_cons _ (.cons_cons _ (.cons _ .slnil)))))⟩
        go_wp2_with fail
        have hc4571 : w4556.cell? ⟨g4476, 0, none⟩ = some (.int .i64 t4532.1) := blk_cellv (HS.out.at3) 0 rfl
        have hc4572 : w4556.cell? ⟨g4476, 1, none⟩ = some (.int .i64 t4532.2.1) := blk_cellv (HS.out.at3) 1 rfl
        have hc4573 : w4556.cell? ⟨g4476, 2, none⟩ = some (.int .i64 t4532.2.2.1) := blk_cellv (HS.out.at3) 2 rfl
        have hc4574 : w4556.cell? ⟨g4476, 3, none⟩ = some (.int .i64 t4532.2.2.2.1) := blk_cellv (HS.out.at3) 3 rfl
        have hc4575 : w4556.cell? ⟨g4476, 4, none⟩ = some (.int .i64 t4532.2.2.2.2.1) := blk_cellv (HS.out.at3) 4 rfl
        have hc4576 : w4556.cell? ⟨g4476, 5, none⟩ = some (.int .i64 t4532.2.2.2.2.2.1) := blk_cellv (HS.out.at3) 5 rfl
        have hc4577 : w4556.cell? ⟨g4476, 6, none⟩ = some (.int .i64 t4532.2.2.2.2.2.2) := blk_cellv (HS.out.at3) 6 rfl
        refine bodyPost_ret (v := .tuple #[.agg #[.int .i64 t4532.1, .int .i64 t4532.2.1, .int .i64 t4532.2.2.1, .int .i64 t4532.2.2.2.1, .int .i64 t4532.2.2.2.2.1, .int .i64 t4532.2.2.2.2.2.1, .int .i64 t4532.2.2.2.2.2.2], .bool true]) (by simp [results, Tryz.results53, go_sem, hc4571, hc4572, hc4573, hc4574, hc4575, hc4576, hc4577]) rfl ?_
        rw [← some_eq H]
        exact ⟨(by first | rfl | (simp [IntKind.wrap_u32]; done)), HS.out.sub (.cons_cons _ (.cons_cons _ (.cons_cons _ (.cons _ .slnil))))⟩
      · have H := if_no c4555 H
        have c4555b0 : (t4532.1 == 1) = false := beq_eq_false_iff_ne.mpr c4555
        have c4555b1 : (t4532.1 != 1) = true := bne_iff_ne.mpr c4555
        clear c4555
        try simp only [c4555b0, Bool.not_true, Bool.not_false]
        refine pure_ (i := 5) (N := some 31) (v := ?_) (a' := ?_) #[true, true, true, true, true, true, false, false, false, false, false] rfl rfl (by kernel_rfl) (fun _ _ _ h => h) (Or.inl ⟨by rfl, ?_⟩) ?_ ?_
        rotate_left
        · intro w'
          go_simp
          with_reducible rfl
        rotate_left
        · simp only [Act.put, List.setIfInBounds_toArray, List.set_cons_zero, List.set_cons_succ, i64_w, i32_w]
          rfl
        try simp only [c4555b0, Bool.not_true, Bool.not_false]
        refine take_ (i := 6) (N := some 32) (v := ?_) (a' := ?_) #[true, true, true, true, true, true, true, false, false, false, false] rfl rfl (by kernel_rfl) (fun _ _ _ h => h) (Or.inl ⟨by rfl, ?_⟩) hHeld ?_ ?_
        rotate_left
        · rintro w' hS'
          obtain ⟨s0, s1, s2, s3, s4, s5, s6⟩ := hS'
          go_simp
          with_reducible rfl
        rotate_left
        · simp only [Act.put, List.setIfInBounds_toArray, List.set_cons_zero, List.set_cons_succ, i64_w, i32_w]
          rfl
        try simp only [c4555b0, Bool.not_true, Bool.not_false]
        refine pure_ (i := 7) (N := some 33) (v := ?_) (a' := ?_) #[true, true, true, true, true, true, true, true, false, false, false] rfl rfl (by kernel_rfl) (fun _ _ _ h => h) (Or.inl ⟨by rfl, ?_⟩) ?_ ?_
        rotate_left
        · intro w'
          go_simp
          with_reducible rfl
        rotate_left
        · simp only [Act.put, List.setIfInBounds_toArray, List.set_cons_zero, List.set_cons_succ, i64_w, i32_w]
          rfl
        refine pure_ (i := 8) (N := some 34) (v := ?_) (a' := ?_) #[true, true, true, true, true, true, true, true, true, false, false] rfl rfl (by kernel_rfl) (fun _ _ _ h => h) (Or.inl ⟨by rfl, ?_⟩) ?_ ?_
        rotate_left
        · intro w'
          go_simp
          with_reducible rfl
        rotate_left
        · simp only [Act.put, List.setIfInBounds_toArray, List.set_cons_zero, List.set_cons_succ, i64_w, i32_w]
          rfl
        refine one_ (i := 9) (N := none) #[true, true, true, true, true, true, true, true, true, true, false] rfl rfl (by kernel_rfl) (by decide) (fun K hK => ?_)
        have hc4579 := blk_cellv (v := .int .i64 0) (HS.out.at3) 0 rfl
        have hz4580 := blk_fz (HS.out.at3) 0
        have hc4581 := blk_cellv (v := .int .i64 0) (HS.out.at3) 1 rfl
        have hz4582 := blk_fz (HS.out.at3) 1
        have hc4583 := blk_cellv (v := .int .i64 0) (HS.out.at3) 2 rfl
        have hz4584 := blk_fz (HS.out.at3) 2
        have hc4585 := blk_cellv (v := .int .i64 0) (HS.out.at3) 3 rfl
        have hz4586 := blk_fz (HS.out.at3) 3
        have hc4587 := blk_cellv (v := .int .i64 0) (HS.out.at3) 4 rfl
        have hz4588 := blk_fz (HS.out.at3) 4
        have hc4589 := blk_cellv (v := .int .i64 0) (HS.out.at3) 5 rfl
        have hz4590 := blk_fz (HS.out.at3) 5
        have hc4591 := blk_cellv (v := .int .i64 0) (HS.out.at3) 6 rfl
        have hz4592 := blk_fz (HS.out.at3) 6
        refine store_step (w1 := (World.setCell (World.setCell (World.setCell (World.setCell (World.setCell (World.setCell (World.setCell w4554 ⟨g4476, 0, none⟩ (.int .i64 t4532.1)) ⟨g4476, 1, none⟩ (.int .i64 t4532.2.1)) ⟨g4476, 2, none⟩ (.int .i64 t4532.2.2.1)) ⟨g4476, 3, none⟩ (.int .i64 t4532.2.2.2.1)) ⟨g4476, 4, none⟩ (.int .i64 t4532.2.2.2.2.1)) ⟨g4476, 5, none⟩ (.int .i64 t4532.2.2.2.2.2.1)) ⟨g4476, 6, none⟩ (.int .i64 t4532.2.2.2.2.2.2))) (by rfl) rfl ?hr ?_
        case hr => first | (go_simp; done) | (go_simp; rfl)
        clear hc4579 hz4580 hc4581 hz4582 hc4583 hz4584 hc4585 hz4586 hc4587 hz4588 hc4589 hz4590 hc4591 hz4592
        intro w4578 hst
        replace HS : Aside0 (Sep FF w [b14 g4359 g4361 a4369 a4370 a4371 a4372, b13 g4361 A4364 l4363.length n4366 t4529.2, r7 A4364 l4363.length n4366 l4363, b3 g4476 t4532.1 t4532.2.1 t4532.2.2.1 t4532.2.2.2.1 t4532.2.2.2.2.1 t4532.2.2.2.2.2.1 t4532.2.2.2.2.2.2, b3 g4535 t4532.1 t4532.2.1 t4532.2.2.1 t4532.2.2.2.1 t4532.2.2.2.2.1 t4532.2.2.2.2.2.1 t4532.2.2.2.2.2.2] w4578) := ⟨by rw [hst]; exact HS.out.setAll (l1 := [b14 g4359 g4361 a4369 a4370 a4371 a4372, b13 g4361 A4364 l4363.length n4366 t4529.2, r7 A4364 l4363.length n4366 l4363]) (l2 := [b3 g4535 t4532.1 t4532.2.1 t4532.2.2.1 t4532.2.2.2.1 t4532.2.2.2.2.1 t4532.2.2.2.2.2.1 t4532.2.2.2.2.2.2]) [.int .i64 t4532.1, .int .i64 t4532.2.1, .int .i64 t4532.2.2.1, .int .i64 t4532.2.2.2.1, .int .i64 t4532.2.2.2.2.1, .int .i64 t4532.2.2.2.2.2.1, .int .i64 t4532.2.2.2.2.2.2] rfl⟩
        clear hst
        refine hK.out _ _ (⟨blk_cellv (HS.out.at4) 0 rfl, blk_cellv (HS.out.at4) 1 rfl, blk_cellv (HS.out.at4) 2 rfl, blk_cellv (HS.out.at4) 3 rfl, blk_cellv (HS.out.at4) 4 rfl, blk_cellv (HS.out.at4) 5 rfl, blk_cellv (HS.out.at4) 6 rfl⟩) (fun hHeld => ?_)
        clear hK K
        refine pure_ (i := 10) (N := some 5) (v := ?_) (a' := ?_) #[true, true, true, true, true, true, true, true, true, true, true] rfl rfl (by kernel_rfl) (fun _ _ _ h => h) (Or.inl ⟨by rfl, ?_⟩) ?_ ?_
        rotate_left
        · intro w'
          go_simp
          with_reducible rfl
        rotate_left
        · simp only [Act.put, List.setIfInBounds_toArray, List.set_cons_zero, List.set_cons_succ, i64_w, i32_w]
          rfl
        refine done_ (by kernel_rfl) ?_
        replace HS : Aside0 (Sep FF w [b14 g4359 g4361 a4369 a4370 a4371 a4372, b13 g4361 A4364 l4363.length n4366 t4529.2, r7 A4364 l4363.length n4366 l4363, b3 g4476 t4532.1 t4532.2.1 t4532.2.2.1 t4532.2.2.2.1 t4532.2.2.2.2.1 t4532.2.2.2.2.2.1 t4532.2.2.2.2.2.2] w4578) := ⟨HS.out.sub (.cons_cons _ (.cons_cons _ (.cons_cons _ (.cons_cons _ (.cons _ .slnil)))))⟩
        go_wp2_with fail
        have hc4593 : w4578.cell? ⟨g4476, 0, none⟩ = some (.int .i64 t4532.1) := blk_cellv (HS.out.at3) 0 rfl
        have hc4594 : w4578.cell? ⟨g4476, 1, none⟩ = some (.int .i64 t4532.2.1) := blk_cellv (HS.out.at3) 1 rfl
        have hc4595 : w4578.cell? ⟨g4476, 2, none⟩ = some (.int .i64 t4532.2.2.1) := blk_cellv (HS.out.at3) 2 rfl
        have hc4596 : w4578.cell? ⟨g4476, 3, none⟩ = some (.int .i64 t4532.2.2.2.1) := blk_cellv (HS.out.at3) 3 rfl
        have hc4597 : w4578.cell? ⟨g4476, 4, none⟩ = some (.int .i64 t4532.2.2.2.2.1) := blk_cellv (HS.out.at3) 4 rfl
        have hc4598 : w4578.cell? ⟨g4476, 5, none⟩ = some (.int .i64 t4532.2.2.2.2.2.1) := blk_cellv (HS.out.at3) 5 rfl
        have hc4599 : w4578.cell? ⟨g4476, 6, none⟩ = some (.int .i64 t4532.2.2.2.2.2.2) := blk_cellv (HS.out.at3) 6 rfl
        refine bodyPost_ret (v := .tuple #[.agg #[.int .i64 t4532.1, .int .i64 t4532.2.1, .int .i64 t4532.2.2.1, .int .i64 t4532.2.2.2.1, .int .i64 t4532.2.2.2.2.1, .int .i64 t4532.2.2.2.2.2.1, .int .i64 t4532.2.2.2.2.2.2], .bool (t4532.1 == 2)]) (by simp [results, Tryz.results53, go_sem, hc4593, hc4594, hc4595, hc4596, hc4597, hc4598, hc4599]) rfl ?_
        rw [← some_eq H]
        exact ⟨(by first | rfl | (simp [IntKind.wrap_u32]; done)), HS.out.sub (.cons_cons _ (.cons_cons _ (.cons_cons _ (.cons _ .slnil))))⟩

set_option maxHeartbeats 30000000 in
set_option maxRecDepth 100000 in
theorem tint_Parity.calls (l4627 : List Int) (a4632 : Int) (a4633 : Int) (a4634 : Int) (a4635 : Int) (a4636 : Int) (g4623 : Nat) (g4625 : Nat) (A4628 : Option Addr) (m4629 : Nat) (n4630 : Nat) (r : Int × Int) (w : World)  (HGl0 : Aside0 (Gl 0 #[.int .i64 0, .int .i64 0, .int .i64 0, .int .i64 0, .int .i64 0] (fps [b14 g4623 g4625 a4633 a4634 a4635 a4636, b13 g4625 A4628 m4629 n4630 a4632, r7 A4628 m4629 n4630 l4627]) w)) (HS : Aside0 (Sep (fps [b14 g4623 g4625 a4633 a4634 a4635 a4636, b13 g4625 A4628 m4629 n4630 a4632, r7 A4628 m4629 n4630 l4627]) w [b14 g4623 g4625 a4633 a4634 a4635 a4636, b13 g4625 A4628 m4629 n4630 a4632, r7 A4628 m4629 n4630 l4627] w)) (H : Aside0 (tint_Parity.f l4627 a4632 a4633 a4634 a4635 a4636 = some r)) :
    Calls Tryz.prog 15 #[.pointer (some ⟨g4623, 0, none⟩)] w fun e w' => e = .returned (.int .i64 r.1) ∧ Sep (fps [b14 g4623 g4625 a4633 a4634 a4635 a4636, b13 g4625 A4628 m4629 n4630 a4632, r7 A4628 m4629 n4630 l4627]) w [b14 g4623 g4625 a4633 a4634 a4635 a4636, b13 g4625 A4628 m4629 n4630 r.2, r7 A4628 m4629 n4630 l4627] w' := by
  generalize (fps [b14 g4623 g4625 a4633 a4634 a4635 a4636, b13 g4625 A4628 m4629 n4630 a4632, r7 A4628 m4629 n4630 l4627]) = FF at HS HGl0 ⊢
  obtain rfl := (row_len (HS.out.at2)).symm
  unfold tint_Parity.f at H
  go_enter Tryz.func15, Tryz.ntmps15
  go_wp2_with fail
  obtain ⟨t4640, HA4641, H⟩ := bind_some H
  refine (ground_Ground_Reg.calls l4627 a4632 a4633 a4634 a4635 a4636 10 g4623 g4625 A4628 l4627.length n4630 t4640 _ ⟨HGl0.out.pass HS.out⟩ ⟨HS.out.begin⟩ HA4641).mono ?_
  rintro e_ w4642 ⟨rfl, hS⟩
  replace HS : Aside0 (Sep FF w [b14 g4623 g4625 a4633 a4634 a4635 a4636, b13 g4625 A4628 l4627.length n4630 t4640.2, r7 A4628 l4627.length n4630 l4627] w4642) := ⟨HS.out.call hS⟩
  clear hS
  go_wp2_with fail
  go_ret
  rw [← some_eq H]
  exact ⟨(by first | rfl | (simp [IntKind.wrap_u32]; done)), HS.out⟩

set_option maxHeartbeats 30000000 in
set_option maxRecDepth 100000 in
theorem tint_Dye_1_1.calls (a4648 : Int) (a4649 : Int) (a4650 : Int) (a4651 : Int) (a4652 : Int) (a4653 : Int) (a4654 : Int) (a4655 : Int) (l4663 : List Int) (a4668 : Int) (a4669 : Int) (a4670 : Int) (a4671 : Int) (a4672 : Int) (a4675 : Int) (g4647 : Nat) (g4657 : Nat) (g4659 : Nat) (g4661 : Nat) (A4664 : Option Addr) (m4665 : Nat) (n4666 : Nat) (g4674 : Nat) (r : Int × Int × Int × Int × List Int) (w : World)  (HGl0 : Aside0 (Gl 0 #[.int .i64 0, .int .i64 0, .int .i64 0, .int .i64 0, .int .i64 0] (fps [b3 g4647 a4648 a4649 a4650 a4651 a4652 a4653 a4654, b16 g4657 g4659, b14 g4659 g4661 a4669 a4670 a4671 a4672, b13 g4661 A4664 m4665 n4666 a4668, r7 A4664 m4665 n4666 l4663, b2 g4674 a4675]) w)) (HS : Aside0 (Sep (fps [b3 g4647 a4648 a4649 a4650 a4651 a4652 a4653 a4654, b16 g4657 g4659, b14 g4659 g4661 a4669 a4670 a4671 a4672, b13 g4661 A4664 m4665 n4666 a4668, r7 A4664 m4665 n4666 l4663, b2 g4674 a4675]) w [b3 g4647 a4648 a4649 a4650 a4651 a4652 a4653 a4654, b16 g4657 g4659, b14 g4659 g4661 a4669 a4670 a4671 a4672, b13 g4661 A4664 m4665 n4666 a4668, r7 A4664 m4665 n4666 l4663, b2 g4674 a4675] w)) (H : Aside0 (tint_Dye_1_1.f a4648 a4649 a4650 a4651 a4652 a4653 a4654 a4655 l4663 a4668 a4669 a4670 a4671 a4672 a4675 = some r)) :
    Calls Tryz.prog 52 #[.pointer (some ⟨g4647, 0, none⟩), .int .i64 a4655, .pointer (some ⟨g4657, 0, none⟩), .pointer (some ⟨g4674, 0, none⟩)] w fun e w' => e = .returned (.tuple #[]) ∧ Sep (fps [b3 g4647 a4648 a4649 a4650 a4651 a4652 a4653 a4654, b16 g4657 g4659, b14 g4659 g4661 a4669 a4670 a4671 a4672, b13 g4661 A4664 m4665 n4666 a4668, r7 A4664 m4665 n4666 l4663, b2 g4674 a4675]) w [b3 g4647 a4648 r.1 r.2.1 r.2.2.1 a4652 a4653 a4654, b16 g4657 g4659, b14 g4659 g4661 a4669 a4670 a4671 a4672, b13 g4661 A4664 m4665 n4666 r.2.2.2.1, r7 A4664 m4665 n4666 r.2.2.2.2, b2 g4674 a4675] w' := by
  generalize (fps [b3 g4647 a4648 a4649 a4650 a4651 a4652 a4653 a4654, b16 g4657 g4659, b14 g4659 g4661 a4669 a4670 a4671 a4672, b13 g4661 A4664 m4665 n4666 a4668, r7 A4664 m4665 n4666 l4663, b2 g4674 a4675]) = FF at HS HGl0 ⊢
  obtain rfl := (row_len (HS.out.at4)).symm
  unfold tint_Dye_1_1.f at H
  go_enter Tryz.func52, Tryz.ntmps52
  have hc4690 : w.cell? ⟨g4647, 1, none⟩ = some (.int .i64 a4649) := blk_cellv (HS.out.at0) 1 rfl
  have hz4691 : w.frozen? ⟨g4647, 1, none⟩ = false := blk_fz (HS.out.at0) 1
  go_wp2_with (first | ((with_reducible refine gate_store (t := 3) (p := 13) rfl ?_); refine store_event (w1 := (World.setCell w ⟨g4647, 1, none⟩ (.int .i64 a4655))) rfl (t := 3) (p := 13) rfl rfl ?hr ?_; (case hr => first | (go_simp; done) | (go_simp; rfl)); intro w4692 hst; clear hc4690 hz4691; have hq0 : Sep FF w [b3 g4647 a4648 a4655 a4650 a4651 a4652 a4653 a4654, b16 g4657 g4659, b14 g4659 g4661 a4669 a4670 a4671 a4672, b13 g4661 A4664 l4663.length n4666 a4668, r7 A4664 l4663.length n4666 l4663, b2 g4674 a4675] (World.setCell w ⟨g4647, 1, none⟩ (.int .i64 a4655)) := (HS.out).set1 (l1 := []) (l2 := [b16 g4657 g4659, b14 g4659 g4661 a4669 a4670 a4671 a4672, b13 g4661 A4664 l4663.length n4666 a4668, r7 A4664 l4663.length n4666 l4663, b2 g4674 a4675]) 1 (.int .i64 a4655); replace HS : Aside0 (Sep FF w [b3 g4647 a4648 a4655 a4650 a4651 a4652 a4653 a4654, b16 g4657 g4659, b14 g4659 g4661 a4669 a4670 a4671 a4672, b13 g4661 A4664 l4663.length n4666 a4668, r7 A4664 l4663.length n4666 l4663, b2 g4674 a4675] w4692) := ⟨by rw [hst]; exact hq0⟩; clear hq0; clear hst; have hc4693 : w4692.cell? ⟨g4647, 2, none⟩ = some (.int .i64 a4650) := blk_cellv (HS.out.at0) 2 rfl; have hz4694 : w4692.frozen? ⟨g4647, 2, none⟩ = false := blk_fz (HS.out.at0) 2) | ((with_reducible refine gate_store (t := 3) (p := 15) rfl ?_); refine store_event (w1 := (World.setCell w4692 ⟨g4647, 2, none⟩ (.int .i64 a4655))) rfl (t := 3) (p := 15) rfl rfl ?hr ?_; (case hr => first | (go_simp; done) | (go_simp; rfl)); intro w4695 hst; clear hc4693 hz4694; have hq0 : Sep FF w [b3 g4647 a4648 a4655 a4655 a4651 a4652 a4653 a4654, b16 g4657 g4659, b14 g4659 g4661 a4669 a4670 a4671 a4672, b13 g4661 A4664 l4663.length n4666 a4668, r7 A4664 l4663.length n4666 l4663, b2 g4674 a4675] (World.setCell w4692 ⟨g4647, 2, none⟩ (.int .i64 a4655)) := (HS.out).set1 (l1 := []) (l2 := [b16 g4657 g4659, b14 g4659 g4661 a4669 a4670 a4671 a4672, b13 g4661 A4664 l4663.length n4666 a4668, r7 A4664 l4663.length n4666 l4663, b2 g4674 a4675]) 2 (.int .i64 a4655); replace HS : Aside0 (Sep FF w [b3 g4647 a4648 a4655 a4655 a4651 a4652 a4653 a4654, b16 g4657 g4659, b14 g4659 g4661 a4669 a4670 a4671 a4672, b13 g4661 A4664 l4663.length n4666 a4668, r7 A4664 l4663.length n4666 l4663, b2 g4674 a4675] w4695) := ⟨by rw [hst]; exact hq0⟩; clear hq0; clear hst; have hc4696 : w4695.cell? ⟨g4647, 3, none⟩ = some (.int .i64 a4651) := blk_cellv (HS.out.at0) 3 rfl; have hz4697 : w4695.frozen? ⟨g4647, 3, none⟩ = false := blk_fz (HS.out.at0) 3) | ((with_reducible refine gate_store (t := 3) (p := 17) rfl ?_); refine store_event (w1 := (World.setCell w4695 ⟨g4647, 3, none⟩ (.int .i64 a4655))) rfl (t := 3) (p := 17) rfl rfl ?hr ?_; (case hr => first | (go_simp; done) | (go_simp; rfl)); intro w4698 hst; clear hc4696 hz4697; have hq0 : Sep FF w [b3 g4647 a4648 a4655 a4655 a4655 a4652 a4653 a4654, b16 g4657 g4659, b14 g4659 g4661 a4669 a4670 a4671 a4672, b13 g4661 A4664 l4663.length n4666 a4668, r7 A4664 l4663.length n4666 l4663, b2 g4674 a4675] (World.setCell w4695 ⟨g4647, 3, none⟩ (.int .i64 a4655)) := (HS.out).set1 (l1 := []) (l2 := [b16 g4657 g4659, b14 g4659 g4661 a4669 a4670 a4671 a4672, b13 g4661 A4664 l4663.length n4666 a4668, r7 A4664 l4663.length n4666 l4663, b2 g4674 a4675]) 3 (.int .i64 a4655); replace HS : Aside0 (Sep FF w [b3 g4647 a4648 a4655 a4655 a4655 a4652 a4653 a4654, b16 g4657 g4659, b14 g4659 g4661 a4669 a4670 a4671 a4672, b13 g4661 A4664 l4663.length n4666 a4668, r7 A4664 l4663.length n4666 l4663, b2 g4674 a4675] w4698) := ⟨by rw [hst]; exact hq0⟩; clear hq0; clear hst; have hc4699 : w4698.cell? ⟨g4657, 0, none⟩ = some (.pointer (some ⟨g4659, 0, none⟩)) := blk_cellv (HS.out.at1) 0 rfl; have hc4700 : w4698.cell? ⟨g4674, 0, none⟩ = some (.int .i64 a4675) := blk_cellv (HS.out.at5) 0 rfl))
  clear hc4699 hc4700
  replace HS : Aside0 (Sep FF w [r7 A4664 l4663.length n4666 l4663, b3 g4647 a4648 a4655 a4655 a4655 a4652 a4653 a4654, b16 g4657 g4659, b14 g4659 g4661 a4669 a4670 a4671 a4672, b13 g4661 A4664 l4663.length n4666 a4668, b2 g4674 a4675] w4698) := ⟨HS.out.front 4 (by simp)⟩
  replace HS : Aside0 (Sep FF w [b13 g4661 A4664 l4663.length n4666 a4668, r7 A4664 l4663.length n4666 l4663, b3 g4647 a4648 a4655 a4655 a4655 a4652 a4653 a4654, b16 g4657 g4659, b14 g4659 g4661 a4669 a4670 a4671 a4672, b2 g4674 a4675] w4698) := ⟨HS.out.front 4 (by simp)⟩
  replace HS : Aside0 (Sep FF w [b14 g4659 g4661 a4669 a4670 a4671 a4672, b13 g4661 A4664 l4663.length n4666 a4668, r7 A4664 l4663.length n4666 l4663, b3 g4647 a4648 a4655 a4655 a4655 a4652 a4653 a4654, b16 g4657 g4659, b2 g4674 a4675] w4698) := ⟨HS.out.front 4 (by simp)⟩
  obtain ⟨t4701, HA4702, H⟩ := bind_some H
  refine (ground_Ground_SetWord.calls l4663 a4668 a4669 a4670 a4671 a4672 (wrap64 (a4675 - 1)) 4 0 g4659 g4661 A4664 l4663.length n4666 t4701 _ ⟨HGl0.out.pass HS.out⟩ ⟨HS.out.begin⟩ HA4702).mono ?_
  rintro e_ w4703 ⟨rfl, hS⟩
  replace HS : Aside0 (Sep FF w [b14 g4659 g4661 a4669 a4670 a4671 a4672, b13 g4661 A4664 l4663.length n4666 t4701.2.1, r7 A4664 l4663.length n4666 t4701.2.2, b3 g4647 a4648 a4655 a4655 a4655 a4652 a4653 a4654, b16 g4657 g4659, b2 g4674 a4675] w4703) := ⟨HS.out.call hS⟩
  clear hS
  go_wp2_with fail
  first | go_end0 | refine bodyPost_ret (results_none rfl _ _ _) rfl ?_
  rw [← some_eq H]
  exact ⟨rfl, (((((((HS.out).front 5 (by simp)).front 3 (by simp)).front 3 (by simp)).front 3 (by simp)).front 5 (by simp)).front 5 (by simp)).keep (l := [b3 g4647 a4648 a4655 a4655 a4655 a4652 a4653 a4654, b16 g4657 g4659, b14 g4659 g4661 a4669 a4670 a4671 a4672, b13 g4661 A4664 l4663.length n4666 t4701.2.1, r7 A4664 l4663.length n4666 t4701.2.2, b2 g4674 a4675]) (rest := [])⟩

set_option maxHeartbeats 30000000 in
set_option maxRecDepth 100000 in
theorem tint_change_F52.calls (k : Nat) (l4342 : List Int) (a4347 : Int) (a4348 : Int) (a4349 : Int) (a4350 : Int) (a4351 : Int) (a4352 : Int) (a4357 : Int) (g4338 : Nat) (g4340 : Nat) (A4343 : Option Addr) (m4344 : Nat) (n4345 : Nat) (g4354 : Nat) (g4356 : Nat) (r : Bool × Int × List Int) (w : World)  (HGl0 : Aside0 (Gl 0 #[.int .i64 0, .int .i64 0, .int .i64 0, .int .i64 0, .int .i64 0] (fps [b14 g4338 g4340 a4348 a4349 a4350 a4351, b13 g4340 A4343 m4344 n4345 a4347, r7 A4343 m4344 n4345 l4342, b16 g4354 g4338, b2 g4356 a4357]) w)) (HS : Aside0 (Sep (fps [b14 g4338 g4340 a4348 a4349 a4350 a4351, b13 g4340 A4343 m4344 n4345 a4347, r7 A4343 m4344 n4345 l4342, b16 g4354 g4338, b2 g4356 a4357]) w [b14 g4338 g4340 a4348 a4349 a4350 a4351, b13 g4340 A4343 m4344 n4345 a4347, r7 A4343 m4344 n4345 l4342, b16 g4354 g4338, b2 g4356 a4357] w)) (H : Aside0 (tint_change_F52.f k l4342 a4347 a4348 a4349 a4350 a4351 a4352 a4357 = some r)) :
    Calls Tryz.prog 51 #[.pointer (some ⟨g4338, 0, none⟩), .int .i64 a4352, .func (.func 52) #[] #[.pointer (some ⟨g4354, 0, none⟩), .pointer (some ⟨g4356, 0, none⟩)]] w fun e w' => e = .returned (.bool r.1) ∧ Sep (fps [b14 g4338 g4340 a4348 a4349 a4350 a4351, b13 g4340 A4343 m4344 n4345 a4347, r7 A4343 m4344 n4345 l4342, b16 g4354 g4338, b2 g4356 a4357]) w [b14 g4338 g4340 a4348 a4349 a4350 a4351, b13 g4340 A4343 m4344 n4345 r.2.1, r7 A4343 m4344 n4345 r.2.2, b16 g4354 g4338, b2 g4356 a4357] w' := by
  generalize (fps [b14 g4338 g4340 a4348 a4349 a4350 a4351, b13 g4340 A4343 m4344 n4345 a4347, r7 A4343 m4344 n4345 l4342, b16 g4354 g4338, b2 g4356 a4357]) = FF at HS HGl0 ⊢
  obtain rfl := (row_len (HS.out.at2)).symm
  unfold tint_change_F52.f at H
  go_enter Tryz.func51, Tryz.ntmps51
  go_wp2_with fail
  obtain ⟨t4721, HA4722, H⟩ := bind_some H
  refine (tint_of.calls l4342 a4347 a4348 a4349 a4350 a4351 a4352 g4338 g4340 A4343 l4342.length n4345 t4721 _ ⟨HGl0.out.pass HS.out⟩ ⟨HS.out.begin⟩ HA4722).mono ?_
  rintro e_ w4723 ⟨rfl, hS⟩
  replace HS : Aside0 (Sep FF w [b14 g4338 g4340 a4348 a4349 a4350 a4351, b13 g4340 A4343 l4342.length n4345 t4721.2.2.2.2.2.2.2.2, r7 A4343 l4342.length n4345 l4342, b16 g4354 g4338, b2 g4356 a4357] w4723) := ⟨HS.out.call hS⟩
  clear hS
  by_cases c4742 : t4721.2.2.2.2.2.2.2.1 = true
  · have H := if_yes c4742 H
    have c4742b0 : t4721.2.2.2.2.2.2.2.1 = true := c4742
    have c4742b1 : (!t4721.2.2.2.2.2.2.2.1) = false := by rw [c4742b0]; rfl
    try rw [c4742b1]
    clear c4742
    go_wp2_with (first | ((with_reducible refine gate_dst (N := 7) rfl ?_); refine box_on ?hg (N := 7) ?hd (cs := #[.int .i64 0, .int .i64 0, .int .i64 0, .int .i64 0, .int .i64 0, .int .i64 0, .int .i64 0]) (t := 79) ?hr ?_; (case hd => rfl); (case hg => rfl); (case hr => first | (go_simp; done) | (go_simp; rfl)); intro g4724 hg w4725 hbox hb; replace HS : Aside0 (Sep FF w [b14 g4338 g4340 a4348 a4349 a4350 a4351, b13 g4340 A4343 l4342.length n4345 t4721.2.2.2.2.2.2.2.2, r7 A4343 l4342.length n4345 l4342, b16 g4354 g4338, b2 g4356 a4357, b3 g4724 0 0 0 0 0 0 0] w4725) := ⟨HS.out.box hg hbox hb⟩; clear hg hbox hb; have hc4727 : w4725.cell? ⟨g4724, 0, none⟩ = some (.int .i64 0) := blk_cellv (HS.out.at5) 0 rfl; have hz4728 : w4725.frozen? ⟨g4724, 0, none⟩ = false := blk_fz (HS.out.at5) 0; have hc4729 : w4725.cell? ⟨g4724, 1, none⟩ = some (.int .i64 0) := blk_cellv (HS.out.at5) 1 rfl; have hz4730 : w4725.frozen? ⟨g4724, 1, none⟩ = false := blk_fz (HS.out.at5) 1; have hc4731 : w4725.cell? ⟨g4724, 2, none⟩ = some (.int .i64 0) := blk_cellv (HS.out.at5) 2 rfl; have hz4732 : w4725.frozen? ⟨g4724, 2, none⟩ = false := blk_fz (HS.out.at5) 2; have hc4733 : w4725.cell? ⟨g4724, 3, none⟩ = some (.int .i64 0) := blk_cellv (HS.out.at5) 3 rfl; have hz4734 : w4725.frozen? ⟨g4724, 3, none⟩ = false := blk_fz (HS.out.at5) 3; have hc4735 : w4725.cell? ⟨g4724, 4, none⟩ = some (.int .i64 0) := blk_cellv (HS.out.at5) 4 rfl; have hz4736 : w4725.frozen? ⟨g4724, 4, none⟩ = false := blk_fz (HS.out.at5) 4; have hc4737 : w4725.cell? ⟨g4724, 5, none⟩ = some (.int .i64 0) := blk_cellv (HS.out.at5) 5 rfl; have hz4738 : w4725.frozen? ⟨g4724, 5, none⟩ = false := blk_fz (HS.out.at5) 5; have hc4739 : w4725.cell? ⟨g4724, 6, none⟩ = some (.int .i64 0) := blk_cellv (HS.out.at5) 6 rfl; have hz4740 : w4725.frozen? ⟨g4724, 6, none⟩ = false := blk_fz (HS.out.at5) 6) | ((with_reducible refine gate_store (t := 79) (p := 7) rfl ?_); refine store_event (w1 := (World.setCell (World.setCell (World.setCell (World.setCell (World.setCell (World.setCell (World.setCell w4725 ⟨g4724, 0, none⟩ (.int .i64 t4721.1)) ⟨g4724, 1, none⟩ (.int .i64 t4721.2.1)) ⟨g4724, 2, none⟩ (.int .i64 t4721.2.2.1)) ⟨g4724, 3, none⟩ (.int .i64 t4721.2.2.2.1)) ⟨g4724, 4, none⟩ (.int .i64 t4721.2.2.2.2.1)) ⟨g4724, 5, none⟩ (.int .i64 t4721.2.2.2.2.2.1)) ⟨g4724, 6, none⟩ (.int .i64 t4721.2.2.2.2.2.2.1))) rfl (t := 79) (p := 7) rfl rfl ?hr ?_; (case hr => first | (go_simp; done) | (go_simp; rfl)); intro w4741 hst; clear hc4727 hz4728 hc4729 hz4730 hc4731 hz4732 hc4733 hz4734 hc4735 hz4736 hc4737 hz4738 hc4739 hz4740; replace HS : Aside0 (Sep FF w [b14 g4338 g4340 a4348 a4349 a4350 a4351, b13 g4340 A4343 l4342.length n4345 t4721.2.2.2.2.2.2.2.2, r7 A4343 l4342.length n4345 l4342, b16 g4354 g4338, b2 g4356 a4357, b3 g4724 t4721.1 t4721.2.1 t4721.2.2.1 t4721.2.2.2.1 t4721.2.2.2.2.1 t4721.2.2.2.2.2.1 t4721.2.2.2.2.2.2.1] w4741) := ⟨by rw [hst]; exact HS.out.setAll (l1 := [b14 g4338 g4340 a4348 a4349 a4350 a4351, b13 g4340 A4343 l4342.length n4345 t4721.2.2.2.2.2.2.2.2, r7 A4343 l4342.length n4345 l4342, b16 g4354 g4338, b2 g4356 a4357]) (l2 := []) [.int .i64 t4721.1, .int .i64 t4721.2.1, .int .i64 t4721.2.2.1, .int .i64 t4721.2.2.2.1, .int .i64 t4721.2.2.2.2.1, .int .i64 t4721.2.2.2.2.2.1, .int .i64 t4721.2.2.2.2.2.2.1] rfl⟩; clear hst))
    obtain ⟨t4743, HA4744, H⟩ := bind_some H
    refine (tint_Parity.calls l4342 t4721.2.2.2.2.2.2.2.2 a4348 a4349 a4350 a4351 g4338 g4340 A4343 l4342.length n4345 t4743 _ ⟨HGl0.out.pass HS.out⟩ ⟨HS.out.begin⟩ HA4744).mono ?_
    rintro e_ w4745 ⟨rfl, hS⟩
    replace HS : Aside0 (Sep FF w [b14 g4338 g4340 a4348 a4349 a4350 a4351, b13 g4340 A4343 l4342.length n4345 t4743.2, r7 A4343 l4342.length n4345 l4342, b16 g4354 g4338, b2 g4356 a4357, b3 g4724 t4721.1 t4721.2.1 t4721.2.2.1 t4721.2.2.2.1 t4721.2.2.2.2.1 t4721.2.2.2.2.2.1 t4721.2.2.2.2.2.2.1] w4745) := ⟨HS.out.call hS⟩
    clear hS
    go_wp2_with fail
    replace HS : Aside0 (Sep FF w [b2 g4356 a4357, b14 g4338 g4340 a4348 a4349 a4350 a4351, b13 g4340 A4343 l4342.length n4345 t4743.2, r7 A4343 l4342.length n4345 l4342, b16 g4354 g4338, b3 g4724 t4721.1 t4721.2.1 t4721.2.2.1 t4721.2.2.2.1 t4721.2.2.2.2.1 t4721.2.2.2.2.2.1 t4721.2.2.2.2.2.2.1] w4745) := ⟨HS.out.front 4 (by simp)⟩
    replace HS : Aside0 (Sep FF w [r7 A4343 l4342.length n4345 l4342, b2 g4356 a4357, b14 g4338 g4340 a4348 a4349 a4350 a4351, b13 g4340 A4343 l4342.length n4345 t4743.2, b16 g4354 g4338, b3 g4724 t4721.1 t4721.2.1 t4721.2.2.1 t4721.2.2.2.1 t4721.2.2.2.2.1 t4721.2.2.2.2.2.1 t4721.2.2.2.2.2.2.1] w4745) := ⟨HS.out.front 3 (by simp)⟩
    replace HS : Aside0 (Sep FF w [b13 g4340 A4343 l4342.length n4345 t4743.2, r7 A4343 l4342.length n4345 l4342, b2 g4356 a4357, b14 g4338 g4340 a4348 a4349 a4350 a4351, b16 g4354 g4338, b3 g4724 t4721.1 t4721.2.1 t4721.2.2.1 t4721.2.2.2.1 t4721.2.2.2.2.1 t4721.2.2.2.2.2.1 t4721.2.2.2.2.2.2.1] w4745) := ⟨HS.out.front 3 (by simp)⟩
    replace HS : Aside0 (Sep FF w [b14 g4338 g4340 a4348 a4349 a4350 a4351, b13 g4340 A4343 l4342.length n4345 t4743.2, r7 A4343 l4342.length n4345 l4342, b2 g4356 a4357, b16 g4354 g4338, b3 g4724 t4721.1 t4721.2.1 t4721.2.2.1 t4721.2.2.2.1 t4721.2.2.2.2.1 t4721.2.2.2.2.2.1 t4721.2.2.2.2.2.2.1] w4745) := ⟨HS.out.front 3 (by simp)⟩
    replace HS : Aside0 (Sep FF w [b16 g4354 g4338, b14 g4338 g4340 a4348 a4349 a4350 a4351, b13 g4340 A4343 l4342.length n4345 t4743.2, r7 A4343 l4342.length n4345 l4342, b2 g4356 a4357, b3 g4724 t4721.1 t4721.2.1 t4721.2.2.1 t4721.2.2.2.1 t4721.2.2.2.2.1 t4721.2.2.2.2.2.1 t4721.2.2.2.2.2.2.1] w4745) := ⟨HS.out.front 4 (by simp)⟩
    replace HS : Aside0 (Sep FF w [b3 g4724 t4721.1 t4721.2.1 t4721.2.2.1 t4721.2.2.2.1 t4721.2.2.2.2.1 t4721.2.2.2.2.2.1 t4721.2.2.2.2.2.2.1, b16 g4354 g4338, b14 g4338 g4340 a4348 a4349 a4350 a4351, b13 g4340 A4343 l4342.length n4345 t4743.2, r7 A4343 l4342.length n4345 l4342, b2 g4356 a4357] w4745) := ⟨HS.out.front 5 (by simp)⟩
    obtain ⟨t4746, HA4747, H⟩ := bind_some H
    refine (tint_Dye_1_1.calls t4721.1 t4721.2.1 t4721.2.2.1 t4721.2.2.2.1 t4721.2.2.2.2.1 t4721.2.2.2.2.2.1 t4721.2.2.2.2.2.2.1 t4743.1 l4342 t4743.2 a4348 a4349 a4350 a4351 a4357 g4724 g4354 g4338 g4340 A4343 l4342.length n4345 g4356 t4746 _ ⟨HGl0.out.pass HS.out⟩ ⟨HS.out.begin⟩ HA4747).mono ?_
    rintro e_ w4748 ⟨rfl, hS⟩
    replace HS : Aside0 (Sep FF w [b3 g4724 t4721.1 t4746.1 t4746.2.1 t4746.2.2.1 t4721.2.2.2.2.1 t4721.2.2.2.2.2.1 t4721.2.2.2.2.2.2.1, b16 g4354 g4338, b14 g4338 g4340 a4348 a4349 a4350 a4351, b13 g4340 A4343 l4342.length n4345 t4746.2.2.2.1, r7 A4343 l4342.length n4345 t4746.2.2.2.2, b2 g4356 a4357] w4748) := ⟨HS.out.call hS⟩
    clear hS
    have hc4749 : w4748.cell? ⟨g4724, 0, none⟩ = some (.int .i64 t4721.1) := blk_cellv (HS.out.at0) 0 rfl
    have hc4750 : w4748.cell? ⟨g4724, 1, none⟩ = some (.int .i64 t4746.1) := blk_cellv (HS.out.at0) 1 rfl
    have hc4751 : w4748.cell? ⟨g4724, 2, none⟩ = some (.int .i64 t4746.2.1) := blk_cellv (HS.out.at0) 2 rfl
    have hc4752 : w4748.cell? ⟨g4724, 3, none⟩ = some (.int .i64 t4746.2.2.1) := blk_cellv (HS.out.at0) 3 rfl
    have hc4753 : w4748.cell? ⟨g4724, 4, none⟩ = some (.int .i64 t4721.2.2.2.2.1) := blk_cellv (HS.out.at0) 4 rfl
    have hc4754 : w4748.cell? ⟨g4724, 5, none⟩ = some (.int .i64 t4721.2.2.2.2.2.1) := blk_cellv (HS.out.at0) 5 rfl
    have hc4755 : w4748.cell? ⟨g4724, 6, none⟩ = some (.int .i64 t4721.2.2.2.2.2.2.1) := blk_cellv (HS.out.at0) 6 rfl
    go_wp2_with fail
    clear hc4749 hc4750 hc4751 hc4752 hc4753 hc4754 hc4755
    obtain ⟨t4756, HA4757, H⟩ := bind_some H
    refine (tag_Pack.calls _ t4721.1 t4746.1 t4746.2.1 t4746.2.2.1 t4721.2.2.2.2.1 t4721.2.2.2.2.2.1 t4721.2.2.2.2.2.2.1 t4756 _ ⟨HGl0.out.pass (l := []) HS.out⟩ ⟨Sep.start _⟩ HA4757).mono ?_
    rintro e_ w4758 ⟨rfl, hS⟩
    replace HS : Aside0 (Sep FF w [b3 g4724 t4721.1 t4746.1 t4746.2.1 t4746.2.2.1 t4721.2.2.2.2.1 t4721.2.2.2.2.2.1 t4721.2.2.2.2.2.2.1, b16 g4354 g4338, b14 g4338 g4340 a4348 a4349 a4350 a4351, b13 g4340 A4343 l4342.length n4345 t4746.2.2.2.1, r7 A4343 l4342.length n4345 t4746.2.2.2.2, b2 g4356 a4357] w4758) := ⟨HS.out.call hS⟩
    clear hS
    by_cases c4759 : t4756.2 = 0
    · have H := if_yes c4759 H
      have c4759b0 : (t4756.2 == 0) = true := beq_iff_eq.mpr c4759
      have c4759b1 : (t4756.2 != 0) = false := bne_eq_false_iff_eq.mpr c4759
      clear c4759
      replace HS : Aside0 (Sep FF w [b16 g4354 g4338, b14 g4338 g4340 a4348 a4349 a4350 a4351, b13 g4340 A4343 l4342.length n4345 t4746.2.2.2.1, r7 A4343 l4342.length n4345 t4746.2.2.2.2, b2 g4356 a4357] w4758) := ⟨HS.out.sub (.cons _ (.cons_cons _ (.cons_cons _ (.cons_cons _ (.cons_cons _ (.cons_cons _ .slnil))))))⟩
      go_wp2_with fail
      replace HS : Aside0 (Sep FF w [r7 A4343 l4342.length n4345 t4746.2.2.2.2, b16 g4354 g4338, b14 g4338 g4340 a4348 a4349 a4350 a4351, b13 g4340 A4343 l4342.length n4345 t4746.2.2.2.1, b2 g4356 a4357] w4758) := ⟨HS.out.front 3 (by simp)⟩
      replace HS : Aside0 (Sep FF w [b13 g4340 A4343 l4342.length n4345 t4746.2.2.2.1, r7 A4343 l4342.length n4345 t4746.2.2.2.2, b16 g4354 g4338, b14 g4338 g4340 a4348 a4349 a4350 a4351, b2 g4356 a4357] w4758) := ⟨HS.out.front 3 (by simp)⟩
      replace HS : Aside0 (Sep FF w [b14 g4338 g4340 a4348 a4349 a4350 a4351, b13 g4340 A4343 l4342.length n4345 t4746.2.2.2.1, r7 A4343 l4342.length n4345 t4746.2.2.2.2, b16 g4354 g4338, b2 g4356 a4357] w4758) := ⟨HS.out.front 3 (by simp)⟩
      obtain ⟨t4760, HA4761, H⟩ := bind_some H
      refine (ground_Ground_SetWord.calls t4746.2.2.2.2 t4746.2.2.2.1 a4348 a4349 a4350 a4351 (wrap64 (a4352 - 1)) 0 t4756.1 g4338 g4340 A4343 l4342.length n4345 t4760 _ ⟨HGl0.out.pass HS.out⟩ ⟨HS.out.begin⟩ HA4761).mono ?_
      rintro e_ w4762 ⟨rfl, hS⟩
      replace HS : Aside0 (Sep FF w [b14 g4338 g4340 a4348 a4349 a4350 a4351, b13 g4340 A4343 l4342.length n4345 t4760.2.1, r7 A4343 l4342.length n4345 t4760.2.2, b16 g4354 g4338, b2 g4356 a4357] w4762) := ⟨HS.out.call hS⟩
      clear hS
      go_wp2_with fail
      go_ret
      rw [← some_eq H]
      exact ⟨(by first | rfl | (simp [IntKind.wrap_u32]; done)), HS.out⟩
    · have H := if_no c4759 H
      have c4759b0 : (t4756.2 == 0) = false := beq_eq_false_iff_ne.mpr c4759
      have c4759b1 : (t4756.2 != 0) = true := bne_iff_ne.mpr c4759
      clear c4759
      replace HS : Aside0 (Sep FF w [b16 g4354 g4338, b14 g4338 g4340 a4348 a4349 a4350 a4351, b13 g4340 A4343 l4342.length n4345 t4746.2.2.2.1, r7 A4343 l4342.length n4345 t4746.2.2.2.2, b2 g4356 a4357] w4758) := ⟨HS.out.sub (.cons _ (.cons_cons _ (.cons_cons _ (.cons_cons _ (.cons_cons _ (.cons_cons _ .slnil))))))⟩
      go_wp2_with fail
      go_ret
      rw [← some_eq H]
      exact ⟨(by first | rfl | (simp [IntKind.wrap_u32]; done)), ((((((HS.out).front 4 (by simp)).front 1 (by simp)).front 4 (by simp)).front 4 (by simp)).front 4 (by simp)).keep (l := [b14 g4338 g4340 a4348 a4349 a4350 a4351, b13 g4340 A4343 l4342.length n4345 t4746.2.2.2.1, r7 A4343 l4342.length n4345 t4746.2.2.2.2, b16 g4354 g4338, b2 g4356 a4357]) (rest := [])⟩
  · have H := if_no c4742 H
    have c4742b0 : t4721.2.2.2.2.2.2.2.1 = false := by simpa using c4742
    have c4742b1 : (!t4721.2.2.2.2.2.2.2.1) = true := by rw [c4742b0]; rfl
    try rw [c4742b1]
    clear c4742
    go_wp2_with (first | ((with_reducible refine gate_dst (N := 7) rfl ?_); refine box_on ?hg (N := 7) ?hd (cs := #[.int .i64 0, .int .i64 0, .int .i64 0, .int .i64 0, .int .i64 0, .int .i64 0, .int .i64 0]) (t := 79) ?hr ?_; (case hd => rfl); (case hg => rfl); (case hr => first | (go_simp; done) | (go_simp; rfl)); intro g4724 hg w4725 hbox hb; replace HS : Aside0 (Sep FF w [b14 g4338 g4340 a4348 a4349 a4350 a4351, b13 g4340 A4343 l4342.length n4345 t4721.2.2.2.2.2.2.2.2, r7 A4343 l4342.length n4345 l4342, b16 g4354 g4338, b2 g4356 a4357, b3 g4724 0 0 0 0 0 0 0] w4725) := ⟨HS.out.box hg hbox hb⟩; clear hg hbox hb; have hc4727 : w4725.cell? ⟨g4724, 0, none⟩ = some (.int .i64 0) := blk_cellv (HS.out.at5) 0 rfl; have hz4728 : w4725.frozen? ⟨g4724, 0, none⟩ = false := blk_fz (HS.out.at5) 0; have hc4729 : w4725.cell? ⟨g4724, 1, none⟩ = some (.int .i64 0) := blk_cellv (HS.out.at5) 1 rfl; have hz4730 : w4725.frozen? ⟨g4724, 1, none⟩ = false := blk_fz (HS.out.at5) 1; have hc4731 : w4725.cell? ⟨g4724, 2, none⟩ = some (.int .i64 0) := blk_cellv (HS.out.at5) 2 rfl; have hz4732 : w4725.frozen? ⟨g4724, 2, none⟩ = false := blk_fz (HS.out.at5) 2; have hc4733 : w4725.cell? ⟨g4724, 3, none⟩ = some (.int .i64 0) := blk_cellv (HS.out.at5) 3 rfl; have hz4734 : w4725.frozen? ⟨g4724, 3, none⟩ = false := blk_fz (HS.out.at5) 3; have hc4735 : w4725.cell? ⟨g4724, 4, none⟩ = some (.int .i64 0) := blk_cellv (HS.out.at5) 4 rfl; have hz4736 : w4725.frozen? ⟨g4724, 4, none⟩ = false := blk_fz (HS.out.at5) 4; have hc4737 : w4725.cell? ⟨g4724, 5, none⟩ = some (.int .i64 0) := blk_cellv (HS.out.at5) 5 rfl; have hz4738 : w4725.frozen? ⟨g4724, 5, none⟩ = false := blk_fz (HS.out.at5) 5; have hc4739 : w4725.cell? ⟨g4724, 6, none⟩ = some (.int .i64 0) := blk_cellv (HS.out.at5) 6 rfl; have hz4740 : w4725.frozen? ⟨g4724, 6, none⟩ = false := blk_fz (HS.out.at5) 6) | ((with_reducible refine gate_store (t := 79) (p := 7) rfl ?_); refine store_event (w1 := (World.setCell (World.setCell (World.setCell (World.setCell (World.setCell (World.setCell (World.setCell w4725 ⟨g4724, 0, none⟩ (.int .i64 t4721.1)) ⟨g4724, 1, none⟩ (.int .i64 t4721.2.1)) ⟨g4724, 2, none⟩ (.int .i64 t4721.2.2.1)) ⟨g4724, 3, none⟩ (.int .i64 t4721.2.2.2.1)) ⟨g4724, 4, none⟩ (.int .i64 t4721.2.2.2.2.1)) ⟨g4724, 5, none⟩ (.int .i64 t4721.2.2.2.2.2.1)) ⟨g4724, 6, none⟩ (.int .i64 t4721.2.2.2.2.2.2.1))) rfl (t := 79) (p := 7) rfl rfl ?hr ?_; (case hr => first | (go_simp; done) | (go_simp; rfl)); intro w4741 hst; clear hc4727 hz4728 hc4729 hz4730 hc4731 hz4732 hc4733 hz4734 hc4735 hz4736 hc4737 hz4738 hc4739 hz4740; replace HS : Aside0 (Sep FF w [b14 g4338 g4340 a4348 a4349 a4350 a4351, b13 g4340 A4343 l4342.length n4345 t4721.2.2.2.2.2.2.2.2, r7 A4343 l4342.length n4345 l4342, b16 g4354 g4338, b2 g4356 a4357, b3 g4724 t4721.1 t4721.2.1 t4721.2.2.1 t4721.2.2.2.1 t4721.2.2.2.2.1 t4721.2.2.2.2.2.1 t4721.2.2.2.2.2.2.1] w4741) := ⟨by rw [hst]; exact HS.out.setAll (l1 := [b14 g4338 g4340 a4348 a4349 a4350 a4351, b13 g4340 A4343 l4342.length n4345 t4721.2.2.2.2.2.2.2.2, r7 A4343 l4342.length n4345 l4342, b16 g4354 g4338, b2 g4356 a4357]) (l2 := []) [.int .i64 t4721.1, .int .i64 t4721.2.1, .int .i64 t4721.2.2.1, .int .i64 t4721.2.2.2.1, .int .i64 t4721.2.2.2.2.1, .int .i64 t4721.2.2.2.2.2.1, .int .i64 t4721.2.2.2.2.2.2.1] rfl⟩; clear hst; replace HS : Aside0 (Sep FF w [b14 g4338 g4340 a4348 a4349 a4350 a4351, b13 g4340 A4343 l4342.length n4345 t4721.2.2.2.2.2.2.2.2, r7 A4343 l4342.length n4345 l4342, b16 g4354 g4338, b2 g4356 a4357] w4741) := ⟨HS.out.sub (.cons_cons _ (.cons_cons _ (.cons_cons _ (.cons_cons _ (.cons_cons _ (.cons _ .slnil))))))⟩))
    go_ret
    rw [← some_eq H]
    exact ⟨(by first | rfl | (simp [IntKind.wrap_u32]; done)), HS.out⟩

set_option maxHeartbeats 30000000 in
set_option maxRecDepth 100000 in
theorem tint_Dye.calls (k : Nat) (l4318 : List Int) (a4323 : Int) (a4324 : Int) (a4325 : Int) (a4326 : Int) (a4327 : Int) (a4328 : Int) (g4314 : Nat) (g4316 : Nat) (A4319 : Option Addr) (m4320 : Nat) (n4321 : Nat) (r : Bool × Int × List Int) (w : World)  (HGl0 : Aside0 (Gl 0 #[.int .i64 0, .int .i64 0, .int .i64 0, .int .i64 0, .int .i64 0] (fps [b14 g4314 g4316 a4324 a4325 a4326 a4327, b13 g4316 A4319 m4320 n4321 a4323, r7 A4319 m4320 n4321 l4318]) w)) (HS : Aside0 (Sep (fps [b14 g4314 g4316 a4324 a4325 a4326 a4327, b13 g4316 A4319 m4320 n4321 a4323, r7 A4319 m4320 n4321 l4318]) w [b14 g4314 g4316 a4324 a4325 a4326 a4327, b13 g4316 A4319 m4320 n4321 a4323, r7 A4319 m4320 n4321 l4318] w)) (H : Aside0 (tint_Dye.f k l4318 a4323 a4324 a4325 a4326 a4327 a4328 = some r)) :
    Calls Tryz.prog 12 #[.pointer (some ⟨g4314, 0, none⟩), .int .i64 a4328] w fun e w' => e = .returned (.bool r.1) ∧ Sep (fps [b14 g4314 g4316 a4324 a4325 a4326 a4327, b13 g4316 A4319 m4320 n4321 a4323, r7 A4319 m4320 n4321 l4318]) w [b14 g4314 g4316 a4324 a4325 a4326 a4327, b13 g4316 A4319 m4320 n4321 r.2.1, r7 A4319 m4320 n4321 r.2.2] w' := by
  generalize (fps [b14 g4314 g4316 a4324 a4325 a4326 a4327, b13 g4316 A4319 m4320 n4321 a4323, r7 A4319 m4320 n4321 l4318]) = FF at HS HGl0 ⊢
  obtain rfl := (row_len (HS.out.at2)).symm
  unfold tint_Dye.f at H
  go_enter Tryz.func12, Tryz.ntmps12
  go_wp2_with (first | ((with_reducible refine gate_dst (N := 2) rfl ?_); refine box_on ?hg (N := 2) ?hd (cs := #[.pointer (some ⟨g4314, 0, none⟩)]) (t := 24) ?hr ?_; (case hd => rfl); (case hg => rfl); (case hr => first | (go_simp; done) | (go_simp; rfl)); intro g4766 hg w4767 hbox hb; replace HS : Aside0 (Sep FF w [b14 g4314 g4316 a4324 a4325 a4326 a4327, b13 g4316 A4319 l4318.length n4321 a4323, r7 A4319 l4318.length n4321 l4318, b16 g4766 g4314] w4767) := ⟨HS.out.box hg hbox hb⟩; clear hg hbox hb) | ((with_reducible refine gate_dst (N := 3) rfl ?_); refine box_on ?hg (N := 3) ?hd (cs := #[.int .i64 a4328]) (t := 3) ?hr ?_; (case hd => rfl); (case hg => rfl); (case hr => first | (go_simp; done) | (go_simp; rfl)); intro g4769 hg w4770 hbox hb; replace HS : Aside0 (Sep FF w [b14 g4314 g4316 a4324 a4325 a4326 a4327, b13 g4316 A4319 l4318.length n4321 a4323, r7 A4319 l4318.length n4321 l4318, b16 g4766 g4314, b2 g4769 a4328] w4770) := ⟨HS.out.box hg hbox hb⟩; clear hg hbox hb; have hc4772 : w4770.cell? ⟨g4766, 0, none⟩ = some (.pointer (some ⟨g4314, 0, none⟩)) := blk_cellv (HS.out.at3) 0 rfl; have hc4773 : w4770.cell? ⟨g4769, 0, none⟩ = some (.int .i64 a4328) := blk_cellv (HS.out.at4) 0 rfl))
  clear hc4772 hc4773
  obtain ⟨t4774, HA4775, H⟩ := bind_some H
  refine (tint_change_F52.calls _ l4318 a4323 a4324 a4325 a4326 a4327 a4328 a4328 g4314 g4316 A4319 l4318.length n4321 g4766 g4769 t4774 _ ⟨HGl0.out.pass HS.out⟩ ⟨HS.out.begin⟩ HA4775).mono ?_
  rintro e_ w4776 ⟨rfl, hS⟩
  replace HS : Aside0 (Sep FF w [b14 g4314 g4316 a4324 a4325 a4326 a4327, b13 g4316 A4319 l4318.length n4321 t4774.2.1, r7 A4319 l4318.length n4321 t4774.2.2, b16 g4766 g4314, b2 g4769 a4328] w4776) := ⟨HS.out.call hS⟩
  clear hS
  replace HS : Aside0 (Sep FF w [b14 g4314 g4316 a4324 a4325 a4326 a4327, b13 g4316 A4319 l4318.length n4321 t4774.2.1, r7 A4319 l4318.length n4321 t4774.2.2] w4776) := ⟨HS.out.sub (.cons_cons _ (.cons_cons _ (.cons_cons _ (.cons _ (.cons _ .slnil)))))⟩
  go_wp2_with fail
  go_ret
  rw [← some_eq H]
  exact ⟨(by first | rfl | (simp [IntKind.wrap_u32]; done)), HS.out⟩

set_option maxHeartbeats 30000000 in
set_option maxRecDepth 100000 in
theorem tint_Black.calls (l4785 : List Int) (a4790 : Int) (a4791 : Int) (a4792 : Int) (a4793 : Int) (a4794 : Int) (a4795 : Int) (g4781 : Nat) (g4783 : Nat) (A4786 : Option Addr) (m4787 : Nat) (n4788 : Nat) (r : Bool × Int) (w : World)  (HGl0 : Aside0 (Gl 0 #[.int .i64 0, .int .i64 0, .int .i64 0, .int .i64 0, .int .i64 0] (fps [b14 g4781 g4783 a4791 a4792 a4793 a4794, b13 g4783 A4786 m4787 n4788 a4790, r7 A4786 m4787 n4788 l4785]) w)) (HS : Aside0 (Sep (fps [b14 g4781 g4783 a4791 a4792 a4793 a4794, b13 g4783 A4786 m4787 n4788 a4790, r7 A4786 m4787 n4788 l4785]) w [b14 g4781 g4783 a4791 a4792 a4793 a4794, b13 g4783 A4786 m4787 n4788 a4790, r7 A4786 m4787 n4788 l4785] w)) (H : Aside0 (tint_Black.f l4785 a4790 a4791 a4792 a4793 a4794 a4795 = some r)) :
    Calls Tryz.prog 16 #[.pointer (some ⟨g4781, 0, none⟩), .int .i64 a4795] w fun e w' => e = .returned (.bool r.1) ∧ Sep (fps [b14 g4781 g4783 a4791 a4792 a4793 a4794, b13 g4783 A4786 m4787 n4788 a4790, r7 A4786 m4787 n4788 l4785]) w [b14 g4781 g4783 a4791 a4792 a4793 a4794, b13 g4783 A4786 m4787 n4788 r.2, r7 A4786 m4787 n4788 l4785] w' := by
  generalize (fps [b14 g4781 g4783 a4791 a4792 a4793 a4794, b13 g4783 A4786 m4787 n4788 a4790, r7 A4786 m4787 n4788 l4785]) = FF at HS HGl0 ⊢
  obtain rfl := (row_len (HS.out.at2)).symm
  unfold tint_Black.f at H
  go_enter Tryz.func16, Tryz.ntmps16
  go_wp2_with fail
  obtain ⟨t4823, HA4824, H⟩ := bind_some H
  refine (tint_of.calls l4785 a4790 a4791 a4792 a4793 a4794 a4795 g4781 g4783 A4786 l4785.length n4788 t4823 _ ⟨HGl0.out.pass HS.out⟩ ⟨HS.out.begin⟩ HA4824).mono ?_
  rintro e_ w4825 ⟨rfl, hS⟩
  replace HS : Aside0 (Sep FF w [b14 g4781 g4783 a4791 a4792 a4793 a4794, b13 g4783 A4786 l4785.length n4788 t4823.2.2.2.2.2.2.2.2, r7 A4786 l4785.length n4788 l4785] w4825) := ⟨HS.out.call hS⟩
  clear hS
  go_wp2_with (first | ((with_reducible refine gate_dst (N := 5) rfl ?_); refine box_on ?hg (N := 5) ?hd (cs := #[.int .i64 0, .int .i64 0, .int .i64 0, .int .i64 0, .int .i64 0, .int .i64 0, .int .i64 0]) (t := 79) ?hr ?_; (case hd => rfl); (case hg => rfl); (case hr => first | (go_simp; done) | (go_simp; rfl)); intro g4826 hg w4827 hbox hb; replace HS : Aside0 (Sep FF w [b14 g4781 g4783 a4791 a4792 a4793 a4794, b13 g4783 A4786 l4785.length n4788 t4823.2.2.2.2.2.2.2.2, r7 A4786 l4785.length n4788 l4785, b3 g4826 0 0 0 0 0 0 0] w4827) := ⟨HS.out.box hg hbox hb⟩; clear hg hbox hb; have hc4829 : w4827.cell? ⟨g4826, 0, none⟩ = some (.int .i64 0) := blk_cellv (HS.out.at3) 0 rfl; have hz4830 : w4827.frozen? ⟨g4826, 0, none⟩ = false := blk_fz (HS.out.at3) 0; have hc4831 : w4827.cell? ⟨g4826, 1, none⟩ = some (.int .i64 0) := blk_cellv (HS.out.at3) 1 rfl; have hz4832 : w4827.frozen? ⟨g4826, 1, none⟩ = false := blk_fz (HS.out.at3) 1; have hc4833 : w4827.cell? ⟨g4826, 2, none⟩ = some (.int .i64 0) := blk_cellv (HS.out.at3) 2 rfl; have hz4834 : w4827.frozen? ⟨g4826, 2, none⟩ = false := blk_fz (HS.out.at3) 2; have hc4835 : w4827.cell? ⟨g4826, 3, none⟩ = some (.int .i64 0) := blk_cellv (HS.out.at3) 3 rfl; have hz4836 : w4827.frozen? ⟨g4826, 3, none⟩ = false := blk_fz (HS.out.at3) 3; have hc4837 : w4827.cell? ⟨g4826, 4, none⟩ = some (.int .i64 0) := blk_cellv (HS.out.at3) 4 rfl; have hz4838 : w4827.frozen? ⟨g4826, 4, none⟩ = false := blk_fz (HS.out.at3) 4; have hc4839 : w4827.cell? ⟨g4826, 5, none⟩ = some (.int .i64 0) := blk_cellv (HS.out.at3) 5 rfl; have hz4840 : w4827.frozen? ⟨g4826, 5, none⟩ = false := blk_fz (HS.out.at3) 5; have hc4841 : w4827.cell? ⟨g4826, 6, none⟩ = some (.int .i64 0) := blk_cellv (HS.out.at3) 6 rfl; have hz4842 : w4827.frozen? ⟨g4826, 6, none⟩ = false := blk_fz (HS.out.at3) 6) | ((with_reducible refine gate_store (t := 79) (p := 5) rfl ?_); refine store_event (w1 := (World.setCell (World.setCell (World.setCell (World.setCell (World.setCell (World.setCell (World.setCell w4827 ⟨g4826, 0, none⟩ (.int .i64 t4823.1)) ⟨g4826, 1, none⟩ (.int .i64 t4823.2.1)) ⟨g4826, 2, none⟩ (.int .i64 t4823.2.2.1)) ⟨g4826, 3, none⟩ (.int .i64 t4823.2.2.2.1)) ⟨g4826, 4, none⟩ (.int .i64 t4823.2.2.2.2.1)) ⟨g4826, 5, none⟩ (.int .i64 t4823.2.2.2.2.2.1)) ⟨g4826, 6, none⟩ (.int .i64 t4823.2.2.2.2.2.2.1))) rfl (t := 79) (p := 5) rfl rfl ?hr ?_; (case hr => first | (go_simp; done) | (go_simp; rfl)); intro w4843 hst; clear hc4829 hz4830 hc4831 hz4832 hc4833 hz4834 hc4835 hz4836 hc4837 hz4838 hc4839 hz4840 hc4841 hz4842; replace HS : Aside0 (Sep FF w [b14 g4781 g4783 a4791 a4792 a4793 a4794, b13 g4783 A4786 l4785.length n4788 t4823.2.2.2.2.2.2.2.2, r7 A4786 l4785.length n4788 l4785, b3 g4826 t4823.1 t4823.2.1 t4823.2.2.1 t4823.2.2.2.1 t4823.2.2.2.2.1 t4823.2.2.2.2.2.1 t4823.2.2.2.2.2.2.1] w4843) := ⟨by rw [hst]; exact HS.out.setAll (l1 := [b14 g4781 g4783 a4791 a4792 a4793 a4794, b13 g4783 A4786 l4785.length n4788 t4823.2.2.2.2.2.2.2.2, r7 A4786 l4785.length n4788 l4785]) (l2 := []) [.int .i64 t4823.1, .int .i64 t4823.2.1, .int .i64 t4823.2.2.1, .int .i64 t4823.2.2.2.1, .int .i64 t4823.2.2.2.2.1, .int .i64 t4823.2.2.2.2.2.1, .int .i64 t4823.2.2.2.2.2.2.1] rfl⟩; clear hst))
  refine start_ (n := 9) (S := (fun w' => w'.cell? ⟨g4826, 1, none⟩ = some (.int .i64 t4823.2.1))) (ds := []) #[false, false, false, false, false, false, false, false, false] (by kernel_rfl) rfl rfl (blk_cellv ((HS.out.drew).at3) 1 rfl) (fun hHeld => ?_)
  have HS_ := Aside0.mk HS.out.drew
  clear HS
  generalize World.drew _ = w4845 at HS_ hHeld ⊢
  have HS := HS_
  clear HS_
  refine pure_ (i := 0) (N := some 13) (v := ?_) (a' := ?_) #[true, false, false, false, false, false, false, false, false] rfl rfl (by kernel_rfl) (fun _ _ _ h => h) (Or.inl ⟨by rfl, ?_⟩) ?_ ?_
  rotate_left
  · intro w'
    go_simp
    with_reducible rfl
  rotate_left
  · simp only [Act.put, List.setIfInBounds_toArray, List.set_cons_zero, List.set_cons_succ, i64_w, i32_w]
    rfl
  refine pure_ (i := 1) (N := some 14) (v := ?_) (a' := ?_) #[true, true, false, false, false, false, false, false, false] rfl rfl (by kernel_rfl) (fun _ _ _ h => h) (Or.inl ⟨by rfl, ?_⟩) ?_ ?_
  rotate_left
  · intro w'
    go_simp
    with_reducible rfl
  rotate_left
  · simp only [Act.put, List.setIfInBounds_toArray, List.set_cons_zero, List.set_cons_succ, i64_w, i32_w]
    rfl
  by_cases c4846 : t4823.2.2.2.2.2.2.2.1 = true
  · have H := if_yes c4846 H
    have c4846b0 : t4823.2.2.2.2.2.2.2.1 = true := c4846
    have c4846b1 : (!t4823.2.2.2.2.2.2.2.1) = false := by rw [c4846b0]; rfl
    clear c4846
    try simp only [c4846b0, Bool.not_true, Bool.not_false]
    refine pure_ (i := 2) (N := some 15) (v := ?_) (a' := ?_) #[true, true, true, false, false, false, false, false, false] rfl rfl (by kernel_rfl) (fun _ _ _ h => h) (Or.inl ⟨by rfl, ?_⟩) ?_ ?_
    rotate_left
    · intro w'
      go_simp
      with_reducible rfl
    rotate_left
    · simp only [Act.put, List.setIfInBounds_toArray, List.set_cons_zero, List.set_cons_succ, i64_w, i32_w]
      rfl
    try simp only [c4846b0, Bool.not_true, Bool.not_false]
    refine pure_ (i := 4) (N := some 17) (v := ?_) (a' := ?_) #[true, true, true, false, true, false, false, false, false] rfl rfl (by kernel_rfl) (fun _ _ _ h => h) (Or.inl ⟨by rfl, ?_⟩) ?_ ?_
    rotate_left
    · intro w'
      go_simp
      with_reducible rfl
    rotate_left
    · simp only [Act.put, List.setIfInBounds_toArray, List.set_cons_zero, List.set_cons_succ, i64_w, i32_w]
      rfl
    try simp only [c4846b0, Bool.not_true, Bool.not_false]
    refine take_ (i := 3) (N := some 16) (v := ?_) (a' := ?_) #[true, true, true, true, true, false, false, false, false] rfl rfl (by kernel_rfl) (fun _ _ _ h => h) (Or.inl ⟨by rfl, ?_⟩) hHeld ?_ ?_
    rotate_left
    · rintro w' hS'
      have s0 := hS'
      go_simp
      with_reducible rfl
    rotate_left
    · simp only [Act.put, List.setIfInBounds_toArray, List.set_cons_zero, List.set_cons_succ, i64_w, i32_w]
      rfl
    try simp only [c4846b0, Bool.not_true, Bool.not_false]
    refine one_ (i := 5) (N := some 18) #[true, true, true, true, true, true, false, false, false] rfl rfl (by kernel_rfl) (by decide) (fun K hK => ?_)
    obtain ⟨t4847, HA4848, H⟩ := bind_some H
    refine goes_ Tryz.func15 (by kernel_rfl) rfl #[.pointer (some ⟨g4781, 0, none⟩)] (by rfl) rfl rfl (by (try simp only [List.map_toArray, List.map_cons, List.map_nil]); first | done | rfl) ?_
    refine (tint_Parity.calls l4785 t4823.2.2.2.2.2.2.2.2 a4791 a4792 a4793 a4794 g4781 g4783 A4786 l4785.length n4788 t4847 _ ⟨HGl0.out.pass HS.out⟩ ⟨HS.out.begin⟩ HA4848).mono ?_
    rintro e_ w4849 ⟨rfl, hS⟩
    replace HS : Aside0 (Sep FF w [b14 g4781 g4783 a4791 a4792 a4793 a4794, b13 g4783 A4786 l4785.length n4788 t4847.2, r7 A4786 l4785.length n4788 l4785, b3 g4826 t4823.1 t4823.2.1 t4823.2.2.1 t4823.2.2.2.1 t4823.2.2.2.2.1 t4823.2.2.2.2.2.1 t4823.2.2.2.2.2.2.1] w4849) := ⟨HS.out.call hS⟩
    clear hS
    refine ⟨_, rfl, ?_⟩
    refine hK.out _ _ (blk_cellv (HS.out.at3) 1 rfl) (fun hHeld => ?_)
    clear hK K
    refine norm_ (a' := ?_) ?_ ?_
    rotate_left
    · show Act.put _ (some 18) _ = _
      simp only [Act.put, List.setIfInBounds_toArray, List.set_cons_zero, List.set_cons_succ, i64_w, i32_w]
      rfl
    try simp only [c4846b0, Bool.not_true, Bool.not_false]
    refine pure_ (i := 6) (N := some 19) (v := ?_) (a' := ?_) #[true, true, true, true, true, true, true, false, false] rfl rfl (by kernel_rfl) (fun _ _ _ h => h) (Or.inl ⟨by rfl, ?_⟩) ?_ ?_
    rotate_left
    · intro w'
      go_simp
      with_reducible rfl
    rotate_left
    · simp only [Act.put, List.setIfInBounds_toArray, List.set_cons_zero, List.set_cons_succ, i64_w, i32_w]
      rfl
    refine pure_ (i := 7) (N := some 20) (v := ?_) (a' := ?_) #[true, true, true, true, true, true, true, true, false] rfl rfl (by kernel_rfl) (fun _ _ _ h => h) (Or.inl ⟨by rfl, ?_⟩) ?_ ?_
    rotate_left
    · intro w'
      go_simp
      with_reducible rfl
    rotate_left
    · simp only [Act.put, List.setIfInBounds_toArray, List.set_cons_zero, List.set_cons_succ, i64_w, i32_w]
      rfl
    refine pure_ (i := 8) (N := some 4) (v := ?_) (a' := ?_) #[true, true, true, true, true, true, true, true, true] rfl rfl (by kernel_rfl) (fun _ _ _ h => h) (Or.inl ⟨by rfl, ?_⟩) ?_ ?_
    rotate_left
    · intro w'
      go_simp
      with_reducible rfl
    rotate_left
    · simp only [Act.put, List.setIfInBounds_toArray, List.set_cons_zero, List.set_cons_succ, i64_w, i32_w]
      rfl
    refine done_ (by kernel_rfl) ?_
    replace HS : Aside0 (Sep FF w [b14 g4781 g4783 a4791 a4792 a4793 a4794, b13 g4783 A4786 l4785.length n4788 t4847.2, r7 A4786 l4785.length n4788 l4785] w4849) := ⟨HS.out.sub (.cons_cons _ (.cons_cons _ (.cons_cons _ (.cons _ .slnil))))⟩
    go_wp2_with fail
    go_ret
    rw [← some_eq H]
    exact ⟨(by first | rfl | (simp [IntKind.wrap_u32]; done)), HS.out⟩
  · have H := if_no c4846 H
    have c4846b0 : t4823.2.2.2.2.2.2.2.1 = false := by simpa using c4846
    have c4846b1 : (!t4823.2.2.2.2.2.2.2.1) = true := by rw [c4846b0]; rfl
    clear c4846
    try simp only [c4846b0, Bool.not_true, Bool.not_false]
    refine pure_ (i := 2) (N := some 15) (v := undef) (a' := ?_) #[true, true, true, false, false, false, false, false, false] rfl rfl (by kernel_rfl) (fun _ _ _ h => h) (Or.inr ⟨by rfl, rfl⟩) ?_ ?_
    rotate_left
    · simp only [Act.put, List.setIfInBounds_toArray, List.set_cons_zero, List.set_cons_succ, i64_w, i32_w]
      rfl
    try simp only [c4846b0, Bool.not_true, Bool.not_false]
    refine pure_ (i := 3) (N := some 16) (v := undef) (a' := ?_) #[true, true, true, true, false, false, false, false, false] rfl rfl (by kernel_rfl) (fun _ _ _ h => h) (Or.inr ⟨by rfl, rfl⟩) ?_ ?_
    rotate_left
    · simp only [Act.put, List.setIfInBounds_toArray, List.set_cons_zero, List.set_cons_succ, i64_w, i32_w]
      rfl
    try simp only [c4846b0, Bool.not_true, Bool.not_false]
    refine pure_ (i := 4) (N := some 17) (v := undef) (a' := ?_) #[true, true, true, true, true, false, false, false, false] rfl rfl (by kernel_rfl) (fun _ _ _ h => h) (Or.inr ⟨by rfl, rfl⟩) ?_ ?_
    rotate_left
    · simp only [Act.put, List.setIfInBounds_toArray, List.set_cons_zero, List.set_cons_succ, i64_w, i32_w]
      rfl
    try simp only [c4846b0, Bool.not_true, Bool.not_false]
    refine pure_ (i := 5) (N := some 18) (v := undef) (a' := ?_) #[true, true, true, true, true, true, false, false, false] rfl rfl (by kernel_rfl) (fun _ _ _ h => h) (Or.inr ⟨by rfl, rfl⟩) ?_ ?_
    rotate_left
    · simp only [Act.put, List.setIfInBounds_toArray, List.set_cons_zero, List.set_cons_succ, i64_w, i32_w]
      rfl
    try simp only [c4846b0, Bool.not_true, Bool.not_false]
    refine pure_ (i := 6) (N := some 19) (v := undef) (a' := ?_) #[true, true, true, true, true, true, true, false, false] rfl rfl (by kernel_rfl) (fun _ _ _ h => h) (Or.inr ⟨by rfl, rfl⟩) ?_ ?_
    rotate_left
    · simp only [Act.put, List.setIfInBounds_toArray, List.set_cons_zero, List.set_cons_succ, i64_w, i32_w]
      rfl
    refine pure_ (i := 7) (N := some 20) (v := ?_) (a' := ?_) #[true, true, true, true, true, true, true, true, false] rfl rfl (by kernel_rfl) (fun _ _ _ h => h) (Or.inl ⟨by rfl, ?_⟩) ?_ ?_
    rotate_left
    · intro w'
      go_simp
      with_reducible rfl
    rotate_left
    · simp only [Act.put, List.setIfInBounds_toArray, List.set_cons_zero, List.set_cons_succ, i64_w, i32_w]
      rfl
    refine pure_ (i := 8) (N := some 4) (v := ?_) (a' := ?_) #[true, true, true, true, true, true, true, true, true] rfl rfl (by kernel_rfl) (fun _ _ _ h => h) (Or.inl ⟨by rfl, ?_⟩) ?_ ?_
    rotate_left
    · intro w'
      go_simp
      with_reducible rfl
    rotate_left
    · simp only [Act.put, List.setIfInBounds_toArray, List.set_cons_zero, List.set_cons_succ, i64_w, i32_w]
      rfl
    refine done_ (by kernel_rfl) ?_
    replace HS : Aside0 (Sep FF w [b14 g4781 g4783 a4791 a4792 a4793 a4794, b13 g4783 A4786 l4785.length n4788 t4823.2.2.2.2.2.2.2.2, r7 A4786 l4785.length n4788 l4785] w4845) := ⟨HS.out.sub (.cons_cons _ (.cons_cons _ (.cons_cons _ (.cons _ .slnil))))⟩
    go_wp2_with fail
    go_ret
    rw [← some_eq H]
    exact ⟨(by first | rfl | (simp [IntKind.wrap_u32]; done)), HS.out⟩

set_option maxHeartbeats 30000000 in
set_option maxRecDepth 100000 in
theorem tint_Turn.calls (l4858 : List Int) (a4863 : Int) (a4864 : Int) (a4865 : Int) (a4866 : Int) (a4867 : Int) (g4854 : Nat) (g4856 : Nat) (A4859 : Option Addr) (m4860 : Nat) (n4861 : Nat) (r : Int × List Int) (w : World)  (HGl0 : Aside0 (Gl 0 #[.int .i64 0, .int .i64 0, .int .i64 0, .int .i64 0, .int .i64 0] (fps [b14 g4854 g4856 a4864 a4865 a4866 a4867, b13 g4856 A4859 m4860 n4861 a4863, r7 A4859 m4860 n4861 l4858]) w)) (HS : Aside0 (Sep (fps [b14 g4854 g4856 a4864 a4865 a4866 a4867, b13 g4856 A4859 m4860 n4861 a4863, r7 A4859 m4860 n4861 l4858]) w [b14 g4854 g4856 a4864 a4865 a4866 a4867, b13 g4856 A4859 m4860 n4861 a4863, r7 A4859 m4860 n4861 l4858] w)) (H : Aside0 (tint_Turn.f l4858 a4863 a4864 a4865 a4866 a4867 = some r)) :
    Calls Tryz.prog 9 #[.pointer (some ⟨g4854, 0, none⟩)] w fun e w' => e = .returned (.tuple #[]) ∧ Sep (fps [b14 g4854 g4856 a4864 a4865 a4866 a4867, b13 g4856 A4859 m4860 n4861 a4863, r7 A4859 m4860 n4861 l4858]) w [b14 g4854 g4856 a4864 a4865 a4866 a4867, b13 g4856 A4859 m4860 n4861 r.1, r7 A4859 m4860 n4861 r.2] w' := by
  generalize (fps [b14 g4854 g4856 a4864 a4865 a4866 a4867, b13 g4856 A4859 m4860 n4861 a4863, r7 A4859 m4860 n4861 l4858]) = FF at HS HGl0 ⊢
  obtain rfl := (row_len (HS.out.at2)).symm
  unfold tint_Turn.f at H
  go_enter Tryz.func9, Tryz.ntmps9
  go_wp2_with fail
  obtain ⟨t4874, HA4875, H⟩ := bind_some H
  refine (ground_Ground_Reg.calls l4858 a4863 a4864 a4865 a4866 a4867 10 g4854 g4856 A4859 l4858.length n4861 t4874 _ ⟨HGl0.out.pass HS.out⟩ ⟨HS.out.begin⟩ HA4875).mono ?_
  rintro e_ w4876 ⟨rfl, hS⟩
  replace HS : Aside0 (Sep FF w [b14 g4854 g4856 a4864 a4865 a4866 a4867, b13 g4856 A4859 l4858.length n4861 t4874.2, r7 A4859 l4858.length n4861 l4858] w4876) := ⟨HS.out.call hS⟩
  clear hS
  go_wp2_with fail
  obtain ⟨t4877, HA4878, H⟩ := bind_some H
  refine (ground_Ground_SetReg.calls l4858 t4874.2 a4864 a4865 a4866 a4867 10 (wrap64 (1 - t4874.1)) g4854 g4856 A4859 l4858.length n4861 t4877 _ ⟨HGl0.out.pass HS.out⟩ ⟨HS.out.begin⟩ HA4878).mono ?_
  rintro e_ w4879 ⟨rfl, hS⟩
  replace HS : Aside0 (Sep FF w [b14 g4854 g4856 a4864 a4865 a4866 a4867, b13 g4856 A4859 l4858.length n4861 t4877.2.1, r7 A4859 l4858.length n4861 t4877.2.2] w4879) := ⟨HS.out.call hS⟩
  clear hS
  go_wp2_with fail
  first | go_end0 | refine bodyPost_ret (results_none rfl _ _ _) rfl ?_
  rw [← some_eq H]
  exact ⟨rfl, HS.out⟩

set_option maxHeartbeats 30000000 in
set_option maxRecDepth 100000 in
theorem tint_Begin.calls (k : Nat) (l4887 : List Int) (a4892 : Int) (a4893 : Int) (a4894 : Int) (a4895 : Int) (a4896 : Int) (a4897 : Int) (g4883 : Nat) (g4885 : Nat) (A4888 : Option Addr) (m4889 : Nat) (n4890 : Nat) (r : Bool × Int × List Int) (w : World)  (HGl0 : Aside0 (Gl 0 #[.int .i64 0, .int .i64 0, .int .i64 0, .int .i64 0, .int .i64 0] (fps [b14 g4883 g4885 a4893 a4894 a4895 a4896, b13 g4885 A4888 m4889 n4890 a4892, r7 A4888 m4889 n4890 l4887]) w)) (HS : Aside0 (Sep (fps [b14 g4883 g4885 a4893 a4894 a4895 a4896, b13 g4885 A4888 m4889 n4890 a4892, r7 A4888 m4889 n4890 l4887]) w [b14 g4883 g4885 a4893 a4894 a4895 a4896, b13 g4885 A4888 m4889 n4890 a4892, r7 A4888 m4889 n4890 l4887] w)) (H : Aside0 (tint_Begin.f k l4887 a4892 a4893 a4894 a4895 a4896 a4897 = some r)) :
    Calls Tryz.prog 10 #[.pointer (some ⟨g4883, 0, none⟩), .int .i64 a4897] w fun e w' => e = .returned (.bool r.1) ∧ Sep (fps [b14 g4883 g4885 a4893 a4894 a4895 a4896, b13 g4885 A4888 m4889 n4890 a4892, r7 A4888 m4889 n4890 l4887]) w [b14 g4883 g4885 a4893 a4894 a4895 a4896, b13 g4885 A4888 m4889 n4890 r.2.1, r7 A4888 m4889 n4890 r.2.2] w' := by
  generalize (fps [b14 g4883 g4885 a4893 a4894 a4895 a4896, b13 g4885 A4888 m4889 n4890 a4892, r7 A4888 m4889 n4890 l4887]) = FF at HS HGl0 ⊢
  obtain rfl := (row_len (HS.out.at2)).symm
  unfold tint_Begin.f at H
  go_enter Tryz.func10, Tryz.ntmps10
  by_cases c4932 : a4897 < 0
  · have H := if_yes c4932 H
    have c4932b0 : decide (a4897 < 0) = true := decide_eq_true c4932
    clear c4932
    go_wp2_with fail
    go_ret
    rw [← some_eq H]
    exact ⟨(by first | rfl | (simp [IntKind.wrap_u32]; done)), HS.out⟩
  · have H := if_no c4932 H
    have c4932b0 : decide (a4897 < 0) = false := decide_eq_false c4932
    clear c4932
    by_cases c4933 : a4897 > 3
    · have H := if_yes c4933 H
      have c4933b0 : decide (3 < a4897) = true := decide_eq_true c4933
      clear c4933
      go_wp2_with fail
      go_ret
      rw [← some_eq H]
      exact ⟨(by first | rfl | (simp [IntKind.wrap_u32]; done)), HS.out⟩
    · have H := if_no c4933 H
      have c4933b0 : decide (3 < a4897) = false := decide_eq_false c4933
      clear c4933
      go_wp2_with fail
      obtain ⟨t4934, HA4935, H⟩ := bind_some H
      refine (ground_Ground_SetReg.calls l4887 a4892 a4893 a4894 a4895 a4896 11 a4897 g4883 g4885 A4888 l4887.length n4890 t4934 _ ⟨HGl0.out.pass HS.out⟩ ⟨HS.out.begin⟩ HA4935).mono ?_
      rintro e_ w4936 ⟨rfl, hS⟩
      replace HS : Aside0 (Sep FF w [b14 g4883 g4885 a4893 a4894 a4895 a4896, b13 g4885 A4888 l4887.length n4890 t4934.2.1, r7 A4888 l4887.length n4890 t4934.2.2] w4936) := ⟨HS.out.call hS⟩
      clear hS
      go_wp2_with (first | ((with_reducible refine gate_dst (N := 20) rfl ?_); refine slice_on (n := 4) ?hg (N := 20) ?hd (cs := #[.int .i64 12, .int .i64 13, .int .i64 14, .int .i64 15]) (t := 3) ?hr ?_; (case hd => rfl); (case hg => rfl); (case hr => first | (go_simp; done) | (go_simp; rfl)); intro g4937 hg w4938 hbox hb; replace HS : Aside0 (Sep FF w [b14 g4883 g4885 a4893 a4894 a4895 a4896, b13 g4885 A4888 l4887.length n4890 t4934.2.1, r7 A4888 l4887.length n4890 t4934.2.2, b22 g4937 12 13 14 15] w4938) := ⟨HS.out.box hg hbox hb⟩; clear hg hbox hb))
      obtain ⟨o4953, AL4954, H⟩ := bind_some H
      go_loopg [22] k (fun kq v22 wc => ∃ (x4957 : Int) (x4958 : List Int) (x4959 : Int), v22 = .int .i64 x4957 ∧ Aside0 (tint_Begin.lo0 kq a4893 a4894 a4895 a4896 x4957 x4958 x4959 = some o4953) ∧ Aside0 (Sep FF w [b14 g4883 g4885 a4893 a4894 a4895 a4896, b13 g4885 A4888 l4887.length n4890 x4959, r7 A4888 l4887.length n4890 x4958, b22 g4937 12 13 14 15] wc))
      case atStart => exact ⟨(0), (t4934.2.2), (t4934.2.1), (by first | rfl | (simp [IntKind.wrap_u32]; done)), AL4954, ⟨HS.out⟩⟩
      case round =>
        clear AL4954 HS
        obtain ⟨x4957, x4958, x4959, rfl, AL4954, HS⟩ := hrel
        obtain ⟨w4955, rfl⟩ : ∃ x : World, x = wr := ⟨_, rfl⟩
        cases gk with
        | zero => exact absurd AL4954.out (by simp [tint_Begin.lo0])
        | succ k4956 =>
          have AL0 := AL4954.out
          rw [tint_Begin.lo0] at AL0
          clear AL4954
          have AL4954 := Aside0.mk AL0
          clear AL0
          by_cases c4960 : x4957 < 4
          · have AL4954 := if_yes c4960 AL4954
            have c4960b0 : decide (x4957 < 4) = true := decide_eq_true c4960
            clear c4960
            by_cases c4961 : 0 ≤ x4957
            · have AL4954 := if_yes c4961 AL4954
              have c4961b0 : decide (0 ≤ x4957) = true := decide_eq_true c4961
              have c4961p : (0 ≤ x4957) = True := eq_true c4961
              clear c4961
              have ip4962 : (x4957 < 4) = True := eq_true (of_decide_eq_true c4960b0)
              have hx4963 := C_at_int (C_of_blk (xs := [12, 13, 14, 15]) (HS.out.at3) (by simp)) x4957 (of_decide_eq_true c4961b0) (of_decide_eq_true c4960b0)
              have hx4963p : w4955.cell? ⟨g4937, (x4957).toNat, none⟩ = some (.int .i64 (rd [12, 13, 14, 15] x4957)) := by have h_ := hx4963; rwa [add_plain] at h_
              go_wp2_with fail
              clear hx4963 hx4963p
              obtain ⟨t4950, HA4964, AL4954⟩ := bind_some AL4954
              refine (ground_Ground_SetReg.calls x4958 x4959 a4893 a4894 a4895 a4896 (rd [12, 13, 14, 15] x4957) 0 g4883 g4885 A4888 l4887.length n4890 t4950 _ ⟨HGl0.out.pass HS.out⟩ ⟨HS.out.begin⟩ HA4964).mono ?_
              rintro e_ w4965 ⟨rfl, hS⟩
              replace HS : Aside0 (Sep FF w [b14 g4883 g4885 a4893 a4894 a4895 a4896, b13 g4885 A4888 l4887.length n4890 t4950.2.1, r7 A4888 l4887.length n4890 t4950.2.2, b22 g4937 12 13 14 15] w4965) := ⟨HS.out.call hS⟩
              clear hS
              go_wp2_with fail
              go_roundg k4956
              case measure => exact Nat.lt_succ_self _
              case rel => exact ⟨(wrap64 (x4957 + 1)), (t4950.2.2), (t4950.2.1), (by first | rfl | (simp [IntKind.wrap_u32]; done)), Aside0.mk AL4954.out, ⟨HS.out⟩⟩
            · have AL4954 := if_no c4961 AL4954
              have c4961b0 : decide (0 ≤ x4957) = false := decide_eq_false c4961
              clear c4961
              exact (none_no AL4954).elim
          · have AL4954 := if_no c4960 AL4954
            have c4960b0 : decide (x4957 < 4) = false := decide_eq_false c4960
            clear c4960
            have ho := some_eq AL4954
            subst ho
            clear AL4954
            replace HS : Aside0 (Sep FF w [b14 g4883 g4885 a4893 a4894 a4895 a4896, b13 g4885 A4888 l4887.length n4890 x4959, r7 A4888 l4887.length n4890 x4958] w4955) := ⟨HS.out.sub (.cons_cons _ (.cons_cons _ (.cons_cons _ (.cons _ .slnil))))⟩
            go_wp2_with fail
            go_ret
            rw [← some_eq H]
            exact ⟨(by first | rfl | (simp [IntKind.wrap_u32]; done)), HS.out⟩

set_option maxHeartbeats 30000000 in
set_option maxRecDepth 100000 in
theorem tint_Deepen_1_1.calls (a5045 : Int) (a5046 : Int) (a5047 : Int) (a5048 : Int) (a5049 : Int) (a5050 : Int) (a5051 : Int) (a5052 : Int) (l5060 : List Int) (a5065 : Int) (a5066 : Int) (a5067 : Int) (a5068 : Int) (a5069 : Int) (a5072 : Int) (g5044 : Nat) (g5054 : Nat) (g5056 : Nat) (g5058 : Nat) (A5061 : Option Addr) (m5062 : Nat) (n5063 : Nat) (g5071 : Nat) (r : Int × Int × List Int) (w : World)  (HGl0 : Aside0 (Gl 0 #[.int .i64 0, .int .i64 0, .int .i64 0, .int .i64 0, .int .i64 0] (fps [b3 g5044 a5045 a5046 a5047 a5048 a5049 a5050 a5051, b16 g5054 g5056, b14 g5056 g5058 a5066 a5067 a5068 a5069, b13 g5058 A5061 m5062 n5063 a5065, r7 A5061 m5062 n5063 l5060, b2 g5071 a5072]) w)) (HS : Aside0 (Sep (fps [b3 g5044 a5045 a5046 a5047 a5048 a5049 a5050 a5051, b16 g5054 g5056, b14 g5056 g5058 a5066 a5067 a5068 a5069, b13 g5058 A5061 m5062 n5063 a5065, r7 A5061 m5062 n5063 l5060, b2 g5071 a5072]) w [b3 g5044 a5045 a5046 a5047 a5048 a5049 a5050 a5051, b16 g5054 g5056, b14 g5056 g5058 a5066 a5067 a5068 a5069, b13 g5058 A5061 m5062 n5063 a5065, r7 A5061 m5062 n5063 l5060, b2 g5071 a5072] w)) (H : Aside0 (tint_Deepen_1_1.f a5045 a5046 a5047 a5048 a5049 a5050 a5051 a5052 l5060 a5065 a5066 a5067 a5068 a5069 a5072 = some r)) :
    Calls Tryz.prog 54 #[.pointer (some ⟨g5044, 0, none⟩), .int .i64 a5052, .pointer (some ⟨g5054, 0, none⟩), .pointer (some ⟨g5071, 0, none⟩)] w fun e w' => e = .returned (.tuple #[]) ∧ Sep (fps [b3 g5044 a5045 a5046 a5047 a5048 a5049 a5050 a5051, b16 g5054 g5056, b14 g5056 g5058 a5066 a5067 a5068 a5069, b13 g5058 A5061 m5062 n5063 a5065, r7 A5061 m5062 n5063 l5060, b2 g5071 a5072]) w [b3 g5044 a5045 a5046 a5047 r.1 a5049 a5050 a5051, b16 g5054 g5056, b14 g5056 g5058 a5066 a5067 a5068 a5069, b13 g5058 A5061 m5062 n5063 r.2.1, r7 A5061 m5062 n5063 r.2.2, b2 g5071 a5072] w' := by
  generalize (fps [b3 g5044 a5045 a5046 a5047 a5048 a5049 a5050 a5051, b16 g5054 g5056, b14 g5056 g5058 a5066 a5067 a5068 a5069, b13 g5058 A5061 m5062 n5063 a5065, r7 A5061 m5062 n5063 l5060, b2 g5071 a5072]) = FF at HS HGl0 ⊢
  obtain rfl := (row_len (HS.out.at4)).symm
  unfold tint_Deepen_1_1.f at H
  go_enter Tryz.func54, Tryz.ntmps54
  by_cases c5089 : a5048 = a5052
  · have H := if_yes c5089 H
    have c5089b0 : (a5048 == a5052) = true := beq_iff_eq.mpr c5089
    have c5089b1 : (a5048 != a5052) = false := bne_eq_false_iff_eq.mpr c5089
    clear c5089
    have hc5088 : w.cell? ⟨g5044, 3, none⟩ = some (.int .i64 a5048) := blk_cellv (HS.out.at0) 3 rfl
    have hc5090 : w.cell? ⟨g5054, 0, none⟩ = some (.pointer (some ⟨g5056, 0, none⟩)) := blk_cellv (HS.out.at1) 0 rfl
    have hc5091 : w.cell? ⟨g5071, 0, none⟩ = some (.int .i64 a5072) := blk_cellv (HS.out.at5) 0 rfl
    go_wp2_with fail
    clear hc5088 hc5090 hc5091
    replace HS : Aside0 (Sep FF w [r7 A5061 l5060.length n5063 l5060, b3 g5044 a5045 a5046 a5047 a5048 a5049 a5050 a5051, b16 g5054 g5056, b14 g5056 g5058 a5066 a5067 a5068 a5069, b13 g5058 A5061 l5060.length n5063 a5065, b2 g5071 a5072] w) := ⟨HS.out.front 4 (by simp)⟩
    replace HS : Aside0 (Sep FF w [b13 g5058 A5061 l5060.length n5063 a5065, r7 A5061 l5060.length n5063 l5060, b3 g5044 a5045 a5046 a5047 a5048 a5049 a5050 a5051, b16 g5054 g5056, b14 g5056 g5058 a5066 a5067 a5068 a5069, b2 g5071 a5072] w) := ⟨HS.out.front 4 (by simp)⟩
    replace HS : Aside0 (Sep FF w [b14 g5056 g5058 a5066 a5067 a5068 a5069, b13 g5058 A5061 l5060.length n5063 a5065, r7 A5061 l5060.length n5063 l5060, b3 g5044 a5045 a5046 a5047 a5048 a5049 a5050 a5051, b16 g5054 g5056, b2 g5071 a5072] w) := ⟨HS.out.front 4 (by simp)⟩
    obtain ⟨t5092, HA5093, H⟩ := bind_some H
    refine (ground_Ground_Word.calls l5060 a5065 a5066 a5067 a5068 a5069 (wrap64 (a5072 - 1)) 4 g5056 g5058 A5061 l5060.length n5063 t5092 _ ⟨HGl0.out.pass HS.out⟩ ⟨HS.out.begin⟩ HA5093).mono ?_
    rintro e_ w5094 ⟨rfl, hS⟩
    replace HS : Aside0 (Sep FF w [b14 g5056 g5058 a5066 a5067 a5068 a5069, b13 g5058 A5061 l5060.length n5063 t5092.2, r7 A5061 l5060.length n5063 l5060, b3 g5044 a5045 a5046 a5047 a5048 a5049 a5050 a5051, b16 g5054 g5056, b2 g5071 a5072] w5094) := ⟨HS.out.call hS⟩
    clear hS
    have hc5095 : w5094.cell? ⟨g5044, 3, none⟩ = some (.int .i64 a5048) := blk_cellv (HS.out.at3) 3 rfl
    have hz5096 : w5094.frozen? ⟨g5044, 3, none⟩ = false := blk_fz (HS.out.at3) 3
    go_wp2_with (first | ((with_reducible refine gate_store (t := 3) (p := 20) rfl ?_); refine store_event (w1 := (World.setCell w5094 ⟨g5044, 3, none⟩ (.int .i64 a5052))) rfl (t := 3) (p := 20) rfl rfl ?hr ?_; (case hr => first | (go_simp; done) | (go_simp; rfl)); intro w5097 hst; clear hc5095 hz5096; have hq0 : Sep FF w [b14 g5056 g5058 a5066 a5067 a5068 a5069, b13 g5058 A5061 l5060.length n5063 t5092.2, r7 A5061 l5060.length n5063 l5060, b3 g5044 a5045 a5046 a5047 a5052 a5049 a5050 a5051, b16 g5054 g5056, b2 g5071 a5072] (World.setCell w5094 ⟨g5044, 3, none⟩ (.int .i64 a5052)) := (HS.out).set1 (l1 := [b14 g5056 g5058 a5066 a5067 a5068 a5069, b13 g5058 A5061 l5060.length n5063 t5092.2, r7 A5061 l5060.length n5063 l5060]) (l2 := [b16 g5054 g5056, b2 g5071 a5072]) 3 (.int .i64 a5052); replace HS : Aside0 (Sep FF w [b14 g5056 g5058 a5066 a5067 a5068 a5069, b13 g5058 A5061 l5060.length n5063 t5092.2, r7 A5061 l5060.length n5063 l5060, b3 g5044 a5045 a5046 a5047 a5052 a5049 a5050 a5051, b16 g5054 g5056, b2 g5071 a5072] w5097) := ⟨by rw [hst]; exact hq0⟩; clear hq0; clear hst; have hc5098 : w5097.cell? ⟨g5054, 0, none⟩ = some (.pointer (some ⟨g5056, 0, none⟩)) := blk_cellv (HS.out.at4) 0 rfl; have hc5099 : w5097.cell? ⟨g5071, 0, none⟩ = some (.int .i64 a5072) := blk_cellv (HS.out.at5) 0 rfl))
    clear hc5098 hc5099
    obtain ⟨t5100, HA5101, H⟩ := bind_some H
    refine (ground_Ground_SetWord.calls l5060 t5092.2 a5066 a5067 a5068 a5069 (wrap64 (a5072 - 1)) 4 ((t5092.1 + 1) % 4294967296) g5056 g5058 A5061 l5060.length n5063 t5100 _ ⟨HGl0.out.pass HS.out⟩ ⟨HS.out.begin⟩ HA5101).mono ?_
    rintro e_ w5102 ⟨rfl, hS⟩
    replace HS : Aside0 (Sep FF w [b14 g5056 g5058 a5066 a5067 a5068 a5069, b13 g5058 A5061 l5060.length n5063 t5100.2.1, r7 A5061 l5060.length n5063 t5100.2.2, b3 g5044 a5045 a5046 a5047 a5052 a5049 a5050 a5051, b16 g5054 g5056, b2 g5071 a5072] w5102) := ⟨HS.out.call hS⟩
    clear hS
    go_wp2_with fail
    first | go_end0 | refine bodyPost_ret (results_none rfl _ _ _) rfl ?_
    rw [← some_eq H]
    exact ⟨rfl, (((((((HS.out).front 5 (by simp)).front 3 (by simp)).front 3 (by simp)).front 3 (by simp)).front 5 (by simp)).front 5 (by simp)).keep (l := [b3 g5044 a5045 a5046 a5047 a5052 a5049 a5050 a5051, b16 g5054 g5056, b14 g5056 g5058 a5066 a5067 a5068 a5069, b13 g5058 A5061 l5060.length n5063 t5100.2.1, r7 A5061 l5060.length n5063 t5100.2.2, b2 g5071 a5072]) (rest := [])⟩
  · have H := if_no c5089 H
    have c5089b0 : (a5048 == a5052) = false := beq_eq_false_iff_ne.mpr c5089
    have c5089b1 : (a5048 != a5052) = true := bne_iff_ne.mpr c5089
    clear c5089
    have hc5088 : w.cell? ⟨g5044, 3, none⟩ = some (.int .i64 a5048) := blk_cellv (HS.out.at0) 3 rfl
    have hz5103 : w.frozen? ⟨g5044, 3, none⟩ = false := blk_fz (HS.out.at0) 3
    go_wp2_with (first | ((with_reducible refine gate_store (t := 3) (p := 20) rfl ?_); refine store_event (w1 := (World.setCell w ⟨g5044, 3, none⟩ (.int .i64 a5052))) rfl (t := 3) (p := 20) rfl rfl ?hr ?_; (case hr => first | (go_simp; done) | (go_simp; rfl)); intro w5104 hst; clear hc5088 hz5103; have hq0 : Sep FF w [b3 g5044 a5045 a5046 a5047 a5052 a5049 a5050 a5051, b16 g5054 g5056, b14 g5056 g5058 a5066 a5067 a5068 a5069, b13 g5058 A5061 l5060.length n5063 a5065, r7 A5061 l5060.length n5063 l5060, b2 g5071 a5072] (World.setCell w ⟨g5044, 3, none⟩ (.int .i64 a5052)) := (HS.out).set1 (l1 := []) (l2 := [b16 g5054 g5056, b14 g5056 g5058 a5066 a5067 a5068 a5069, b13 g5058 A5061 l5060.length n5063 a5065, r7 A5061 l5060.length n5063 l5060, b2 g5071 a5072]) 3 (.int .i64 a5052); replace HS : Aside0 (Sep FF w [b3 g5044 a5045 a5046 a5047 a5052 a5049 a5050 a5051, b16 g5054 g5056, b14 g5056 g5058 a5066 a5067 a5068 a5069, b13 g5058 A5061 l5060.length n5063 a5065, r7 A5061 l5060.length n5063 l5060, b2 g5071 a5072] w5104) := ⟨by rw [hst]; exact hq0⟩; clear hq0; clear hst; have hc5105 : w5104.cell? ⟨g5054, 0, none⟩ = some (.pointer (some ⟨g5056, 0, none⟩)) := blk_cellv (HS.out.at1) 0 rfl; have hc5106 : w5104.cell? ⟨g5071, 0, none⟩ = some (.int .i64 a5072) := blk_cellv (HS.out.at5) 0 rfl))
    clear hc5105 hc5106
    replace HS : Aside0 (Sep FF w [r7 A5061 l5060.length n5063 l5060, b3 g5044 a5045 a5046 a5047 a5052 a5049 a5050 a5051, b16 g5054 g5056, b14 g5056 g5058 a5066 a5067 a5068 a5069, b13 g5058 A5061 l5060.length n5063 a5065, b2 g5071 a5072] w5104) := ⟨HS.out.front 4 (by simp)⟩
    replace HS : Aside0 (Sep FF w [b13 g5058 A5061 l5060.length n5063 a5065, r7 A5061 l5060.length n5063 l5060, b3 g5044 a5045 a5046 a5047 a5052 a5049 a5050 a5051, b16 g5054 g5056, b14 g5056 g5058 a5066 a5067 a5068 a5069, b2 g5071 a5072] w5104) := ⟨HS.out.front 4 (by simp)⟩
    replace HS : Aside0 (Sep FF w [b14 g5056 g5058 a5066 a5067 a5068 a5069, b13 g5058 A5061 l5060.length n5063 a5065, r7 A5061 l5060.length n5063 l5060, b3 g5044 a5045 a5046 a5047 a5052 a5049 a5050 a5051, b16 g5054 g5056, b2 g5071 a5072] w5104) := ⟨HS.out.front 4 (by simp)⟩
    obtain ⟨t5100, HA5107, H⟩ := bind_some H
    refine (ground_Ground_SetWord.calls l5060 a5065 a5066 a5067 a5068 a5069 (wrap64 (a5072 - 1)) 4 1 g5056 g5058 A5061 l5060.length n5063 t5100 _ ⟨HGl0.out.pass HS.out⟩ ⟨HS.out.begin⟩ HA5107).mono ?_
    rintro e_ w5108 ⟨rfl, hS⟩
    replace HS : Aside0 (Sep FF w [b14 g5056 g5058 a5066 a5067 a5068 a5069, b13 g5058 A5061 l5060.length n5063 t5100.2.1, r7 A5061 l5060.length n5063 t5100.2.2, b3 g5044 a5045 a5046 a5047 a5052 a5049 a5050 a5051, b16 g5054 g5056, b2 g5071 a5072] w5108) := ⟨HS.out.call hS⟩
    clear hS
    go_wp2_with fail
    first | go_end0 | refine bodyPost_ret (results_none rfl _ _ _) rfl ?_
    rw [← some_eq H]
    exact ⟨rfl, (((((((HS.out).front 5 (by simp)).front 3 (by simp)).front 3 (by simp)).front 3 (by simp)).front 5 (by simp)).front 5 (by simp)).keep (l := [b3 g5044 a5045 a5046 a5047 a5052 a5049 a5050 a5051, b16 g5054 g5056, b14 g5056 g5058 a5066 a5067 a5068 a5069, b13 g5058 A5061 l5060.length n5063 t5100.2.1, r7 A5061 l5060.length n5063 t5100.2.2, b2 g5071 a5072]) (rest := [])⟩
end Go.Proofs.YtobeonkddamnoaaGreatDoor.C

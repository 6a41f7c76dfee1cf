/- Each function of the group RN does what its plain function says, and changes nothing that was there; proved by walking its code. No condition. -/
import Derived.Test.YtobeonkddamnoaaDoorQw
import Derived.Test.YtobeonkddamnoaaDoorMRN
import Derived.Test.YtobeonkddamnoaaDoorGRN0
import Derived.Test.YtobeonkddamnoaaDoorGRN1
namespace Go.Proofs.YtobeonkddamnoaaDoor.C
open Go.RowKit Go.Proofs.YtobeonkddamnoaaDoorW.PrintWords Go.Proofs.YtobeonkddamnoaaDoorW.PrintLast Go.Proofs.YtobeonkddamnoaaDoorW.PrintMore Go.Proofs.YtobeonkddamnoaaDoor.Q Go.Proofs.YtobeonkddamnoaaDoor.M
set_option linter.unusedVariables false
set_option linter.unusedSimpArgs false
set_option maxHeartbeats 30000000 in
set_option maxRecDepth 100000 in
theorem quitrentref01_Ints.calls (k : Nat) (l2068 : List Int) (l2072 : List Int) (A2069 : Option Addr) (n2070 : Nat) (A2073 : Option Addr) (n2074 : Nat) (r : Bool) (w : World) (HR2071 : Aside0 (Rd (Kd.int .i64) (fps []) w A2069 l2068.length l2068)) (HR2075 : Aside0 (Rd (Kd.int .i64) (fps []) w A2073 l2072.length l2072)) (HGl0 : Aside0 (Gl 0 #[.int .i64 0, .int .i64 0, .int .i64 0, .int .i64 0, .int .i64 0] (fps []) w)) (HS : Aside0 (Sep (fps []) w [] w)) (H : Aside0 (quitrentref01_Ints.f k l2068 l2072 = some r)) :
    Calls Tryd.prog 32 #[.slice A2069 l2068.length n2070, .slice A2073 l2072.length n2074] w fun e w' => e = .returned (.bool r) ∧ Sep (fps []) w [] w' := by
  unfold quitrentref01_Ints.f at H
  go_enter Tryd.func32, Tryd.ntmps32
  by_cases c2076 : (l2068.length : Int) = (l2072.length : Int)
  · have H := if_yes c2076 H
    have c2076b0 : ((l2068.length : Int) == (l2072.length : Int)) = true := beq_iff_eq.mpr c2076
    have c2076b1 : ((l2068.length : Int) != (l2072.length : Int)) = false := bne_eq_false_iff_eq.mpr c2076
    clear c2076
    go_wp2_with fail
    obtain ⟨o2092, AL2093, H⟩ := bind_some H
    go_loopg [5] k (fun kq v5 wc => ∃ (x2096 : Int), v5 = .int .i64 x2096 ∧ Aside0 (quitrentref01_Ints.lo0 kq l2068 l2072 x2096 = some o2092) ∧ Aside0 (Sep (fps []) w [] wc))
    case atStart => exact ⟨(0), (by first | rfl | (simp [IntKind.wrap_u32]; done)), AL2093, ⟨HS.out⟩⟩
    case round =>
      clear AL2093 HS
      obtain ⟨x2096, rfl, AL2093, HS⟩ := hrel
      obtain ⟨w2094, rfl⟩ : ∃ x : World, x = wr := ⟨_, rfl⟩
      cases gk with
      | zero => exact absurd AL2093.out (by simp [quitrentref01_Ints.lo0])
      | succ k2095 =>
        have AL0 := AL2093.out
        rw [quitrentref01_Ints.lo0] at AL0
        clear AL2093
        have AL2093 := Aside0.mk AL0
        clear AL0
        by_cases c2097 : x2096 < (l2068.length : Int)
        · have AL2093 := if_yes c2097 AL2093
          have c2097b0 : decide (x2096 < (l2068.length : Int)) = true := decide_eq_true c2097
          clear c2097
          go_wp2_with fail
          refine start_ (n := 9) (S := (fun w' => Kd.C (Kd.int .i64) w' A2069 l2068.length l2068 ∧ Kd.C (Kd.int .i64) w' A2073 l2072.length l2072)) (ds := []) #[false, false, false, false, false, false, false, false, false] (by kernel_rfl) rfl rfl (⟨Rd.read (fun _ _ _ _ h => h) HR2071.out (HS.out.drew).fr, Rd.read (fun _ _ _ _ h => h) HR2075.out (HS.out.drew).fr⟩) (fun hHeld => ?_)
          have HS_ := Aside0.mk HS.out.drew
          clear HS
          generalize World.drew _ = w2099 at HS_ hHeld ⊢
          have HS := HS_
          clear HS_
          refine pure_ (i := 0) (N := some 17) (v := ?_) (a' := ?_) #[true, false, false, false, false, false, false, false, false] rfl rfl (by kernel_rfl) (fun _ _ _ h => h) (Or.inl ⟨by rfl, ?_⟩) ?_ ?_
          rotate_left
          · intro w'
            go_simp
            with_reducible rfl
          rotate_left
          · simp only [Act.put, List.setIfInBounds_toArray, List.set_cons_zero, List.set_cons_succ, i64_w, i32_w]
            rfl
          refine pure_ (i := 1) (N := some 18) (v := ?_) (a' := ?_) #[true, true, false, false, false, false, false, false, false] rfl rfl (by kernel_rfl) (fun _ _ _ h => h) (Or.inl ⟨by rfl, ?_⟩) ?_ ?_
          rotate_left
          · intro w'
            go_simp
            with_reducible rfl
          rotate_left
          · simp only [Act.put, List.setIfInBounds_toArray, List.set_cons_zero, List.set_cons_succ, i64_w, i32_w]
            rfl
          by_cases c2100 : 0 ≤ x2096
          · have AL2093 := if_yes c2100 AL2093
            have c2100b0 : decide (0 ≤ x2096) = true := decide_eq_true c2100
            have c2100p : (0 ≤ x2096) = True := eq_true c2100
            clear c2100
            have ip2101 : (x2096 < (l2068.length : Int)) = True := eq_true (of_decide_eq_true c2097b0)
            obtain ⟨ad2102, ea, _⟩ := Kd.at_int (Rd.read (fun _ _ _ _ h => h) HR2071.out HS.out.fr) x2096 (of_decide_eq_true c2100b0) (of_decide_eq_true c2097b0)
            cases ea
            refine pure_ (i := 2) (N := some 19) (v := ?_) (a' := ?_) #[true, true, true, false, false, false, false, false, false] rfl rfl (by kernel_rfl) (fun _ _ _ h => h) (Or.inl ⟨by rfl, ?_⟩) ?_ ?_
            rotate_left
            · intro w'
              go_simp
              with_reducible rfl
            rotate_left
            · simp only [Act.put, List.setIfInBounds_toArray, List.set_cons_zero, List.set_cons_succ, i64_w, i32_w]
              rfl
            refine pure_ (i := 4) (N := some 21) (v := ?_) (a' := ?_) #[true, true, true, false, true, false, false, false, false] rfl rfl (by kernel_rfl) (fun _ _ _ h => h) (Or.inl ⟨by rfl, ?_⟩) ?_ ?_
            rotate_left
            · intro w'
              go_simp
              with_reducible rfl
            rotate_left
            · simp only [Act.put, List.setIfInBounds_toArray, List.set_cons_zero, List.set_cons_succ, i64_w, i32_w]
              rfl
            refine pure_ (i := 5) (N := some 22) (v := ?_) (a' := ?_) #[true, true, true, false, true, true, false, false, false] rfl rfl (by kernel_rfl) (fun _ _ _ h => h) (Or.inl ⟨by rfl, ?_⟩) ?_ ?_
            rotate_left
            · intro w'
              go_simp
              with_reducible rfl
            rotate_left
            · simp only [Act.put, List.setIfInBounds_toArray, List.set_cons_zero, List.set_cons_succ, i64_w, i32_w]
              rfl
            by_cases c2103 : x2096 < (l2072.length : Int)
            · have AL2093 := if_yes c2103 AL2093
              have c2103b0 : decide (x2096 < (l2072.length : Int)) = true := decide_eq_true c2103
              have c2103p : (x2096 < (l2072.length : Int)) = True := eq_true c2103
              clear c2103
              obtain ⟨ad2104, ea, _⟩ := Kd.at_int (Rd.read (fun _ _ _ _ h => h) HR2075.out HS.out.fr) x2096 (of_decide_eq_true c2100b0) (of_decide_eq_true c2103b0)
              cases ea
              refine pure_ (i := 6) (N := some 23) (v := ?_) (a' := ?_) #[true, true, true, false, true, true, true, false, false] rfl rfl (by kernel_rfl) (fun _ _ _ h => h) (Or.inl ⟨by rfl, ?_⟩) ?_ ?_
              rotate_left
              · intro w'
                go_simp
                with_reducible rfl
              rotate_left
              · simp only [Act.put, List.setIfInBounds_toArray, List.set_cons_zero, List.set_cons_succ, i64_w, i32_w]
                rfl
              refine take_ (i := 3) (N := some 20) (v := ?_) (a' := ?_) #[true, true, true, true, true, true, true, false, false] rfl rfl (by kernel_rfl) (fun _ _ _ h => h) (Or.inl ⟨by rfl, ?_⟩) hHeld ?_ ?_
              rotate_left
              · rintro w' hS'
                obtain ⟨s0, s1⟩ := hS'
                have hx := C_at_int s0 x2096 (of_decide_eq_true c2100b0) (of_decide_eq_true c2097b0)
                go_simp
                with_reducible rfl
              rotate_left
              · simp only [Act.put, List.setIfInBounds_toArray, List.set_cons_zero, List.set_cons_succ, i64_w, i32_w]
                rfl
              refine take_ (i := 7) (N := some 24) (v := ?_) (a' := ?_) #[true, true, true, true, true, true, true, true, false] rfl rfl (by kernel_rfl) (fun _ _ _ h => h) (Or.inl ⟨by rfl, ?_⟩) hHeld ?_ ?_
              rotate_left
              · rintro w' hS'
                obtain ⟨s0, s1⟩ := hS'
                have hx := C_at_int s1 x2096 (of_decide_eq_true c2100b0) (of_decide_eq_true c2103b0)
                go_simp
                with_reducible rfl
              rotate_left
              · simp only [Act.put, List.setIfInBounds_toArray, List.set_cons_zero, List.set_cons_succ, i64_w, i32_w]
                rfl
              refine pure_ (i := 8) (N := some 25) (v := ?_) (a' := ?_) #[true, true, true, true, true, true, true, true, true] rfl rfl (by kernel_rfl) (fun _ _ _ h => h) (Or.inl ⟨by rfl, ?_⟩) ?_ ?_
              rotate_left
              · intro w'
                go_simp
                with_reducible rfl
              rotate_left
              · simp only [Act.put, List.setIfInBounds_toArray, List.set_cons_zero, List.set_cons_succ, i64_w, i32_w]
                rfl
              refine done_ (by kernel_rfl) ?_
              by_cases c2105 : (rd l2068 x2096) = (rd l2072 x2096)
              · have AL2093 := if_yes c2105 AL2093
                have c2105b0 : ((rd l2068 x2096) == (rd l2072 x2096)) = true := beq_iff_eq.mpr c2105
                have c2105b1 : ((rd l2068 x2096) != (rd l2072 x2096)) = false := bne_eq_false_iff_eq.mpr c2105
                clear c2105
                go_wp2_with fail
                go_roundg k2095
                case measure => exact Nat.lt_succ_self _
                case rel => exact ⟨(wrap64 (x2096 + 1)), (by first | rfl | (simp [IntKind.wrap_u32]; done)), Aside0.mk AL2093.out, ⟨(HS.out).keep (l := []) (rest := [])⟩⟩
              · have AL2093 := if_no c2105 AL2093
                have c2105b0 : ((rd l2068 x2096) == (rd l2072 x2096)) = false := beq_eq_false_iff_ne.mpr c2105
                have c2105b1 : ((rd l2068 x2096) != (rd l2072 x2096)) = true := bne_iff_ne.mpr c2105
                clear c2105
                go_wp2_with fail
                have ho := some_eq AL2093
                subst ho
                have H := lp_ret H
                go_ret
                rw [← some_eq H]
                exact ⟨(by first | rfl | (simp [IntKind.wrap_u32]; done)), (HS.out).keep (l := []) (rest := [])⟩
            · have AL2093 := if_no c2103 AL2093
              have c2103b0 : decide (x2096 < (l2072.length : Int)) = false := decide_eq_false c2103
              clear c2103
              exact (none_no AL2093).elim
          · have AL2093 := if_no c2100 AL2093
            have c2100b0 : decide (0 ≤ x2096) = false := decide_eq_false c2100
            clear c2100
            exact (none_no AL2093).elim
        · have AL2093 := if_no c2097 AL2093
          have c2097b0 : decide (x2096 < (l2068.length : Int)) = false := decide_eq_false c2097
          clear c2097
          have ho := some_eq AL2093
          subst ho
          clear AL2093
          have H := lp_out H
          go_wp2_with fail
          go_ret
          rw [← some_eq H]
          exact ⟨(by first | rfl | (simp [IntKind.wrap_u32]; done)), (HS.out).keep (l := []) (rest := [])⟩
  · have H := if_no c2076 H
    have c2076b0 : ((l2068.length : Int) == (l2072.length : Int)) = false := beq_eq_false_iff_ne.mpr c2076
    have c2076b1 : ((l2068.length : Int) != (l2072.length : Int)) = true := bne_iff_ne.mpr c2076
    clear c2076
    go_wp2_with fail
    go_ret
    rw [← some_eq H]
    exact ⟨(by first | rfl | (simp [IntKind.wrap_u32]; done)), (HS.out).keep (l := []) (rest := [])⟩

set_option maxHeartbeats 30000000 in
set_option maxRecDepth 100000 in
theorem store_Store_Peek_nil.calls (a2119 : Int) (r : Int) (w : World)  (HGl0 : Aside0 (Gl 0 #[.int .i64 0, .int .i64 0, .int .i64 0, .int .i64 0, .int .i64 0] (fps []) w)) (HS : Aside0 (Sep (fps []) w [] w)) (H : Aside0 (store_Store_Peek_nil.f a2119 = some r)) :
    Calls Tryd.prog 73 #[.pointer none, .int .i64 a2119] w fun e w' => e = .returned (.int .u32 r) ∧ Sep (fps []) w [] w' := by
  unfold store_Store_Peek_nil.f at H
  go_enter Tryd.func73, Tryd.ntmps73
  go_wp2_with fail
  obtain ⟨t2120, HA2121, H⟩ := bind_some H
  refine (store_Store_has_nil.calls a2119 t2120 _ ⟨Gl.pass (l := []) (rest := []) HGl0.out HS.out⟩ ⟨HS.out.begin (l := []) (rest := [])⟩ HA2121).mono ?_
  rintro e_ w2122 ⟨rfl, hS⟩
  replace HS : Aside0 (Sep (fps []) w [] w2122) := ⟨HS.out.call (l := []) (rest := []) hS⟩
  clear hS
  by_cases c2123 : t2120 = true
  · have H := if_yes c2123 H
    have c2123b0 : t2120 = true := c2123
    have c2123b1 : (!t2120) = false := by rw [c2123b0]; rfl
    try rw [c2123b1]
    clear c2123
    exact (none_no H).elim
  · have H := if_no c2123 H
    have c2123b0 : t2120 = false := by simpa using c2123
    have c2123b1 : (!t2120) = true := by rw [c2123b0]; rfl
    try rw [c2123b1]
    clear c2123
    go_wp2_with fail
    go_ret
    rw [← some_eq H]
    exact ⟨(by first | rfl | (simp [IntKind.wrap_u32]; done)), (HS.out).keep (l := []) (rest := [])⟩

set_option maxHeartbeats 30000000 in
set_option maxRecDepth 100000 in
theorem ground_Ground_SeeWord_nil.calls (a2111 : Int) (a2112 : Int) (r : Int) (w : World)  (HGl0 : Aside0 (Gl 0 #[.int .i64 0, .int .i64 0, .int .i64 0, .int .i64 0, .int .i64 0] (fps []) w)) (HS : Aside0 (Sep (fps []) w [] w)) (H : Aside0 (ground_Ground_SeeWord_nil.f a2111 a2112 = some r)) :
    Calls Tryd.prog 18 #[.pointer none, .int .i64 a2111, .int .i64 a2112] w fun e w' => e = .returned (.int .u32 r) ∧ Sep (fps []) w [] w' := by
  unfold ground_Ground_SeeWord_nil.f at H
  go_enter Tryd.func18, Tryd.ntmps18
  go_wp2_with fail
  obtain ⟨t2113, HA2114, H⟩ := bind_some H
  refine (ground_Ground_all_nil.calls t2113 _ ⟨Gl.pass (l := []) (rest := []) HGl0.out HS.out⟩ ⟨HS.out.begin (l := []) (rest := [])⟩ HA2114).mono ?_
  rintro e_ w2115 ⟨rfl, hS⟩
  replace HS : Aside0 (Sep (fps []) w [] w2115) := ⟨HS.out.call (l := []) (rest := []) hS⟩
  clear hS
  go_wp2_with fail
  obtain ⟨t2116, HA2117, H⟩ := bind_some H
  refine (ground_Ground_word_nil.calls a2111 a2112 t2116 _ ⟨Gl.pass (l := []) (rest := []) HGl0.out HS.out⟩ ⟨HS.out.begin (l := []) (rest := [])⟩ HA2117).mono ?_
  rintro e_ w2118 ⟨rfl, hS⟩
  replace HS : Aside0 (Sep (fps []) w [] w2118) := ⟨HS.out.call (l := []) (rest := []) hS⟩
  clear hS
  go_wp2_with fail
  obtain ⟨t2124, HA2125, H⟩ := bind_some H
  refine (store_Store_Peek_nil.calls t2116 t2124 _ ⟨Gl.pass (l := []) (rest := []) HGl0.out HS.out⟩ ⟨HS.out.begin (l := []) (rest := [])⟩ HA2125).mono ?_
  rintro e_ w2126 ⟨rfl, hS⟩
  replace HS : Aside0 (Sep (fps []) w [] w2126) := ⟨HS.out.call (l := []) (rest := []) hS⟩
  clear hS
  go_wp2_with fail
  go_ret
  rw [← some_eq H]
  exact ⟨(by first | rfl | (simp [IntKind.wrap_u32]; done)), (HS.out).keep (l := []) (rest := [])⟩

set_option maxHeartbeats 30000000 in
set_option maxRecDepth 100000 in
theorem store_Store_Get.calls (l2257 : List Int) (a2262 : Int) (a2263 : Int) (g2255 : Nat) (A2258 : Option Addr) (m2259 : Nat) (n2260 : Nat) (r : Int × Int) (w : World)  (HGl0 : Aside0 (Gl 0 #[.int .i64 0, .int .i64 0, .int .i64 0, .int .i64 0, .int .i64 0] (fps [b13 g2255 A2258 m2259 n2260 a2262, r4 A2258 m2259 n2260 l2257]) w)) (HS : Aside0 (Sep (fps [b13 g2255 A2258 m2259 n2260 a2262, r4 A2258 m2259 n2260 l2257]) w [b13 g2255 A2258 m2259 n2260 a2262, r4 A2258 m2259 n2260 l2257] w)) (H : Aside0 (store_Store_Get.f l2257 a2262 a2263 = some r)) :
    Calls Tryd.prog 130 #[.pointer (some ⟨g2255, 0, none⟩), .int .i64 a2263] w fun e w' => e = .returned (.int .u32 r.1) ∧ Sep (fps [b13 g2255 A2258 m2259 n2260 a2262, r4 A2258 m2259 n2260 l2257]) w [b13 g2255 A2258 m2259 n2260 r.2, r4 A2258 m2259 n2260 l2257] w' := by
  generalize (fps [b13 g2255 A2258 m2259 n2260 a2262, r4 A2258 m2259 n2260 l2257]) = FF at HS HGl0 ⊢
  obtain rfl := (row_len (HS.out.at1)).symm
  unfold store_Store_Get.f at H
  go_enter Tryd.func130, Tryd.ntmps130
  go_wp2_with fail
  obtain ⟨t2277, HA2278, H⟩ := bind_some H
  refine (store_Store_has.calls l2257 a2262 a2263 g2255 A2258 l2257.length n2260 t2277 _ ⟨Gl.pass (l := [b13 g2255 A2258 l2257.length n2260 a2262, r4 A2258 l2257.length n2260 l2257]) (rest := []) HGl0.out HS.out⟩ ⟨HS.out.begin (l := [b13 g2255 A2258 l2257.length n2260 a2262, r4 A2258 l2257.length n2260 l2257]) (rest := [])⟩ HA2278).mono ?_
  rintro e_ w2279 ⟨rfl, hS⟩
  replace HS : Aside0 (Sep FF w [b13 g2255 A2258 l2257.length n2260 a2262, r4 A2258 l2257.length n2260 l2257] w2279) := ⟨HS.out.call (l := [b13 g2255 A2258 l2257.length n2260 a2262, r4 A2258 l2257.length n2260 l2257]) (rest := []) hS⟩
  clear hS
  by_cases c2280 : t2277 = true
  · have H := if_yes c2280 H
    have c2280b0 : t2277 = true := c2280
    have c2280b1 : (!t2277) = false := by rw [c2280b0]; rfl
    try rw [c2280b1]
    clear c2280
    go_wp2_with fail
    obtain ⟨t2281, HA2282, H⟩ := bind_some H
    refine (atomic_Uint64_Add.calls l2257 a2262 1 g2255 A2258 l2257.length n2260 t2281 _ ⟨Gl.pass (l := [b13 g2255 A2258 l2257.length n2260 a2262, r4 A2258 l2257.length n2260 l2257]) (rest := []) HGl0.out HS.out⟩ ⟨HS.out.begin (l := [b13 g2255 A2258 l2257.length n2260 a2262, r4 A2258 l2257.length n2260 l2257]) (rest := [])⟩ HA2282).mono ?_
    rintro e_ w2283 ⟨rfl, hS⟩
    replace HS : Aside0 (Sep FF w [b13 g2255 A2258 l2257.length n2260 t2281.2, r4 A2258 l2257.length n2260 l2257] w2283) := ⟨HS.out.call (l := [b13 g2255 A2258 l2257.length n2260 a2262, r4 A2258 l2257.length n2260 l2257]) (rest := []) hS⟩
    clear hS
    by_cases c2285 : 0 ≤ a2263
    · have H := if_yes c2285 H
      have c2285b0 : decide (0 ≤ a2263) = true := decide_eq_true c2285
      have c2285p : (0 ≤ a2263) = True := eq_true c2285
      clear c2285
      by_cases c2286 : a2263 < (l2257.length : Int)
      · have H := if_yes c2286 H
        have c2286b0 : decide (a2263 < (l2257.length : Int)) = true := decide_eq_true c2286
        have c2286p : (a2263 < (l2257.length : Int)) = True := eq_true c2286
        clear c2286
        have hc2284 : w2283.cell? ⟨g2255, 0, none⟩ = some (.slice A2258 l2257.length n2260) := blk_cellv (HS.out.at0) 0 rfl
        obtain ⟨g2287, ea⟩ := row_at (HS.out.at1) (by have := (of_decide_eq_true c2285b0); have := (of_decide_eq_true c2286b0); omega); cases ea
        have hx2288 := C_at_int (row_Ci (HS.out.at1)) a2263 (of_decide_eq_true c2285b0) (of_decide_eq_true c2286b0)
        have hx2289 : w2283.cell? ⟨g2287, (a2263).toNat, none⟩ = some (.int .u32 (rd l2257 a2263)) := (row_get 0 (HS.out.at1) a2263 (of_decide_eq_true c2285b0) (of_decide_eq_true c2286b0)).1
        go_wp2_with fail
        clear hc2284 hx2288 hx2289
        go_ret
        rw [← some_eq H]
        exact ⟨(by first | rfl | (simp [IntKind.wrap_u32]; done)), (((HS.out).front 1 (by simp)).front 1 (by simp)).keep (l := [b13 g2255 (some ⟨g2287, 0, none⟩) l2257.length n2260 t2281.2, r4 (some ⟨g2287, 0, none⟩) l2257.length n2260 l2257]) (rest := [])⟩
      · have H := if_no c2286 H
        have c2286b0 : decide (a2263 < (l2257.length : Int)) = false := decide_eq_false c2286
        clear c2286
        exact (none_no H).elim
    · have H := if_no c2285 H
      have c2285b0 : decide (0 ≤ a2263) = false := decide_eq_false c2285
      clear c2285
      exact (none_no H).elim
  · have H := if_no c2280 H
    have c2280b0 : t2277 = false := by simpa using c2280
    have c2280b1 : (!t2277) = true := by rw [c2280b0]; rfl
    try rw [c2280b1]
    clear c2280
    go_wp2_with fail
    go_ret
    rw [← some_eq H]
    exact ⟨(by first | rfl | (simp [IntKind.wrap_u32]; done)), (((HS.out).front 1 (by simp)).front 1 (by simp)).keep (l := [b13 g2255 A2258 l2257.length n2260 a2262, r4 A2258 l2257.length n2260 l2257]) (rest := [])⟩

set_option maxHeartbeats 30000000 in
set_option maxRecDepth 100000 in
theorem ground_Ground_Word.calls (l2236 : List Int) (a2241 : Int) (a2242 : Int) (a2243 : Int) (a2244 : Int) (a2245 : Int) (a2246 : Int) (a2247 : Int) (g2232 : Nat) (g2234 : Nat) (A2237 : Option Addr) (m2238 : Nat) (n2239 : Nat) (r : Int × Int) (w : World)  (HGl0 : Aside0 (Gl 0 #[.int .i64 0, .int .i64 0, .int .i64 0, .int .i64 0, .int .i64 0] (fps [b14 g2232 g2234 a2242 a2243 a2244 a2245, b13 g2234 A2237 m2238 n2239 a2241, r4 A2237 m2238 n2239 l2236]) w)) (HS : Aside0 (Sep (fps [b14 g2232 g2234 a2242 a2243 a2244 a2245, b13 g2234 A2237 m2238 n2239 a2241, r4 A2237 m2238 n2239 l2236]) w [b14 g2232 g2234 a2242 a2243 a2244 a2245, b13 g2234 A2237 m2238 n2239 a2241, r4 A2237 m2238 n2239 l2236] w)) (H : Aside0 (ground_Ground_Word.f l2236 a2241 a2242 a2243 a2244 a2245 a2246 a2247 = some r)) :
    Calls Tryd.prog 84 #[.pointer (some ⟨g2232, 0, none⟩), .int .i64 a2246, .int .i64 a2247] w fun e w' => e = .returned (.int .u32 r.1) ∧ Sep (fps [b14 g2232 g2234 a2242 a2243 a2244 a2245, b13 g2234 A2237 m2238 n2239 a2241, r4 A2237 m2238 n2239 l2236]) w [b14 g2232 g2234 a2242 a2243 a2244 a2245, b13 g2234 A2237 m2238 n2239 r.2, r4 A2237 m2238 n2239 l2236] w' := by
  generalize (fps [b14 g2232 g2234 a2242 a2243 a2244 a2245, b13 g2234 A2237 m2238 n2239 a2241, r4 A2237 m2238 n2239 l2236]) = FF at HS HGl0 ⊢
  obtain rfl := (row_len (HS.out.at2)).symm
  unfold ground_Ground_Word.f at H
  go_enter Tryd.func84, Tryd.ntmps84
  go_wp2_with fail
  obtain ⟨t2293, HA2294, H⟩ := bind_some H
  refine (ground_Ground_all.calls l2236 a2241 a2242 a2243 a2244 a2245 g2232 g2234 A2237 l2236.length n2239 t2293 _ ⟨Gl.pass (l := [b14 g2232 g2234 a2242 a2243 a2244 a2245, b13 g2234 A2237 l2236.length n2239 a2241, r4 A2237 l2236.length n2239 l2236]) (rest := []) HGl0.out HS.out⟩ ⟨HS.out.begin (l := [b14 g2232 g2234 a2242 a2243 a2244 a2245, b13 g2234 A2237 l2236.length n2239 a2241, r4 A2237 l2236.length n2239 l2236]) (rest := [])⟩ HA2294).mono ?_
  rintro e_ w2295 ⟨rfl, hS⟩
  replace HS : Aside0 (Sep FF w [b14 g2232 g2234 a2242 a2243 a2244 a2245, b13 g2234 A2237 l2236.length n2239 a2241, r4 A2237 l2236.length n2239 l2236] w2295) := ⟨HS.out.call (l := [b14 g2232 g2234 a2242 a2243 a2244 a2245, b13 g2234 A2237 l2236.length n2239 a2241, r4 A2237 l2236.length n2239 l2236]) (rest := []) hS⟩
  clear hS
  go_wp2_with fail
  obtain ⟨t2296, HA2297, H⟩ := bind_some H
  refine (ground_Ground_word.calls l2236 a2241 a2242 a2243 a2244 a2245 a2246 a2247 g2232 g2234 A2237 l2236.length n2239 t2296 _ ⟨Gl.pass (l := [b14 g2232 g2234 a2242 a2243 a2244 a2245, b13 g2234 A2237 l2236.length n2239 a2241, r4 A2237 l2236.length n2239 l2236]) (rest := []) HGl0.out HS.out⟩ ⟨HS.out.begin (l := [b14 g2232 g2234 a2242 a2243 a2244 a2245, b13 g2234 A2237 l2236.length n2239 a2241, r4 A2237 l2236.length n2239 l2236]) (rest := [])⟩ HA2297).mono ?_
  rintro e_ w2298 ⟨rfl, hS⟩
  replace HS : Aside0 (Sep FF w [b14 g2232 g2234 a2242 a2243 a2244 a2245, b13 g2234 A2237 l2236.length n2239 a2241, r4 A2237 l2236.length n2239 l2236] w2298) := ⟨HS.out.call (l := [b14 g2232 g2234 a2242 a2243 a2244 a2245, b13 g2234 A2237 l2236.length n2239 a2241, r4 A2237 l2236.length n2239 l2236]) (rest := []) hS⟩
  clear hS
  go_wp2_with fail
  replace HS : Aside0 (Sep FF w [r4 A2237 l2236.length n2239 l2236, b14 g2232 g2234 a2242 a2243 a2244 a2245, b13 g2234 A2237 l2236.length n2239 a2241] w2298) := ⟨HS.out.front 2 (by simp)⟩
  replace HS : Aside0 (Sep FF w [b13 g2234 A2237 l2236.length n2239 a2241, r4 A2237 l2236.length n2239 l2236, b14 g2232 g2234 a2242 a2243 a2244 a2245] w2298) := ⟨HS.out.front 2 (by simp)⟩
  obtain ⟨t2299, HA2300, H⟩ := bind_some H
  refine (store_Store_Get.calls l2236 a2241 t2296 g2234 A2237 l2236.length n2239 t2299 _ ⟨Gl.pass (l := [b13 g2234 A2237 l2236.length n2239 a2241, r4 A2237 l2236.length n2239 l2236]) (rest := [b14 g2232 g2234 a2242 a2243 a2244 a2245]) HGl0.out HS.out⟩ ⟨HS.out.begin (l := [b13 g2234 A2237 l2236.length n2239 a2241, r4 A2237 l2236.length n2239 l2236]) (rest := [b14 g2232 g2234 a2242 a2243 a2244 a2245])⟩ HA2300).mono ?_
  rintro e_ w2301 ⟨rfl, hS⟩
  replace HS : Aside0 (Sep FF w [b13 g2234 A2237 l2236.length n2239 t2299.2, r4 A2237 l2236.length n2239 l2236, b14 g2232 g2234 a2242 a2243 a2244 a2245] w2301) := ⟨HS.out.call (l := [b13 g2234 A2237 l2236.length n2239 a2241, r4 A2237 l2236.length n2239 l2236]) (rest := [b14 g2232 g2234 a2242 a2243 a2244 a2245]) hS⟩
  clear hS
  go_wp2_with fail
  go_ret
  rw [← some_eq H]
  exact ⟨(by first | rfl | (simp [IntKind.wrap_u32]; done)), ((((HS.out).front 1 (by simp)).front 1 (by simp)).front 2 (by simp)).keep (l := [b14 g2232 g2234 a2242 a2243 a2244 a2245, b13 g2234 A2237 l2236.length n2239 t2299.2, r4 A2237 l2236.length n2239 l2236]) (rest := [])⟩

set_option maxHeartbeats 30000000 in
set_option maxRecDepth 100000 in
theorem pack_Get.calls (a2318 : Int) (a2319 : Int) (a2320 : Int) (r : Int) (w : World)  (HGl0 : Aside0 (Gl 0 #[.int .i64 0, .int .i64 0, .int .i64 0, .int .i64 0, .int .i64 0] (fps []) w)) (HS : Aside0 (Sep (fps []) w [] w)) (H : Aside0 (pack_Get.f a2318 a2319 a2320 = some r)) :
    Calls Tryd.prog 20 #[.int .u32 a2318, .int .i64 a2319, .int .i64 a2320] w fun e w' => e = .returned (.int .u32 r) ∧ Sep (fps []) w [] w' := by
  unfold pack_Get.f at H
  go_enter Tryd.func20, Tryd.ntmps20
  go_wp2_with fail
  obtain ⟨t2321, HA2322, H⟩ := bind_some H
  refine (pack_isPiece.calls a2319 a2320 t2321 _ ⟨Gl.pass (l := []) (rest := []) HGl0.out HS.out⟩ ⟨HS.out.begin (l := []) (rest := [])⟩ HA2322).mono ?_
  rintro e_ w2323 ⟨rfl, hS⟩
  replace HS : Aside0 (Sep (fps []) w [] w2323) := ⟨HS.out.call (l := []) (rest := []) hS⟩
  clear hS
  by_cases c2324 : t2321 = true
  · have H := if_yes c2324 H
    have c2324b0 : t2321 = true := c2324
    have c2324b1 : (!t2321) = false := by rw [c2324b0]; rfl
    try rw [c2324b1]
    clear c2324
    go_wp2_with fail
    obtain ⟨t2325, HA2326, H⟩ := bind_some H
    refine (pack_mask.calls a2319 a2320 t2325 _ ⟨Gl.pass (l := []) (rest := []) HGl0.out HS.out⟩ ⟨HS.out.begin (l := []) (rest := [])⟩ HA2326).mono ?_
    rintro e_ w2327 ⟨rfl, hS⟩
    replace HS : Aside0 (Sep (fps []) w [] w2327) := ⟨HS.out.call (l := []) (rest := []) hS⟩
    clear hS
    by_cases c2328 : 0 ≤ (IntKind.u64.wrap (a2319))
    · have H := if_yes c2328 H
      have c2328b0 : decide (0 ≤ (IntKind.u64.wrap (a2319))) = true := decide_eq_true c2328
      skip
      go_wp2_with fail
      clear c2328
      go_ret
      rw [← some_eq H]
      exact ⟨(by first | rfl | (simp [IntKind.wrap_u32]; done)), (HS.out).keep (l := []) (rest := [])⟩
    · have H := if_no c2328 H
      have c2328b0 : decide (0 ≤ (IntKind.u64.wrap (a2319))) = false := decide_eq_false c2328
      exact (none_no H).elim
  · have H := if_no c2324 H
    have c2324b0 : t2321 = false := by simpa using c2324
    have c2324b1 : (!t2321) = true := by rw [c2324b0]; rfl
    try rw [c2324b1]
    clear c2324
    go_wp2_with fail
    go_ret
    rw [← some_eq H]
    exact ⟨(by first | rfl | (simp [IntKind.wrap_u32]; done)), (HS.out).keep (l := []) (rest := [])⟩

set_option maxHeartbeats 30000000 in
set_option maxRecDepth 100000 in
theorem tag_Unpack_1.calls (a2312 : Int) (a2313 : Int) (a2316 : Int) (g2315 : Nat) (r : Int) (w : World)  (HGl0 : Aside0 (Gl 0 #[.int .i64 0, .int .i64 0, .int .i64 0, .int .i64 0, .int .i64 0] (fps [b3 g2315 a2316]) w)) (HS : Aside0 (Sep (fps [b3 g2315 a2316]) w [b3 g2315 a2316] w)) (H : Aside0 (tag_Unpack_1.f a2312 a2313 a2316 = some r)) :
    Calls Tryd.prog 74 #[.int .i64 a2312, .int .i64 a2313, .pointer (some ⟨g2315, 0, none⟩)] w fun e w' => e = .returned (.int .i64 r) ∧ Sep (fps [b3 g2315 a2316]) w [b3 g2315 a2316] w' := by
  generalize (fps [b3 g2315 a2316]) = FF at HS HGl0 ⊢
  unfold tag_Unpack_1.f at H
  go_enter Tryd.func74, Tryd.ntmps74
  have hc2317 : w.cell? ⟨g2315, 0, none⟩ = some (.int .u32 a2316) := blk_cellv (HS.out.at0) 0 rfl
  go_wp2_with fail
  clear hc2317
  obtain ⟨t2329, HA2330, H⟩ := bind_some H
  refine (pack_Get.calls a2316 a2312 a2313 t2329 _ ⟨Gl.pass (l := []) (rest := [b3 g2315 a2316]) HGl0.out HS.out⟩ ⟨HS.out.begin (l := []) (rest := [b3 g2315 a2316])⟩ HA2330).mono ?_
  rintro e_ w2331 ⟨rfl, hS⟩
  replace HS : Aside0 (Sep FF w [b3 g2315 a2316] w2331) := ⟨HS.out.call (l := []) (rest := [b3 g2315 a2316]) hS⟩
  clear hS
  go_wp2_with fail
  go_ret
  rw [← some_eq H]
  exact ⟨(by first | rfl | (simp [IntKind.wrap_u32]; done)), (HS.out).keep (l := [b3 g2315 a2316]) (rest := [])⟩

set_option maxHeartbeats 30000000 in
set_option maxRecDepth 100000 in
theorem tag_Unpack.calls (a2305 : Int) (r : Int × Int × Int × Int × Int × Int × Int) (w : World)  (HGl0 : Aside0 (Gl 0 #[.int .i64 0, .int .i64 0, .int .i64 0, .int .i64 0, .int .i64 0] (fps []) w)) (HS : Aside0 (Sep (fps []) w [] w)) (H : Aside0 (tag_Unpack.f a2305 = some r)) :
    Calls Tryd.prog 19 #[.int .u32 a2305] w fun e w' => e = .returned (.agg #[.int .i64 r.1, .int .i64 r.2.1, .int .i64 r.2.2.1, .int .i64 r.2.2.2.1, .int .i64 r.2.2.2.2.1, .int .i64 r.2.2.2.2.2.1, .int .i64 r.2.2.2.2.2.2]) ∧ Sep (fps []) w [] w' := by
  unfold tag_Unpack.f at H
  go_enter Tryd.func19, Tryd.ntmps19
  go_wp2_with (first | ((with_reducible refine gate_dst (N := 1) rfl ?_); refine box_on ?hg (N := 1) ?hd (cs := #[.int .u32 a2305]) (t := 33) ?hr ?_; (case hd => rfl); (case hg => rfl); (case hr => first | (go_simp; done) | (go_simp; rfl)); intro g2306 hg w2307 hbox hb; replace HS : Aside0 (Sep (fps []) w [b3 g2306 a2305] w2307) := ⟨HS.out.box hg hbox hb⟩; clear hg hbox hb) | ((with_reducible refine gate_dst (N := 2) rfl ?_); refine box_on ?hg (N := 2) ?hd (cs := #[.int .i64 0, .int .i64 0, .int .i64 0, .int .i64 0, .int .i64 0, .int .i64 0, .int .i64 0]) (t := 32) ?hr ?_; (case hd => rfl); (case hg => rfl); (case hr => first | (go_simp; done) | (go_simp; rfl)); intro g2309 hg w2310 hbox hb; replace HS : Aside0 (Sep (fps []) w [b3 g2306 a2305, b1 g2309 0 0 0 0 0 0 0] w2310) := ⟨HS.out.box hg hbox hb⟩; clear hg hbox hb))
  obtain ⟨t2332, HA2333, H⟩ := bind_some H
  refine (tag_Unpack_1.calls 0 2 a2305 g2306 t2332 _ ⟨Gl.pass (l := [b3 g2306 a2305]) (rest := [b1 g2309 0 0 0 0 0 0 0]) HGl0.out HS.out⟩ ⟨HS.out.begin (l := [b3 g2306 a2305]) (rest := [b1 g2309 0 0 0 0 0 0 0])⟩ HA2333).mono ?_
  rintro e_ w2334 ⟨rfl, hS⟩
  replace HS : Aside0 (Sep (fps []) w [b3 g2306 a2305, b1 g2309 0 0 0 0 0 0 0] w2334) := ⟨HS.out.call (l := [b3 g2306 a2305]) (rest := [b1 g2309 0 0 0 0 0 0 0]) hS⟩
  clear hS
  go_wp2_with fail
  obtain ⟨t2335, HA2336, H⟩ := bind_some H
  refine (tag_Unpack_1.calls 2 1 a2305 g2306 t2335 _ ⟨Gl.pass (l := [b3 g2306 a2305]) (rest := [b1 g2309 0 0 0 0 0 0 0]) HGl0.out HS.out⟩ ⟨HS.out.begin (l := [b3 g2306 a2305]) (rest := [b1 g2309 0 0 0 0 0 0 0])⟩ HA2336).mono ?_
  rintro e_ w2337 ⟨rfl, hS⟩
  replace HS : Aside0 (Sep (fps []) w [b3 g2306 a2305, b1 g2309 0 0 0 0 0 0 0] w2337) := ⟨HS.out.call (l := [b3 g2306 a2305]) (rest := [b1 g2309 0 0 0 0 0 0 0]) hS⟩
  clear hS
  go_wp2_with fail
  obtain ⟨t2338, HA2339, H⟩ := bind_some H
  refine (tag_Unpack_1.calls 3 1 a2305 g2306 t2338 _ ⟨Gl.pass (l := [b3 g2306 a2305]) (rest := [b1 g2309 0 0 0 0 0 0 0]) HGl0.out HS.out⟩ ⟨HS.out.begin (l := [b3 g2306 a2305]) (rest := [b1 g2309 0 0 0 0 0 0 0])⟩ HA2339).mono ?_
  rintro e_ w2340 ⟨rfl, hS⟩
  replace HS : Aside0 (Sep (fps []) w [b3 g2306 a2305, b1 g2309 0 0 0 0 0 0 0] w2340) := ⟨HS.out.call (l := [b3 g2306 a2305]) (rest := [b1 g2309 0 0 0 0 0 0 0]) hS⟩
  clear hS
  go_wp2_with fail
  obtain ⟨t2341, HA2342, H⟩ := bind_some H
  refine (tag_Unpack_1.calls 4 1 a2305 g2306 t2341 _ ⟨Gl.pass (l := [b3 g2306 a2305]) (rest := [b1 g2309 0 0 0 0 0 0 0]) HGl0.out HS.out⟩ ⟨HS.out.begin (l := [b3 g2306 a2305]) (rest := [b1 g2309 0 0 0 0 0 0 0])⟩ HA2342).mono ?_
  rintro e_ w2343 ⟨rfl, hS⟩
  replace HS : Aside0 (Sep (fps []) w [b3 g2306 a2305, b1 g2309 0 0 0 0 0 0 0] w2343) := ⟨HS.out.call (l := [b3 g2306 a2305]) (rest := [b1 g2309 0 0 0 0 0 0 0]) hS⟩
  clear hS
  go_wp2_with fail
  obtain ⟨t2344, HA2345, H⟩ := bind_some H
  refine (tag_Unpack_1.calls 5 1 a2305 g2306 t2344 _ ⟨Gl.pass (l := [b3 g2306 a2305]) (rest := [b1 g2309 0 0 0 0 0 0 0]) HGl0.out HS.out⟩ ⟨HS.out.begin (l := [b3 g2306 a2305]) (rest := [b1 g2309 0 0 0 0 0 0 0])⟩ HA2345).mono ?_
  rintro e_ w2346 ⟨rfl, hS⟩
  replace HS : Aside0 (Sep (fps []) w [b3 g2306 a2305, b1 g2309 0 0 0 0 0 0 0] w2346) := ⟨HS.out.call (l := [b3 g2306 a2305]) (rest := [b1 g2309 0 0 0 0 0 0 0]) hS⟩
  clear hS
  go_wp2_with fail
  obtain ⟨t2347, HA2348, H⟩ := bind_some H
  refine (tag_Unpack_1.calls 6 1 a2305 g2306 t2347 _ ⟨Gl.pass (l := [b3 g2306 a2305]) (rest := [b1 g2309 0 0 0 0 0 0 0]) HGl0.out HS.out⟩ ⟨HS.out.begin (l := [b3 g2306 a2305]) (rest := [b1 g2309 0 0 0 0 0 0 0])⟩ HA2348).mono ?_
  rintro e_ w2349 ⟨rfl, hS⟩
  replace HS : Aside0 (Sep (fps []) w [b3 g2306 a2305, b1 g2309 0 0 0 0 0 0 0] w2349) := ⟨HS.out.call (l := [b3 g2306 a2305]) (rest := [b1 g2309 0 0 0 0 0 0 0]) hS⟩
  clear hS
  go_wp2_with fail
  obtain ⟨t2350, HA2351, H⟩ := bind_some H
  refine (tag_Unpack_1.calls 8 24 a2305 g2306 t2350 _ ⟨Gl.pass (l := [b3 g2306 a2305]) (rest := [b1 g2309 0 0 0 0 0 0 0]) HGl0.out HS.out⟩ ⟨HS.out.begin (l := [b3 g2306 a2305]) (rest := [b1 g2309 0 0 0 0 0 0 0])⟩ HA2351).mono ?_
  rintro e_ w2352 ⟨rfl, hS⟩
  replace HS : Aside0 (Sep (fps []) w [b3 g2306 a2305, b1 g2309 0 0 0 0 0 0 0] w2352) := ⟨HS.out.call (l := [b3 g2306 a2305]) (rest := [b1 g2309 0 0 0 0 0 0 0]) hS⟩
  clear hS
  have hc2353 : w2352.cell? ⟨g2309, 0, none⟩ = some (.int .i64 0) := blk_cellv (HS.out.at1) 0 rfl
  have hz2354 : w2352.frozen? ⟨g2309, 0, none⟩ = false := blk_fz (HS.out.at1) 0
  have hc2355 : w2352.cell? ⟨g2309, 1, none⟩ = some (.int .i64 0) := blk_cellv (HS.out.at1) 1 rfl
  have hz2356 : w2352.frozen? ⟨g2309, 1, none⟩ = false := blk_fz (HS.out.at1) 1
  have hc2357 : w2352.cell? ⟨g2309, 2, none⟩ = some (.int .i64 0) := blk_cellv (HS.out.at1) 2 rfl
  have hz2358 : w2352.frozen? ⟨g2309, 2, none⟩ = false := blk_fz (HS.out.at1) 2
  have hc2359 : w2352.cell? ⟨g2309, 3, none⟩ = some (.int .i64 0) := blk_cellv (HS.out.at1) 3 rfl
  have hz2360 : w2352.frozen? ⟨g2309, 3, none⟩ = false := blk_fz (HS.out.at1) 3
  have hc2361 : w2352.cell? ⟨g2309, 4, none⟩ = some (.int .i64 0) := blk_cellv (HS.out.at1) 4 rfl
  have hz2362 : w2352.frozen? ⟨g2309, 4, none⟩ = false := blk_fz (HS.out.at1) 4
  have hc2363 : w2352.cell? ⟨g2309, 5, none⟩ = some (.int .i64 0) := blk_cellv (HS.out.at1) 5 rfl
  have hz2364 : w2352.frozen? ⟨g2309, 5, none⟩ = false := blk_fz (HS.out.at1) 5
  have hc2365 : w2352.cell? ⟨g2309, 6, none⟩ = some (.int .i64 0) := blk_cellv (HS.out.at1) 6 rfl
  have hz2366 : w2352.frozen? ⟨g2309, 6, none⟩ = false := blk_fz (HS.out.at1) 6
  go_wp2_with (first | ((with_reducible refine gate_store (t := 32) (p := 2) rfl ?_); refine store_event (w1 := (World.setCell (World.setCell (World.setCell (World.setCell (World.setCell (World.setCell (World.setCell w2352 ⟨g2309, 0, none⟩ (.int .i64 t2332)) ⟨g2309, 1, none⟩ (.int .i64 t2335)) ⟨g2309, 2, none⟩ (.int .i64 t2338)) ⟨g2309, 3, none⟩ (.int .i64 t2341)) ⟨g2309, 4, none⟩ (.int .i64 t2344)) ⟨g2309, 5, none⟩ (.int .i64 t2347)) ⟨g2309, 6, none⟩ (.int .i64 t2350))) rfl (t := 32) (p := 2) rfl rfl ?hr ?_; (case hr => first | (go_simp; done) | (go_simp; rfl)); intro w2367 hst; clear hc2353 hz2354 hc2355 hz2356 hc2357 hz2358 hc2359 hz2360 hc2361 hz2362 hc2363 hz2364 hc2365 hz2366; replace HS : Aside0 (Sep (fps []) w [b3 g2306 a2305, b1 g2309 t2332 t2335 t2338 t2341 t2344 t2347 t2350] w2367) := ⟨by rw [hst]; exact HS.out.setAll (l1 := [b3 g2306 a2305]) (l2 := []) [.int .i64 t2332, .int .i64 t2335, .int .i64 t2338, .int .i64 t2341, .int .i64 t2344, .int .i64 t2347, .int .i64 t2350] rfl⟩; clear hst; replace HS : Aside0 (Sep (fps []) w [b1 g2309 t2332 t2335 t2338 t2341 t2344 t2347 t2350] w2367) := ⟨HS.out.sub (.cons _ (.cons_cons _ .slnil))⟩))
  have hc2368 : w2367.cell? ⟨g2309, 0, none⟩ = some (.int .i64 t2332) := blk_cellv (HS.out.at0) 0 rfl
  have hc2369 : w2367.cell? ⟨g2309, 1, none⟩ = some (.int .i64 t2335) := blk_cellv (HS.out.at0) 1 rfl
  have hc2370 : w2367.cell? ⟨g2309, 2, none⟩ = some (.int .i64 t2338) := blk_cellv (HS.out.at0) 2 rfl
  have hc2371 : w2367.cell? ⟨g2309, 3, none⟩ = some (.int .i64 t2341) := blk_cellv (HS.out.at0) 3 rfl
  have hc2372 : w2367.cell? ⟨g2309, 4, none⟩ = some (.int .i64 t2344) := blk_cellv (HS.out.at0) 4 rfl
  have hc2373 : w2367.cell? ⟨g2309, 5, none⟩ = some (.int .i64 t2347) := blk_cellv (HS.out.at0) 5 rfl
  have hc2374 : w2367.cell? ⟨g2309, 6, none⟩ = some (.int .i64 t2350) := blk_cellv (HS.out.at0) 6 rfl
  refine bodyPost_ret (v := .agg #[.int .i64 t2332, .int .i64 t2335, .int .i64 t2338, .int .i64 t2341, .int .i64 t2344, .int .i64 t2347, .int .i64 t2350]) (by simp [results, Tryd.results19, go_sem, hc2368, hc2369, hc2370, hc2371, hc2372, hc2373, hc2374]) rfl ?_
  rw [← some_eq H]
  exact ⟨(by first | rfl | (simp [IntKind.wrap_u32]; done)), (HS.out).keep (l := []) (rest := [b1 g2309 t2332 t2335 t2338 t2341 t2344 t2347 t2350])⟩

set_option maxHeartbeats 30000000 in
set_option maxRecDepth 100000 in
theorem ring_marked.calls (l2166 : List Int) (a2171 : Int) (a2172 : Int) (a2173 : Int) (a2174 : Int) (a2175 : Int) (a2176 : Int) (a2177 : Int) (g2162 : Nat) (g2164 : Nat) (A2167 : Option Addr) (m2168 : Nat) (n2169 : Nat) (r : Int × Int × Int × Int × Int × Int × Int × Bool × Int) (w : World)  (HGl0 : Aside0 (Gl 0 #[.int .i64 0, .int .i64 0, .int .i64 0, .int .i64 0, .int .i64 0] (fps [b14 g2162 g2164 a2172 a2173 a2174 a2175, b13 g2164 A2167 m2168 n2169 a2171, r4 A2167 m2168 n2169 l2166]) w)) (HS : Aside0 (Sep (fps [b14 g2162 g2164 a2172 a2173 a2174 a2175, b13 g2164 A2167 m2168 n2169 a2171, r4 A2167 m2168 n2169 l2166]) w [b14 g2162 g2164 a2172 a2173 a2174 a2175, b13 g2164 A2167 m2168 n2169 a2171, r4 A2167 m2168 n2169 l2166] w)) (H : Aside0 (ring_marked.f l2166 a2171 a2172 a2173 a2174 a2175 a2176 a2177 = some r)) :
    Calls Tryd.prog 79 #[.pointer (some ⟨g2162, 0, none⟩), .int .i64 a2176, .int .i64 a2177] w fun e w' => e = .returned (.tuple #[.agg #[.int .i64 r.1, .int .i64 r.2.1, .int .i64 r.2.2.1, .int .i64 r.2.2.2.1, .int .i64 r.2.2.2.2.1, .int .i64 r.2.2.2.2.2.1, .int .i64 r.2.2.2.2.2.2.1], .bool r.2.2.2.2.2.2.2.1]) ∧ Sep (fps [b14 g2162 g2164 a2172 a2173 a2174 a2175, b13 g2164 A2167 m2168 n2169 a2171, r4 A2167 m2168 n2169 l2166]) w [b14 g2162 g2164 a2172 a2173 a2174 a2175, b13 g2164 A2167 m2168 n2169 r.2.2.2.2.2.2.2.2, r4 A2167 m2168 n2169 l2166] w' := by
  generalize (fps [b14 g2162 g2164 a2172 a2173 a2174 a2175, b13 g2164 A2167 m2168 n2169 a2171, r4 A2167 m2168 n2169 l2166]) = FF at HS HGl0 ⊢
  obtain rfl := (row_len (HS.out.at2)).symm
  unfold ring_marked.f at H
  go_enter Tryd.func79, Tryd.ntmps79
  by_cases c2424 : a2176 < 0
  · have H := if_yes c2424 H
    have c2424b0 : decide (a2176 < 0) = true := decide_eq_true c2424
    clear c2424
    go_wp2_with (first | ((with_reducible refine gate_dst (N := 6) rfl ?_); refine box_on ?hg (N := 6) ?hd (cs := #[.int .i64 0, .int .i64 0, .int .i64 0, .int .i64 0, .int .i64 0, .int .i64 0, .int .i64 0]) (t := 32) ?hr ?_; (case hd => rfl); (case hg => rfl); (case hr => first | (go_simp; done) | (go_simp; rfl)); intro g2421 hg w2422 hbox hb; replace HS : Aside0 (Sep FF w [b14 g2162 g2164 a2172 a2173 a2174 a2175, b13 g2164 A2167 l2166.length n2169 a2171, r4 A2167 l2166.length n2169 l2166, b1 g2421 0 0 0 0 0 0 0] w2422) := ⟨HS.out.box hg hbox hb⟩; clear hg hbox hb; have hc2425 : w2422.cell? ⟨g2421, 0, none⟩ = some (.int .i64 0) := blk_cellv (HS.out.at3) 0 rfl; have hz2426 : w2422.frozen? ⟨g2421, 0, none⟩ = false := blk_fz (HS.out.at3) 0; have hc2427 : w2422.cell? ⟨g2421, 1, none⟩ = some (.int .i64 0) := blk_cellv (HS.out.at3) 1 rfl; have hz2428 : w2422.frozen? ⟨g2421, 1, none⟩ = false := blk_fz (HS.out.at3) 1; have hc2429 : w2422.cell? ⟨g2421, 2, none⟩ = some (.int .i64 0) := blk_cellv (HS.out.at3) 2 rfl; have hz2430 : w2422.frozen? ⟨g2421, 2, none⟩ = false := blk_fz (HS.out.at3) 2; have hc2431 : w2422.cell? ⟨g2421, 3, none⟩ = some (.int .i64 0) := blk_cellv (HS.out.at3) 3 rfl; have hz2432 : w2422.frozen? ⟨g2421, 3, none⟩ = false := blk_fz (HS.out.at3) 3; have hc2433 : w2422.cell? ⟨g2421, 4, none⟩ = some (.int .i64 0) := blk_cellv (HS.out.at3) 4 rfl; have hz2434 : w2422.frozen? ⟨g2421, 4, none⟩ = false := blk_fz (HS.out.at3) 4; have hc2435 : w2422.cell? ⟨g2421, 5, none⟩ = some (.int .i64 0) := blk_cellv (HS.out.at3) 5 rfl; have hz2436 : w2422.frozen? ⟨g2421, 5, none⟩ = false := blk_fz (HS.out.at3) 5; have hc2437 : w2422.cell? ⟨g2421, 6, none⟩ = some (.int .i64 0) := blk_cellv (HS.out.at3) 6 rfl; have hz2438 : w2422.frozen? ⟨g2421, 6, none⟩ = false := blk_fz (HS.out.at3) 6) | ((with_reducible refine gate_store (t := 32) (p := 6) rfl ?_); refine store_event (w1 := (World.setCell (World.setCell (World.setCell (World.setCell (World.setCell (World.setCell (World.setCell w2422 ⟨g2421, 0, none⟩ (.int .i64 0)) ⟨g2421, 1, none⟩ (.int .i64 0)) ⟨g2421, 2, none⟩ (.int .i64 0)) ⟨g2421, 3, none⟩ (.int .i64 0)) ⟨g2421, 4, none⟩ (.int .i64 0)) ⟨g2421, 5, none⟩ (.int .i64 0)) ⟨g2421, 6, none⟩ (.int .i64 0))) rfl (t := 32) (p := 6) rfl rfl ?hr ?_; (case hr => first | (go_simp; done) | (go_simp; rfl)); intro w2439 hst; clear hc2425 hz2426 hc2427 hz2428 hc2429 hz2430 hc2431 hz2432 hc2433 hz2434 hc2435 hz2436 hc2437 hz2438; replace HS : Aside0 (Sep FF w [b14 g2162 g2164 a2172 a2173 a2174 a2175, b13 g2164 A2167 l2166.length n2169 a2171, r4 A2167 l2166.length n2169 l2166, b1 g2421 0 0 0 0 0 0 0] w2439) := ⟨by rw [hst]; exact HS.out.setAll (l1 := [b14 g2162 g2164 a2172 a2173 a2174 a2175, b13 g2164 A2167 l2166.length n2169 a2171, r4 A2167 l2166.length n2169 l2166]) (l2 := []) [.int .i64 0, .int .i64 0, .int .i64 0, .int .i64 0, .int .i64 0, .int .i64 0, .int .i64 0] rfl⟩; clear hst))
    have hc2440 : w2439.cell? ⟨g2421, 0, none⟩ = some (.int .i64 0) := blk_cellv (HS.out.at3) 0 rfl
    have hc2441 : w2439.cell? ⟨g2421, 1, none⟩ = some (.int .i64 0) := blk_cellv (HS.out.at3) 1 rfl
    have hc2442 : w2439.cell? ⟨g2421, 2, none⟩ = some (.int .i64 0) := blk_cellv (HS.out.at3) 2 rfl
    have hc2443 : w2439.cell? ⟨g2421, 3, none⟩ = some (.int .i64 0) := blk_cellv (HS.out.at3) 3 rfl
    have hc2444 : w2439.cell? ⟨g2421, 4, none⟩ = some (.int .i64 0) := blk_cellv (HS.out.at3) 4 rfl
    have hc2445 : w2439.cell? ⟨g2421, 5, none⟩ = some (.int .i64 0) := blk_cellv (HS.out.at3) 5 rfl
    have hc2446 : w2439.cell? ⟨g2421, 6, none⟩ = some (.int .i64 0) := blk_cellv (HS.out.at3) 6 rfl
    refine bodyPost_ret (v := .tuple #[.agg #[.int .i64 0, .int .i64 0, .int .i64 0, .int .i64 0, .int .i64 0, .int .i64 0, .int .i64 0], .bool false]) (by simp [results, Tryd.results79, go_sem, hc2440, hc2441, hc2442, hc2443, hc2444, hc2445, hc2446]) rfl ?_
    rw [← some_eq H]
    exact ⟨(by first | rfl | (simp [IntKind.wrap_u32]; done)), ((((HS.out).front 2 (by simp)).front 2 (by simp)).front 2 (by simp)).keep (l := [b14 g2162 g2164 a2172 a2173 a2174 a2175, b13 g2164 A2167 l2166.length n2169 a2171, r4 A2167 l2166.length n2169 l2166]) (rest := [b1 g2421 0 0 0 0 0 0 0])⟩
  · have H := if_no c2424 H
    have c2424b0 : decide (a2176 < 0) = false := decide_eq_false c2424
    clear c2424
    go_wp2_with (first | ((with_reducible refine gate_dst (N := 6) rfl ?_); refine box_on ?hg (N := 6) ?hd (cs := #[.int .i64 0, .int .i64 0, .int .i64 0, .int .i64 0, .int .i64 0, .int .i64 0, .int .i64 0]) (t := 32) ?hr ?_; (case hd => rfl); (case hg => rfl); (case hr => first | (go_simp; done) | (go_simp; rfl)); intro g2421 hg w2422 hbox hb; replace HS : Aside0 (Sep FF w [b14 g2162 g2164 a2172 a2173 a2174 a2175, b13 g2164 A2167 l2166.length n2169 a2171, r4 A2167 l2166.length n2169 l2166, b1 g2421 0 0 0 0 0 0 0] w2422) := ⟨HS.out.box hg hbox hb⟩; clear hg hbox hb))
    obtain ⟨t2447, HA2448, H⟩ := bind_some H
    refine (ground_Ground_Conf.calls l2166 a2171 a2172 a2173 a2174 a2175 g2162 g2164 A2167 l2166.length n2169 t2447 _ ⟨Gl.pass (l := [b14 g2162 g2164 a2172 a2173 a2174 a2175, b13 g2164 A2167 l2166.length n2169 a2171, r4 A2167 l2166.length n2169 l2166]) (rest := [b1 g2421 0 0 0 0 0 0 0]) HGl0.out HS.out⟩ ⟨HS.out.begin (l := [b14 g2162 g2164 a2172 a2173 a2174 a2175, b13 g2164 A2167 l2166.length n2169 a2171, r4 A2167 l2166.length n2169 l2166]) (rest := [b1 g2421 0 0 0 0 0 0 0])⟩ HA2448).mono ?_
    rintro e_ w2449 ⟨rfl, hS⟩
    replace HS : Aside0 (Sep FF w [b14 g2162 g2164 a2172 a2173 a2174 a2175, b13 g2164 A2167 l2166.length n2169 a2171, r4 A2167 l2166.length n2169 l2166, b1 g2421 0 0 0 0 0 0 0] w2449) := ⟨HS.out.call (l := [b14 g2162 g2164 a2172 a2173 a2174 a2175, b13 g2164 A2167 l2166.length n2169 a2171, r4 A2167 l2166.length n2169 l2166]) (rest := [b1 g2421 0 0 0 0 0 0 0]) hS⟩
    clear hS
    by_cases c2451 : a2176 ≥ t2447.1
    · have H := if_yes c2451 H
      have c2451b0 : decide (t2447.1 ≤ a2176) = true := decide_eq_true c2451
      clear c2451
      have fl2450 : ∀ w, (Instr.field 30 (.agg #[.int .i64 t2447.1, .int .i64 t2447.2.1, .int .i64 t2447.2.2.1, .int .i64 t2447.2.2.2]) 0).run Tryd.prog w = .ok (.int .i64 t2447.1) w := fun _ => by kernel_rfl
      have hc2452 : w2449.cell? ⟨g2421, 0, none⟩ = some (.int .i64 0) := blk_cellv (HS.out.at3) 0 rfl
      have hz2453 : w2449.frozen? ⟨g2421, 0, none⟩ = false := blk_fz (HS.out.at3) 0
      have hc2454 : w2449.cell? ⟨g2421, 1, none⟩ = some (.int .i64 0) := blk_cellv (HS.out.at3) 1 rfl
      have hz2455 : w2449.frozen? ⟨g2421, 1, none⟩ = false := blk_fz (HS.out.at3) 1
      have hc2456 : w2449.cell? ⟨g2421, 2, none⟩ = some (.int .i64 0) := blk_cellv (HS.out.at3) 2 rfl
      have hz2457 : w2449.frozen? ⟨g2421, 2, none⟩ = false := blk_fz (HS.out.at3) 2
      have hc2458 : w2449.cell? ⟨g2421, 3, none⟩ = some (.int .i64 0) := blk_cellv (HS.out.at3) 3 rfl
      have hz2459 : w2449.frozen? ⟨g2421, 3, none⟩ = false := blk_fz (HS.out.at3) 3
      have hc2460 : w2449.cell? ⟨g2421, 4, none⟩ = some (.int .i64 0) := blk_cellv (HS.out.at3) 4 rfl
      have hz2461 : w2449.frozen? ⟨g2421, 4, none⟩ = false := blk_fz (HS.out.at3) 4
      have hc2462 : w2449.cell? ⟨g2421, 5, none⟩ = some (.int .i64 0) := blk_cellv (HS.out.at3) 5 rfl
      have hz2463 : w2449.frozen? ⟨g2421, 5, none⟩ = false := blk_fz (HS.out.at3) 5
      have hc2464 : w2449.cell? ⟨g2421, 6, none⟩ = some (.int .i64 0) := blk_cellv (HS.out.at3) 6 rfl
      have hz2465 : w2449.frozen? ⟨g2421, 6, none⟩ = false := blk_fz (HS.out.at3) 6
      go_wp2_with (first | ((with_reducible refine gate_store (t := 32) (p := 6) rfl ?_); refine store_event (w1 := (World.setCell (World.setCell (World.setCell (World.setCell (World.setCell (World.setCell (World.setCell w2449 ⟨g2421, 0, none⟩ (.int .i64 0)) ⟨g2421, 1, none⟩ (.int .i64 0)) ⟨g2421, 2, none⟩ (.int .i64 0)) ⟨g2421, 3, none⟩ (.int .i64 0)) ⟨g2421, 4, none⟩ (.int .i64 0)) ⟨g2421, 5, none⟩ (.int .i64 0)) ⟨g2421, 6, none⟩ (.int .i64 0))) rfl (t := 32) (p := 6) rfl rfl ?hr ?_; (case hr => first | (go_simp; done) | (go_simp; rfl)); intro w2466 hst; clear fl2450 hc2452 hz2453 hc2454 hz2455 hc2456 hz2457 hc2458 hz2459 hc2460 hz2461 hc2462 hz2463 hc2464 hz2465; replace HS : Aside0 (Sep FF w [b14 g2162 g2164 a2172 a2173 a2174 a2175, b13 g2164 A2167 l2166.length n2169 a2171, r4 A2167 l2166.length n2169 l2166, b1 g2421 0 0 0 0 0 0 0] w2466) := ⟨by rw [hst]; exact HS.out.setAll (l1 := [b14 g2162 g2164 a2172 a2173 a2174 a2175, b13 g2164 A2167 l2166.length n2169 a2171, r4 A2167 l2166.length n2169 l2166]) (l2 := []) [.int .i64 0, .int .i64 0, .int .i64 0, .int .i64 0, .int .i64 0, .int .i64 0, .int .i64 0] rfl⟩; clear hst))
      have hc2467 : w2466.cell? ⟨g2421, 0, none⟩ = some (.int .i64 0) := blk_cellv (HS.out.at3) 0 rfl
      have hc2468 : w2466.cell? ⟨g2421, 1, none⟩ = some (.int .i64 0) := blk_cellv (HS.out.at3) 1 rfl
      have hc2469 : w2466.cell? ⟨g2421, 2, none⟩ = some (.int .i64 0) := blk_cellv (HS.out.at3) 2 rfl
      have hc2470 : w2466.cell? ⟨g2421, 3, none⟩ = some (.int .i64 0) := blk_cellv (HS.out.at3) 3 rfl
      have hc2471 : w2466.cell? ⟨g2421, 4, none⟩ = some (.int .i64 0) := blk_cellv (HS.out.at3) 4 rfl
      have hc2472 : w2466.cell? ⟨g2421, 5, none⟩ = some (.int .i64 0) := blk_cellv (HS.out.at3) 5 rfl
      have hc2473 : w2466.cell? ⟨g2421, 6, none⟩ = some (.int .i64 0) := blk_cellv (HS.out.at3) 6 rfl
      refine bodyPost_ret (v := .tuple #[.agg #[.int .i64 0, .int .i64 0, .int .i64 0, .int .i64 0, .int .i64 0, .int .i64 0, .int .i64 0], .bool false]) (by simp [results, Tryd.results79, go_sem, hc2467, hc2468, hc2469, hc2470, hc2471, hc2472, hc2473]) rfl ?_
      rw [← some_eq H]
      exact ⟨(by first | rfl | (simp [IntKind.wrap_u32]; done)), ((((HS.out).front 2 (by simp)).front 2 (by simp)).front 2 (by simp)).keep (l := [b14 g2162 g2164 a2172 a2173 a2174 a2175, b13 g2164 A2167 l2166.length n2169 a2171, r4 A2167 l2166.length n2169 l2166]) (rest := [b1 g2421 0 0 0 0 0 0 0])⟩
    · have H := if_no c2451 H
      have c2451b0 : decide (t2447.1 ≤ a2176) = false := decide_eq_false c2451
      clear c2451
      have fl2450 : ∀ w, (Instr.field 30 (.agg #[.int .i64 t2447.1, .int .i64 t2447.2.1, .int .i64 t2447.2.2.1, .int .i64 t2447.2.2.2]) 0).run Tryd.prog w = .ok (.int .i64 t2447.1) w := fun _ => by kernel_rfl
      go_wp2_with fail
      clear fl2450
      obtain ⟨t2474, HA2475, H⟩ := bind_some H
      refine (ground_Ground_Word.calls l2166 a2171 a2172 a2173 a2174 a2175 a2176 0 g2162 g2164 A2167 l2166.length n2169 t2474 _ ⟨Gl.pass (l := [b14 g2162 g2164 a2172 a2173 a2174 a2175, b13 g2164 A2167 l2166.length n2169 a2171, r4 A2167 l2166.length n2169 l2166]) (rest := [b1 g2421 0 0 0 0 0 0 0]) HGl0.out HS.out⟩ ⟨HS.out.begin (l := [b14 g2162 g2164 a2172 a2173 a2174 a2175, b13 g2164 A2167 l2166.length n2169 a2171, r4 A2167 l2166.length n2169 l2166]) (rest := [b1 g2421 0 0 0 0 0 0 0])⟩ HA2475).mono ?_
      rintro e_ w2476 ⟨rfl, hS⟩
      replace HS : Aside0 (Sep FF w [b14 g2162 g2164 a2172 a2173 a2174 a2175, b13 g2164 A2167 l2166.length n2169 t2474.2, r4 A2167 l2166.length n2169 l2166, b1 g2421 0 0 0 0 0 0 0] w2476) := ⟨HS.out.call (l := [b14 g2162 g2164 a2172 a2173 a2174 a2175, b13 g2164 A2167 l2166.length n2169 a2171, r4 A2167 l2166.length n2169 l2166]) (rest := [b1 g2421 0 0 0 0 0 0 0]) hS⟩
      clear hS
      go_wp2_with fail
      obtain ⟨t2477, HA2478, H⟩ := bind_some H
      refine (tag_Unpack.calls t2474.1 t2477 _ ⟨Gl.pass (l := []) (rest := [b14 g2162 g2164 a2172 a2173 a2174 a2175, b13 g2164 A2167 l2166.length n2169 t2474.2, r4 A2167 l2166.length n2169 l2166, b1 g2421 0 0 0 0 0 0 0]) HGl0.out HS.out⟩ ⟨HS.out.begin (l := []) (rest := [b14 g2162 g2164 a2172 a2173 a2174 a2175, b13 g2164 A2167 l2166.length n2169 t2474.2, r4 A2167 l2166.length n2169 l2166, b1 g2421 0 0 0 0 0 0 0])⟩ HA2478).mono ?_
      rintro e_ w2479 ⟨rfl, hS⟩
      replace HS : Aside0 (Sep FF w [b14 g2162 g2164 a2172 a2173 a2174 a2175, b13 g2164 A2167 l2166.length n2169 t2474.2, r4 A2167 l2166.length n2169 l2166, b1 g2421 0 0 0 0 0 0 0] w2479) := ⟨HS.out.call (l := []) (rest := [b14 g2162 g2164 a2172 a2173 a2174 a2175, b13 g2164 A2167 l2166.length n2169 t2474.2, r4 A2167 l2166.length n2169 l2166, b1 g2421 0 0 0 0 0 0 0]) hS⟩
      clear hS
      go_wp2_with (first | ((with_reducible refine gate_dst (N := 8) rfl ?_); refine box_on ?hg (N := 8) ?hd (cs := #[.int .i64 0, .int .i64 0, .int .i64 0, .int .i64 0, .int .i64 0, .int .i64 0, .int .i64 0]) (t := 32) ?hr ?_; (case hd => rfl); (case hg => rfl); (case hr => first | (go_simp; done) | (go_simp; rfl)); intro g2480 hg w2481 hbox hb; replace HS : Aside0 (Sep FF w [b14 g2162 g2164 a2172 a2173 a2174 a2175, b13 g2164 A2167 l2166.length n2169 t2474.2, r4 A2167 l2166.length n2169 l2166, b1 g2421 0 0 0 0 0 0 0, b1 g2480 0 0 0 0 0 0 0] w2481) := ⟨HS.out.box hg hbox hb⟩; clear hg hbox hb; have hc2483 : w2481.cell? ⟨g2480, 0, none⟩ = some (.int .i64 0) := blk_cellv (HS.out.at4) 0 rfl; have hz2484 : w2481.frozen? ⟨g2480, 0, none⟩ = false := blk_fz (HS.out.at4) 0; have hc2485 : w2481.cell? ⟨g2480, 1, none⟩ = some (.int .i64 0) := blk_cellv (HS.out.at4) 1 rfl; have hz2486 : w2481.frozen? ⟨g2480, 1, none⟩ = false := blk_fz (HS.out.at4) 1; have hc2487 : w2481.cell? ⟨g2480, 2, none⟩ = some (.int .i64 0) := blk_cellv (HS.out.at4) 2 rfl; have hz2488 : w2481.frozen? ⟨g2480, 2, none⟩ = false := blk_fz (HS.out.at4) 2; have hc2489 : w2481.cell? ⟨g2480, 3, none⟩ = some (.int .i64 0) := blk_cellv (HS.out.at4) 3 rfl; have hz2490 : w2481.frozen? ⟨g2480, 3, none⟩ = false := blk_fz (HS.out.at4) 3; have hc2491 : w2481.cell? ⟨g2480, 4, none⟩ = some (.int .i64 0) := blk_cellv (HS.out.at4) 4 rfl; have hz2492 : w2481.frozen? ⟨g2480, 4, none⟩ = false := blk_fz (HS.out.at4) 4; have hc2493 : w2481.cell? ⟨g2480, 5, none⟩ = some (.int .i64 0) := blk_cellv (HS.out.at4) 5 rfl; have hz2494 : w2481.frozen? ⟨g2480, 5, none⟩ = false := blk_fz (HS.out.at4) 5; have hc2495 : w2481.cell? ⟨g2480, 6, none⟩ = some (.int .i64 0) := blk_cellv (HS.out.at4) 6 rfl; have hz2496 : w2481.frozen? ⟨g2480, 6, none⟩ = false := blk_fz (HS.out.at4) 6) | ((with_reducible refine gate_store (t := 32) (p := 8) rfl ?_); refine store_event (w1 := (World.setCell (World.setCell (World.setCell (World.setCell (World.setCell (World.setCell (World.setCell w2481 ⟨g2480, 0, none⟩ (.int .i64 t2477.1)) ⟨g2480, 1, none⟩ (.int .i64 t2477.2.1)) ⟨g2480, 2, none⟩ (.int .i64 t2477.2.2.1)) ⟨g2480, 3, none⟩ (.int .i64 t2477.2.2.2.1)) ⟨g2480, 4, none⟩ (.int .i64 t2477.2.2.2.2.1)) ⟨g2480, 5, none⟩ (.int .i64 t2477.2.2.2.2.2.1)) ⟨g2480, 6, none⟩ (.int .i64 t2477.2.2.2.2.2.2))) rfl (t := 32) (p := 8) rfl rfl ?hr ?_; (case hr => first | (go_simp; done) | (go_simp; rfl)); intro w2497 hst; clear hc2483 hz2484 hc2485 hz2486 hc2487 hz2488 hc2489 hz2490 hc2491 hz2492 hc2493 hz2494 hc2495 hz2496; replace HS : Aside0 (Sep FF w [b14 g2162 g2164 a2172 a2173 a2174 a2175, b13 g2164 A2167 l2166.length n2169 t2474.2, r4 A2167 l2166.length n2169 l2166, b1 g2421 0 0 0 0 0 0 0, b1 g2480 t2477.1 t2477.2.1 t2477.2.2.1 t2477.2.2.2.1 t2477.2.2.2.2.1 t2477.2.2.2.2.2.1 t2477.2.2.2.2.2.2] w2497) := ⟨by rw [hst]; exact HS.out.setAll (l1 := [b14 g2162 g2164 a2172 a2173 a2174 a2175, b13 g2164 A2167 l2166.length n2169 t2474.2, r4 A2167 l2166.length n2169 l2166, b1 g2421 0 0 0 0 0 0 0]) (l2 := []) [.int .i64 t2477.1, .int .i64 t2477.2.1, .int .i64 t2477.2.2.1, .int .i64 t2477.2.2.2.1, .int .i64 t2477.2.2.2.2.1, .int .i64 t2477.2.2.2.2.2.1, .int .i64 t2477.2.2.2.2.2.2] rfl⟩; clear hst))
      refine start_ (n := 17) (S := (fun w' => w'.cell? ⟨g2480, 0, none⟩ = some (.int .i64 t2477.1) ∧ w'.cell? ⟨g2480, 1, none⟩ = some (.int .i64 t2477.2.1) ∧ w'.cell? ⟨g2480, 2, none⟩ = some (.int .i64 t2477.2.2.1) ∧ w'.cell? ⟨g2480, 3, none⟩ = some (.int .i64 t2477.2.2.2.1) ∧ w'.cell? ⟨g2480, 4, none⟩ = some (.int .i64 t2477.2.2.2.2.1) ∧ w'.cell? ⟨g2480, 5, none⟩ = some (.int .i64 t2477.2.2.2.2.2.1) ∧ w'.cell? ⟨g2480, 6, none⟩ = some (.int .i64 t2477.2.2.2.2.2.2))) (ds := []) #[false, false, false, false, false, false, false, false, false, false, false, false, false, false, false, false, false] (by kernel_rfl) rfl rfl (⟨blk_cellv ((HS.out.drew).at4) 0 rfl, blk_cellv ((HS.out.drew).at4) 1 rfl, blk_cellv ((HS.out.drew).at4) 2 rfl, blk_cellv ((HS.out.drew).at4) 3 rfl, blk_cellv ((HS.out.drew).at4) 4 rfl, blk_cellv ((HS.out.drew).at4) 5 rfl, blk_cellv ((HS.out.drew).at4) 6 rfl⟩) (fun hHeld => ?_)
      have HS_ := Aside0.mk HS.out.drew
      clear HS
      generalize World.drew _ = w2499 at HS_ hHeld ⊢
      have HS := HS_
      clear HS_
      refine pure_ (i := 1) (N := some 28) (v := ?_) (a' := ?_) #[false, true, false, false, false, false, false, false, false, false, false, false, false, false, false, false, false] rfl rfl (by kernel_rfl) (fun _ _ _ h => h) (Or.inl ⟨by rfl, ?_⟩) ?_ ?_
      rotate_left
      · intro w'
        go_simp
        with_reducible rfl
      rotate_left
      · simp only [Act.put, List.setIfInBounds_toArray, List.set_cons_zero, List.set_cons_succ, i64_w, i32_w]
        rfl
      refine take_ (i := 0) (N := some 27) (v := ?_) (a' := ?_) #[true, true, false, false, false, false, false, false, false, false, false, false, false, false, false, false, false] rfl rfl (by kernel_rfl) (fun _ _ _ h => h) (Or.inl ⟨by rfl, ?_⟩) hHeld ?_ ?_
      rotate_left
      · rintro w' hS'
        obtain ⟨s0, s1, s2, s3, s4, s5, s6⟩ := hS'
        go_simp
        with_reducible rfl
      rotate_left
      · simp only [Act.put, List.setIfInBounds_toArray, List.set_cons_zero, List.set_cons_succ, i64_w, i32_w]
        rfl
      refine take_ (i := 2) (N := some 29) (v := ?_) (a' := ?_) #[true, true, true, false, false, false, false, false, false, false, false, false, false, false, false, false, false] rfl rfl (by kernel_rfl) (fun _ _ _ h => h) (Or.inl ⟨by rfl, ?_⟩) hHeld ?_ ?_
      rotate_left
      · rintro w' hS'
        obtain ⟨s0, s1, s2, s3, s4, s5, s6⟩ := hS'
        go_simp
        with_reducible rfl
      rotate_left
      · simp only [Act.put, List.setIfInBounds_toArray, List.set_cons_zero, List.set_cons_succ, i64_w, i32_w]
        rfl
      refine pure_ (i := 3) (N := some 30) (v := ?_) (a' := ?_) #[true, true, true, true, false, false, false, false, false, false, false, false, false, false, false, false, false] rfl rfl (by kernel_rfl) (fun _ _ _ h => h) (Or.inl ⟨by rfl, ?_⟩) ?_ ?_
      rotate_left
      · intro w'
        go_simp
        with_reducible rfl
      rotate_left
      · simp only [Act.put, List.setIfInBounds_toArray, List.set_cons_zero, List.set_cons_succ, i64_w, i32_w]
        rfl
      refine pure_ (i := 4) (N := some 31) (v := ?_) (a' := ?_) #[true, true, true, true, true, false, false, false, false, false, false, false, false, false, false, false, false] rfl rfl (by kernel_rfl) (fun _ _ _ h => h) (Or.inl ⟨by rfl, ?_⟩) ?_ ?_
      rotate_left
      · intro w'
        go_simp
        with_reducible rfl
      rotate_left
      · simp only [Act.put, List.setIfInBounds_toArray, List.set_cons_zero, List.set_cons_succ, i64_w, i32_w]
        rfl
      by_cases c2500 : t2477.1 = 1
      · have H := if_yes c2500 H
        have c2500b0 : (t2477.1 == 1) = true := beq_iff_eq.mpr c2500
        have c2500b1 : (t2477.1 != 1) = false := bne_eq_false_iff_eq.mpr c2500
        clear c2500
        try simp only [c2500b0, Bool.not_true, Bool.not_false]
        refine pure_ (i := 5) (N := some 32) (v := undef) (a' := ?_) #[true, true, true, true, true, true, false, false, false, false, false, false, false, false, false, false, false] rfl rfl (by kernel_rfl) (fun _ _ _ h => h) (Or.inr ⟨by rfl, rfl⟩) ?_ ?_
        rotate_left
        · simp only [Act.put, List.setIfInBounds_toArray, List.set_cons_zero, List.set_cons_succ, i64_w, i32_w]
          rfl
        try simp only [c2500b0, Bool.not_true, Bool.not_false]
        refine pure_ (i := 6) (N := some 33) (v := undef) (a' := ?_) #[true, true, true, true, true, true, true, false, false, false, false, false, false, false, false, false, false] rfl rfl (by kernel_rfl) (fun _ _ _ h => h) (Or.inr ⟨by rfl, rfl⟩) ?_ ?_
        rotate_left
        · simp only [Act.put, List.setIfInBounds_toArray, List.set_cons_zero, List.set_cons_succ, i64_w, i32_w]
          rfl
        try simp only [c2500b0, Bool.not_true, Bool.not_false]
        refine pure_ (i := 7) (N := some 34) (v := undef) (a' := ?_) #[true, true, true, true, true, true, true, true, false, false, false, false, false, false, false, false, false] rfl rfl (by kernel_rfl) (fun _ _ _ h => h) (Or.inr ⟨by rfl, rfl⟩) ?_ ?_
        rotate_left
        · simp only [Act.put, List.setIfInBounds_toArray, List.set_cons_zero, List.set_cons_succ, i64_w, i32_w]
          rfl
        refine pure_ (i := 8) (N := some 35) (v := ?_) (a' := ?_) #[true, true, true, true, true, true, true, true, true, false, false, false, false, false, false, false, false] rfl rfl (by kernel_rfl) (fun _ _ _ h => h) (Or.inl ⟨by rfl, ?_⟩) ?_ ?_
        rotate_left
        · intro w'
          go_simp
          with_reducible rfl
        rotate_left
        · simp only [Act.put, List.setIfInBounds_toArray, List.set_cons_zero, List.set_cons_succ, i64_w, i32_w]
          rfl
        refine pure_ (i := 9) (N := some 36) (v := ?_) (a' := ?_) #[true, true, true, true, true, true, true, true, true, true, false, false, false, false, false, false, false] rfl rfl (by kernel_rfl) (fun _ _ _ h => h) (Or.inl ⟨by rfl, ?_⟩) ?_ ?_
        rotate_left
        · intro w'
          go_simp
          with_reducible rfl
        rotate_left
        · simp only [Act.put, List.setIfInBounds_toArray, List.set_cons_zero, List.set_cons_succ, i64_w, i32_w]
          rfl
        refine pure_ (i := 10) (N := some 37) (v := ?_) (a' := ?_) #[true, true, true, true, true, true, true, true, true, true, true, false, false, false, false, false, false] rfl rfl (by kernel_rfl) (fun _ _ _ h => h) (Or.inl ⟨by rfl, ?_⟩) ?_ ?_
        rotate_left
        · intro w'
          go_simp
          with_reducible rfl
        rotate_left
        · simp only [Act.put, List.setIfInBounds_toArray, List.set_cons_zero, List.set_cons_succ, i64_w, i32_w]
          rfl
        refine pure_ (i := 12) (N := some 39) (v := ?_) (a' := ?_) #[true, true, true, true, true, true, true, true, true, true, true, false, true, false, false, false, false] rfl rfl (by kernel_rfl) (fun _ _ _ h => h) (Or.inl ⟨by rfl, ?_⟩) ?_ ?_
        rotate_left
        · intro w'
          go_simp
          with_reducible rfl
        rotate_left
        · simp only [Act.put, List.setIfInBounds_toArray, List.set_cons_zero, List.set_cons_succ, i64_w, i32_w]
          rfl
        refine take_ (i := 11) (N := some 38) (v := ?_) (a' := ?_) #[true, true, true, true, true, true, true, true, true, true, true, true, true, false, false, false, false] rfl rfl (by kernel_rfl) (fun _ _ _ h => h) (Or.inl ⟨by rfl, ?_⟩) hHeld ?_ ?_
        rotate_left
        · rintro w' hS'
          obtain ⟨s0, s1, s2, s3, s4, s5, s6⟩ := hS'
          go_simp
          with_reducible rfl
        rotate_left
        · simp only [Act.put, List.setIfInBounds_toArray, List.set_cons_zero, List.set_cons_succ, i64_w, i32_w]
          rfl
        refine pure_ (i := 13) (N := some 40) (v := ?_) (a' := ?_) #[true, true, true, true, true, true, true, true, true, true, true, true, true, true, false, false, false] rfl rfl (by kernel_rfl) (fun _ _ _ h => h) (Or.inl ⟨by rfl, ?_⟩) ?_ ?_
        rotate_left
        · intro w'
          go_simp
          with_reducible rfl
        rotate_left
        · simp only [Act.put, List.setIfInBounds_toArray, List.set_cons_zero, List.set_cons_succ, i64_w, i32_w]
          rfl
        refine pure_ (i := 14) (N := some 41) (v := ?_) (a' := ?_) #[true, true, true, true, true, true, true, true, true, true, true, true, true, true, true, false, false] rfl rfl (by kernel_rfl) (fun _ _ _ h => h) (Or.inl ⟨by rfl, ?_⟩) ?_ ?_
        rotate_left
        · intro w'
          go_simp
          with_reducible rfl
        rotate_left
        · simp only [Act.put, List.setIfInBounds_toArray, List.set_cons_zero, List.set_cons_succ, i64_w, i32_w]
          rfl
        refine one_ (i := 15) (N := none) #[true, true, true, true, true, true, true, true, true, true, true, true, true, true, true, true, false] rfl rfl (by kernel_rfl) (by decide) (fun K hK => ?_)
        have hc2502 := blk_cellv (v := .int .i64 0) (HS.out.at3) 0 rfl
        have hz2503 := blk_fz (HS.out.at3) 0
        have hc2504 := blk_cellv (v := .int .i64 0) (HS.out.at3) 1 rfl
        have hz2505 := blk_fz (HS.out.at3) 1
        have hc2506 := blk_cellv (v := .int .i64 0) (HS.out.at3) 2 rfl
        have hz2507 := blk_fz (HS.out.at3) 2
        have hc2508 := blk_cellv (v := .int .i64 0) (HS.out.at3) 3 rfl
        have hz2509 := blk_fz (HS.out.at3) 3
        have hc2510 := blk_cellv (v := .int .i64 0) (HS.out.at3) 4 rfl
        have hz2511 := blk_fz (HS.out.at3) 4
        have hc2512 := blk_cellv (v := .int .i64 0) (HS.out.at3) 5 rfl
        have hz2513 := blk_fz (HS.out.at3) 5
        have hc2514 := blk_cellv (v := .int .i64 0) (HS.out.at3) 6 rfl
        have hz2515 := blk_fz (HS.out.at3) 6
        refine store_step (w1 := (World.setCell (World.setCell (World.setCell (World.setCell (World.setCell (World.setCell (World.setCell w2499 ⟨g2421, 0, none⟩ (.int .i64 t2477.1)) ⟨g2421, 1, none⟩ (.int .i64 t2477.2.1)) ⟨g2421, 2, none⟩ (.int .i64 t2477.2.2.1)) ⟨g2421, 3, none⟩ (.int .i64 t2477.2.2.2.1)) ⟨g2421, 4, none⟩ (.int .i64 t2477.2.2.2.2.1)) ⟨g2421, 5, none⟩ (.int .i64 t2477.2.2.2.2.2.1)) ⟨g2421, 6, none⟩ (.int .i64 t2477.2.2.2.2.2.2))) (by rfl) rfl ?hr ?_
        case hr => first | (go_simp; done) | (go_simp; rfl)
        clear hc2502 hz2503 hc2504 hz2505 hc2506 hz2507 hc2508 hz2509 hc2510 hz2511 hc2512 hz2513 hc2514 hz2515
        intro w2501 hst
        replace HS : Aside0 (Sep FF w [b14 g2162 g2164 a2172 a2173 a2174 a2175, b13 g2164 A2167 l2166.length n2169 t2474.2, r4 A2167 l2166.length n2169 l2166, b1 g2421 t2477.1 t2477.2.1 t2477.2.2.1 t2477.2.2.2.1 t2477.2.2.2.2.1 t2477.2.2.2.2.2.1 t2477.2.2.2.2.2.2, b1 g2480 t2477.1 t2477.2.1 t2477.2.2.1 t2477.2.2.2.1 t2477.2.2.2.2.1 t2477.2.2.2.2.2.1 t2477.2.2.2.2.2.2] w2501) := ⟨by rw [hst]; exact HS.out.setAll (l1 := [b14 g2162 g2164 a2172 a2173 a2174 a2175, b13 g2164 A2167 l2166.length n2169 t2474.2, r4 A2167 l2166.length n2169 l2166]) (l2 := [b1 g2480 t2477.1 t2477.2.1 t2477.2.2.1 t2477.2.2.2.1 t2477.2.2.2.2.1 t2477.2.2.2.2.2.1 t2477.2.2.2.2.2.2]) [.int .i64 t2477.1, .int .i64 t2477.2.1, .int .i64 t2477.2.2.1, .int .i64 t2477.2.2.2.1, .int .i64 t2477.2.2.2.2.1, .int .i64 t2477.2.2.2.2.2.1, .int .i64 t2477.2.2.2.2.2.2] rfl⟩
        clear hst
        refine hK.out _ _ (⟨blk_cellv (HS.out.at4) 0 rfl, blk_cellv (HS.out.at4) 1 rfl, blk_cellv (HS.out.at4) 2 rfl, blk_cellv (HS.out.at4) 3 rfl, blk_cellv (HS.out.at4) 4 rfl, blk_cellv (HS.out.at4) 5 rfl, blk_cellv (HS.out.at4) 6 rfl⟩) (fun hHeld => ?_)
        clear hK K
        refine pure_ (i := 16) (N := some 7) (v := ?_) (a' := ?_) #[true, true, true, true, true, true, true, true, true, true, true, true, true, true, true, true, true] rfl rfl (by kernel_rfl) (fun _ _ _ h => h) (Or.inl ⟨by rfl, ?_⟩) ?_ ?_
        rotate_left
        · intro w'
          go_simp
          with_reducible rfl
        rotate_left
        · simp only [Act.put, List.setIfInBounds_toArray, List.set_cons_zero, List.set_cons_succ, i64_w, i32_w]
          rfl
        refine done_ (by kernel_rfl) ?_
        replace HS : Aside0 (Sep FF w [b14 g2162 g2164 a2172 a2173 a2174 a2175, b13 g2164 A2167 l2166.length n2169 t2474.2, r4 A2167 l2166.length n2169 l2166, b1 g2421 t2477.1 t2477.2.1 t2477.2.2.1 t2477.2.2.2.1 t2477.2.2.2.2.1 t2477.2.2.2.2.2.1 t2477.2.2.2.2.2.2] w2501) := ⟨HS.out.sub (.cons_cons _ (.cons_cons _ (.cons_cons _ (.cons_cons _ (.cons _ .slnil)))))⟩
        go_wp2_with fail
        have hc2516 : w2501.cell? ⟨g2421, 0, none⟩ = some (.int .i64 t2477.1) := blk_cellv (HS.out.at3) 0 rfl
        have hc2517 : w2501.cell? ⟨g2421, 1, none⟩ = some (.int .i64 t2477.2.1) := blk_cellv (HS.out.at3) 1 rfl
        have hc2518 : w2501.cell? ⟨g2421, 2, none⟩ = some (.int .i64 t2477.2.2.1) := blk_cellv (HS.out.at3) 2 rfl
        have hc2519 : w2501.cell? ⟨g2421, 3, none⟩ = some (.int .i64 t2477.2.2.2.1) := blk_cellv (HS.out.at3) 3 rfl
        have hc2520 : w2501.cell? ⟨g2421, 4, none⟩ = some (.int .i64 t2477.2.2.2.2.1) := blk_cellv (HS.out.at3) 4 rfl
        have hc2521 : w2501.cell? ⟨g2421, 5, none⟩ = some (.int .i64 t2477.2.2.2.2.2.1) := blk_cellv (HS.out.at3) 5 rfl
        have hc2522 : w2501.cell? ⟨g2421, 6, none⟩ = some (.int .i64 t2477.2.2.2.2.2.2) := blk_cellv (HS.out.at3) 6 rfl
        refine bodyPost_ret (v := .tuple #[.agg #[.int .i64 t2477.1, .int .i64 t2477.2.1, .int .i64 t2477.2.2.1, .int .i64 t2477.2.2.2.1, .int .i64 t2477.2.2.2.2.1, .int .i64 t2477.2.2.2.2.2.1, .int .i64 t2477.2.2.2.2.2.2], .bool (t2477.2.2.2.2.2.1 == a2177)]) (by simp [results, Tryd.results79, go_sem, hc2516, hc2517, hc2518, hc2519, hc2520, hc2521, hc2522]) rfl ?_
        rw [← some_eq H]
        exact ⟨(by first | rfl | (simp [IntKind.wrap_u32]; done)), ((((HS.out).front 2 (by simp)).front 2 (by simp)).front 2 (by simp)).keep (l := [b14 g2162 g2164 a2172 a2173 a2174 a2175, b13 g2164 A2167 l2166.length n2169 t2474.2, r4 A2167 l2166.length n2169 l2166]) (rest := [b1 g2421 t2477.1 t2477.2.1 t2477.2.2.1 t2477.2.2.2.1 t2477.2.2.2.2.1 t2477.2.2.2.2.2.1 t2477.2.2.2.2.2.2])⟩
      · have H := if_no c2500 H
        have c2500b0 : (t2477.1 == 1) = false := beq_eq_false_iff_ne.mpr c2500
        have c2500b1 : (t2477.1 != 1) = true := bne_iff_ne.mpr c2500
        clear c2500
        try simp only [c2500b0, Bool.not_true, Bool.not_false]
        refine pure_ (i := 5) (N := some 32) (v := ?_) (a' := ?_) #[true, true, true, true, true, true, false, false, false, false, false, false, false, false, false, false, false] rfl rfl (by kernel_rfl) (fun _ _ _ h => h) (Or.inl ⟨by rfl, ?_⟩) ?_ ?_
        rotate_left
        · intro w'
          go_simp
          with_reducible rfl
        rotate_left
        · simp only [Act.put, List.setIfInBounds_toArray, List.set_cons_zero, List.set_cons_succ, i64_w, i32_w]
          rfl
        try simp only [c2500b0, Bool.not_true, Bool.not_false]
        refine take_ (i := 6) (N := some 33) (v := ?_) (a' := ?_) #[true, true, true, true, true, true, true, false, false, false, false, false, false, false, false, false, false] rfl rfl (by kernel_rfl) (fun _ _ _ h => h) (Or.inl ⟨by rfl, ?_⟩) hHeld ?_ ?_
        rotate_left
        · rintro w' hS'
          obtain ⟨s0, s1, s2, s3, s4, s5, s6⟩ := hS'
          go_simp
          with_reducible rfl
        rotate_left
        · simp only [Act.put, List.setIfInBounds_toArray, List.set_cons_zero, List.set_cons_succ, i64_w, i32_w]
          rfl
        try simp only [c2500b0, Bool.not_true, Bool.not_false]
        refine pure_ (i := 7) (N := some 34) (v := ?_) (a' := ?_) #[true, true, true, true, true, true, true, true, false, false, false, false, false, false, false, false, false] rfl rfl (by kernel_rfl) (fun _ _ _ h => h) (Or.inl ⟨by rfl, ?_⟩) ?_ ?_
        rotate_left
        · intro w'
          go_simp
          with_reducible rfl
        rotate_left
        · simp only [Act.put, List.setIfInBounds_toArray, List.set_cons_zero, List.set_cons_succ, i64_w, i32_w]
          rfl
        refine pure_ (i := 8) (N := some 35) (v := ?_) (a' := ?_) #[true, true, true, true, true, true, true, true, true, false, false, false, false, false, false, false, false] rfl rfl (by kernel_rfl) (fun _ _ _ h => h) (Or.inl ⟨by rfl, ?_⟩) ?_ ?_
        rotate_left
        · intro w'
          go_simp
          with_reducible rfl
        rotate_left
        · simp only [Act.put, List.setIfInBounds_toArray, List.set_cons_zero, List.set_cons_succ, i64_w, i32_w]
          rfl
        refine pure_ (i := 9) (N := some 36) (v := ?_) (a' := ?_) #[true, true, true, true, true, true, true, true, true, true, false, false, false, false, false, false, false] rfl rfl (by kernel_rfl) (fun _ _ _ h => h) (Or.inl ⟨by rfl, ?_⟩) ?_ ?_
        rotate_left
        · intro w'
          go_simp
          with_reducible rfl
        rotate_left
        · simp only [Act.put, List.setIfInBounds_toArray, List.set_cons_zero, List.set_cons_succ, i64_w, i32_w]
          rfl
        by_cases c2523 : t2477.1 = 2
        · have H := if_yes c2523 H
          have c2523b0 : (t2477.1 == 2) = true := beq_iff_eq.mpr c2523
          have c2523b1 : (t2477.1 != 2) = false := bne_eq_false_iff_eq.mpr c2523
          clear c2523
          try simp only [c2523b0, Bool.not_true, Bool.not_false]
          refine pure_ (i := 10) (N := some 37) (v := ?_) (a' := ?_) #[true, true, true, true, true, true, true, true, true, true, true, false, false, false, false, false, false] rfl rfl (by kernel_rfl) (fun _ _ _ h => h) (Or.inl ⟨by rfl, ?_⟩) ?_ ?_
          rotate_left
          · intro w'
            go_simp
            with_reducible rfl
          rotate_left
          · simp only [Act.put, List.setIfInBounds_toArray, List.set_cons_zero, List.set_cons_succ, i64_w, i32_w]
            rfl
          try simp only [c2523b0, Bool.not_true, Bool.not_false]
          refine pure_ (i := 12) (N := some 39) (v := ?_) (a' := ?_) #[true, true, true, true, true, true, true, true, true, true, true, false, true, false, false, false, false] rfl rfl (by kernel_rfl) (fun _ _ _ h => h) (Or.inl ⟨by rfl, ?_⟩) ?_ ?_
          rotate_left
          · intro w'
            go_simp
            with_reducible rfl
          rotate_left
          · simp only [Act.put, List.setIfInBounds_toArray, List.set_cons_zero, List.set_cons_succ, i64_w, i32_w]
            rfl
          try simp only [c2523b0, Bool.not_true, Bool.not_false]
          refine take_ (i := 11) (N := some 38) (v := ?_) (a' := ?_) #[true, true, true, true, true, true, true, true, true, true, true, true, true, false, false, false, false] rfl rfl (by kernel_rfl) (fun _ _ _ h => h) (Or.inl ⟨by rfl, ?_⟩) hHeld ?_ ?_
          rotate_left
          · rintro w' hS'
            obtain ⟨s0, s1, s2, s3, s4, s5, s6⟩ := hS'
            go_simp
            with_reducible rfl
          rotate_left
          · simp only [Act.put, List.setIfInBounds_toArray, List.set_cons_zero, List.set_cons_succ, i64_w, i32_w]
            rfl
          try simp only [c2523b0, Bool.not_true, Bool.not_false]
          refine pure_ (i := 13) (N := some 40) (v := ?_) (a' := ?_) #[true, true, true, true, true, true, true, true, true, true, true, true, true, true, false, false, false] rfl rfl (by kernel_rfl) (fun _ _ _ h => h) (Or.inl ⟨by rfl, ?_⟩) ?_ ?_
          rotate_left
          · intro w'
            go_simp
            with_reducible rfl
          rotate_left
          · simp only [Act.put, List.setIfInBounds_toArray, List.set_cons_zero, List.set_cons_succ, i64_w, i32_w]
            rfl
          refine pure_ (i := 14) (N := some 41) (v := ?_) (a' := ?_) #[true, true, true, true, true, true, true, true, true, true, true, true, true, true, true, false, false] rfl rfl (by kernel_rfl) (fun _ _ _ h => h) (Or.inl ⟨by rfl, ?_⟩) ?_ ?_
          rotate_left
          · intro w'
            go_simp
            with_reducible rfl
          rotate_left
          · simp only [Act.put, List.setIfInBounds_toArray, List.set_cons_zero, List.set_cons_succ, i64_w, i32_w]
            rfl
          refine one_ (i := 15) (N := none) #[true, true, true, true, true, true, true, true, true, true, true, true, true, true, true, true, false] rfl rfl (by kernel_rfl) (by decide) (fun K hK => ?_)
          have hc2525 := blk_cellv (v := .int .i64 0) (HS.out.at3) 0 rfl
          have hz2526 := blk_fz (HS.out.at3) 0
          have hc2527 := blk_cellv (v := .int .i64 0) (HS.out.at3) 1 rfl
          have hz2528 := blk_fz (HS.out.at3) 1
          have hc2529 := blk_cellv (v := .int .i64 0) (HS.out.at3) 2 rfl
          have hz2530 := blk_fz (HS.out.at3) 2
          have hc2531 := blk_cellv (v := .int .i64 0) (HS.out.at3) 3 rfl
          have hz2532 := blk_fz (HS.out.at3) 3
          have hc2533 := blk_cellv (v := .int .i64 0) (HS.out.at3) 4 rfl
          have hz2534 := blk_fz (HS.out.at3) 4
          have hc2535 := blk_cellv (v := .int .i64 0) (HS.out.at3) 5 rfl
          have hz2536 := blk_fz (HS.out.at3) 5
          have hc2537 := blk_cellv (v := .int .i64 0) (HS.out.at3) 6 rfl
          have hz2538 := blk_fz (HS.out.at3) 6
          refine store_step (w1 := (World.setCell (World.setCell (World.setCell (World.setCell (World.setCell (World.setCell (World.setCell w2499 ⟨g2421, 0, none⟩ (.int .i64 t2477.1)) ⟨g2421, 1, none⟩ (.int .i64 t2477.2.1)) ⟨g2421, 2, none⟩ (.int .i64 t2477.2.2.1)) ⟨g2421, 3, none⟩ (.int .i64 t2477.2.2.2.1)) ⟨g2421, 4, none⟩ (.int .i64 t2477.2.2.2.2.1)) ⟨g2421, 5, none⟩ (.int .i64 t2477.2.2.2.2.2.1)) ⟨g2421, 6, none⟩ (.int .i64 t2477.2.2.2.2.2.2))) (by rfl) rfl ?hr ?_
          case hr => first | (go_simp; done) | (go_simp; rfl)
          clear hc2525 hz2526 hc2527 hz2528 hc2529 hz2530 hc2531 hz2532 hc2533 hz2534 hc2535 hz2536 hc2537 hz2538
          intro w2524 hst
          replace HS : Aside0 (Sep FF w [b14 g2162 g2164 a2172 a2173 a2174 a2175, b13 g2164 A2167 l2166.length n2169 t2474.2, r4 A2167 l2166.length n2169 l2166, b1 g2421 t2477.1 t2477.2.1 t2477.2.2.1 t2477.2.2.2.1 t2477.2.2.2.2.1 t2477.2.2.2.2.2.1 t2477.2.2.2.2.2.2, b1 g2480 t2477.1 t2477.2.1 t2477.2.2.1 t2477.2.2.2.1 t2477.2.2.2.2.1 t2477.2.2.2.2.2.1 t2477.2.2.2.2.2.2] w2524) := ⟨by rw [hst]; exact HS.out.setAll (l1 := [b14 g2162 g2164 a2172 a2173 a2174 a2175, b13 g2164 A2167 l2166.length n2169 t2474.2, r4 A2167 l2166.length n2169 l2166]) (l2 := [b1 g2480 t2477.1 t2477.2.1 t2477.2.2.1 t2477.2.2.2.1 t2477.2.2.2.2.1 t2477.2.2.2.2.2.1 t2477.2.2.2.2.2.2]) [.int .i64 t2477.1, .int .i64 t2477.2.1, .int .i64 t2477.2.2.1, .int .i64 t2477.2.2.2.1, .int .i64 t2477.2.2.2.2.1, .int .i64 t2477.2.2.2.2.2.1, .int .i64 t2477.2.2.2.2.2.2] rfl⟩
          clear hst
          refine hK.out _ _ (⟨blk_cellv (HS.out.at4) 0 rfl, blk_cellv (HS.out.at4) 1 rfl, blk_cellv (HS.out.at4) 2 rfl, blk_cellv (HS.out.at4) 3 rfl, blk_cellv (HS.out.at4) 4 rfl, blk_cellv (HS.out.at4) 5 rfl, blk_cellv (HS.out.at4) 6 rfl⟩) (fun hHeld => ?_)
          clear hK K
          refine pure_ (i := 16) (N := some 7) (v := ?_) (a' := ?_) #[true, true, true, true, true, true, true, true, true, true, true, true, true, true, true, true, true] rfl rfl (by kernel_rfl) (fun _ _ _ h => h) (Or.inl ⟨by rfl, ?_⟩) ?_ ?_
          rotate_left
          · intro w'
            go_simp
            with_reducible rfl
          rotate_left
          · simp only [Act.put, List.setIfInBounds_toArray, List.set_cons_zero, List.set_cons_succ, i64_w, i32_w]
            rfl
          refine done_ (by kernel_rfl) ?_
          replace HS : Aside0 (Sep FF w [b14 g2162 g2164 a2172 a2173 a2174 a2175, b13 g2164 A2167 l2166.length n2169 t2474.2, r4 A2167 l2166.length n2169 l2166, b1 g2421 t2477.1 t2477.2.1 t2477.2.2.1 t2477.2.2.2.1 t2477.2.2.2.2.1 t2477.2.2.2.2.2.1 t2477.2.2.2.2.2.2] w2524) := ⟨HS.out.sub (.cons_cons _ (.cons_cons _ (.cons_cons _ (.cons_cons _ (.cons _ .slnil)))))⟩
          go_wp2_with fail
          have hc2539 : w2524.cell? ⟨g2421, 0, none⟩ = some (.int .i64 t2477.1) := blk_cellv (HS.out.at3) 0 rfl
          have hc2540 : w2524.cell? ⟨g2421, 1, none⟩ = some (.int .i64 t2477.2.1) := blk_cellv (HS.out.at3) 1 rfl
          have hc2541 : w2524.cell? ⟨g2421, 2, none⟩ = some (.int .i64 t2477.2.2.1) := blk_cellv (HS.out.at3) 2 rfl
          have hc2542 : w2524.cell? ⟨g2421, 3, none⟩ = some (.int .i64 t2477.2.2.2.1) := blk_cellv (HS.out.at3) 3 rfl
          have hc2543 : w2524.cell? ⟨g2421, 4, none⟩ = some (.int .i64 t2477.2.2.2.2.1) := blk_cellv (HS.out.at3) 4 rfl
          have hc2544 : w2524.cell? ⟨g2421, 5, none⟩ = some (.int .i64 t2477.2.2.2.2.2.1) := blk_cellv (HS.out.at3) 5 rfl
          have hc2545 : w2524.cell? ⟨g2421, 6, none⟩ = some (.int .i64 t2477.2.2.2.2.2.2) := blk_cellv (HS.out.at3) 6 rfl
          refine bodyPost_ret (v := .tuple #[.agg #[.int .i64 t2477.1, .int .i64 t2477.2.1, .int .i64 t2477.2.2.1, .int .i64 t2477.2.2.2.1, .int .i64 t2477.2.2.2.2.1, .int .i64 t2477.2.2.2.2.2.1, .int .i64 t2477.2.2.2.2.2.2], .bool (t2477.2.2.2.2.2.1 == a2177)]) (by simp [results, Tryd.results79, go_sem, hc2539, hc2540, hc2541, hc2542, hc2543, hc2544, hc2545]) rfl ?_
          rw [← some_eq H]
          exact ⟨(by first | rfl | (simp [IntKind.wrap_u32]; done)), ((((HS.out).front 2 (by simp)).front 2 (by simp)).front 2 (by simp)).keep (l := [b14 g2162 g2164 a2172 a2173 a2174 a2175, b13 g2164 A2167 l2166.length n2169 t2474.2, r4 A2167 l2166.length n2169 l2166]) (rest := [b1 g2421 t2477.1 t2477.2.1 t2477.2.2.1 t2477.2.2.2.1 t2477.2.2.2.2.1 t2477.2.2.2.2.2.1 t2477.2.2.2.2.2.2])⟩
        · have H := if_no c2523 H
          have c2523b0 : (t2477.1 == 2) = false := beq_eq_false_iff_ne.mpr c2523
          have c2523b1 : (t2477.1 != 2) = true := bne_iff_ne.mpr c2523
          clear c2523
          try simp only [c2523b0, Bool.not_true, Bool.not_false]
          refine pure_ (i := 10) (N := some 37) (v := undef) (a' := ?_) #[true, true, true, true, true, true, true, true, true, true, true, false, false, false, false, false, false] rfl rfl (by kernel_rfl) (fun _ _ _ h => h) (Or.inr ⟨by rfl, rfl⟩) ?_ ?_
          rotate_left
          · simp only [Act.put, List.setIfInBounds_toArray, List.set_cons_zero, List.set_cons_succ, i64_w, i32_w]
            rfl
          try simp only [c2523b0, Bool.not_true, Bool.not_false]
          refine pure_ (i := 11) (N := some 38) (v := undef) (a' := ?_) #[true, true, true, true, true, true, true, true, true, true, true, true, false, false, false, false, false] rfl rfl (by kernel_rfl) (fun _ _ _ h => h) (Or.inr ⟨by rfl, rfl⟩) ?_ ?_
          rotate_left
          · simp only [Act.put, List.setIfInBounds_toArray, List.set_cons_zero, List.set_cons_succ, i64_w, i32_w]
            rfl
          try simp only [c2523b0, Bool.not_true, Bool.not_false]
          refine pure_ (i := 12) (N := some 39) (v := undef) (a' := ?_) #[true, true, true, true, true, true, true, true, true, true, true, true, true, false, false, false, false] rfl rfl (by kernel_rfl) (fun _ _ _ h => h) (Or.inr ⟨by rfl, rfl⟩) ?_ ?_
          rotate_left
          · simp only [Act.put, List.setIfInBounds_toArray, List.set_cons_zero, List.set_cons_succ, i64_w, i32_w]
            rfl
          try simp only [c2523b0, Bool.not_true, Bool.not_false]
          refine pure_ (i := 13) (N := some 40) (v := undef) (a' := ?_) #[true, true, true, true, true, true, true, true, true, true, true, true, true, true, false, false, false] rfl rfl (by kernel_rfl) (fun _ _ _ h => h) (Or.inr ⟨by rfl, rfl⟩) ?_ ?_
          rotate_left
          · simp only [Act.put, List.setIfInBounds_toArray, List.set_cons_zero, List.set_cons_succ, i64_w, i32_w]
            rfl
          refine pure_ (i := 14) (N := some 41) (v := ?_) (a' := ?_) #[true, true, true, true, true, true, true, true, true, true, true, true, true, true, true, false, false] rfl rfl (by kernel_rfl) (fun _ _ _ h => h) (Or.inl ⟨by rfl, ?_⟩) ?_ ?_
          rotate_left
          · intro w'
            go_simp
            with_reducible rfl
          rotate_left
          · simp only [Act.put, List.setIfInBounds_toArray, List.set_cons_zero, List.set_cons_succ, i64_w, i32_w]
            rfl
          refine one_ (i := 15) (N := none) #[true, true, true, true, true, true, true, true, true, true, true, true, true, true, true, true, false] rfl rfl (by kernel_rfl) (by decide) (fun K hK => ?_)
          have hc2547 := blk_cellv (v := .int .i64 0) (HS.out.at3) 0 rfl
          have hz2548 := blk_fz (HS.out.at3) 0
          have hc2549 := blk_cellv (v := .int .i64 0) (HS.out.at3) 1 rfl
          have hz2550 := blk_fz (HS.out.at3) 1
          have hc2551 := blk_cellv (v := .int .i64 0) (HS.out.at3) 2 rfl
          have hz2552 := blk_fz (HS.out.at3) 2
          have hc2553 := blk_cellv (v := .int .i64 0) (HS.out.at3) 3 rfl
          have hz2554 := blk_fz (HS.out.at3) 3
          have hc2555 := blk_cellv (v := .int .i64 0) (HS.out.at3) 4 rfl
          have hz2556 := blk_fz (HS.out.at3) 4
          have hc2557 := blk_cellv (v := .int .i64 0) (HS.out.at3) 5 rfl
          have hz2558 := blk_fz (HS.out.at3) 5
          have hc2559 := blk_cellv (v := .int .i64 0) (HS.out.at3) 6 rfl
          have hz2560 := blk_fz (HS.out.at3) 6
          refine store_step (w1 := (World.setCell (World.setCell (World.setCell (World.setCell (World.setCell (World.setCell (World.setCell w2499 ⟨g2421, 0, none⟩ (.int .i64 t2477.1)) ⟨g2421, 1, none⟩ (.int .i64 t2477.2.1)) ⟨g2421, 2, none⟩ (.int .i64 t2477.2.2.1)) ⟨g2421, 3, none⟩ (.int .i64 t2477.2.2.2.1)) ⟨g2421, 4, none⟩ (.int .i64 t2477.2.2.2.2.1)) ⟨g2421, 5, none⟩ (.int .i64 t2477.2.2.2.2.2.1)) ⟨g2421, 6, none⟩ (.int .i64 t2477.2.2.2.2.2.2))) (by rfl) rfl ?hr ?_
          case hr => first | (go_simp; done) | (go_simp; rfl)
          clear hc2547 hz2548 hc2549 hz2550 hc2551 hz2552 hc2553 hz2554 hc2555 hz2556 hc2557 hz2558 hc2559 hz2560
          intro w2546 hst
          replace HS : Aside0 (Sep FF w [b14 g2162 g2164 a2172 a2173 a2174 a2175, b13 g2164 A2167 l2166.length n2169 t2474.2, r4 A2167 l2166.length n2169 l2166, b1 g2421 t2477.1 t2477.2.1 t2477.2.2.1 t2477.2.2.2.1 t2477.2.2.2.2.1 t2477.2.2.2.2.2.1 t2477.2.2.2.2.2.2, b1 g2480 t2477.1 t2477.2.1 t2477.2.2.1 t2477.2.2.2.1 t2477.2.2.2.2.1 t2477.2.2.2.2.2.1 t2477.2.2.2.2.2.2] w2546) := ⟨by rw [hst]; exact HS.out.setAll (l1 := [b14 g2162 g2164 a2172 a2173 a2174 a2175, b13 g2164 A2167 l2166.length n2169 t2474.2, r4 A2167 l2166.length n2169 l2166]) (l2 := [b1 g2480 t2477.1 t2477.2.1 t2477.2.2.1 t2477.2.2.2.1 t2477.2.2.2.2.1 t2477.2.2.2.2.2.1 t2477.2.2.2.2.2.2]) [.int .i64 t2477.1, .int .i64 t2477.2.1, .int .i64 t2477.2.2.1, .int .i64 t2477.2.2.2.1, .int .i64 t2477.2.2.2.2.1, .int .i64 t2477.2.2.2.2.2.1, .int .i64 t2477.2.2.2.2.2.2] rfl⟩
          clear hst
          refine hK.out _ _ (⟨blk_cellv (HS.out.at4) 0 rfl, blk_cellv (HS.out.at4) 1 rfl, blk_cellv (HS.out.at4) 2 rfl, blk_cellv (HS.out.at4) 3 rfl, blk_cellv (HS.out.at4) 4 rfl, blk_cellv (HS.out.at4) 5 rfl, blk_cellv (HS.out.at4) 6 rfl⟩) (fun hHeld => ?_)
          clear hK K
          refine pure_ (i := 16) (N := some 7) (v := ?_) (a' := ?_) #[true, true, true, true, true, true, true, true, true, true, true, true, true, true, true, true, true] rfl rfl (by kernel_rfl) (fun _ _ _ h => h) (Or.inl ⟨by rfl, ?_⟩) ?_ ?_
          rotate_left
          · intro w'
            go_simp
            with_reducible rfl
          rotate_left
          · simp only [Act.put, List.setIfInBounds_toArray, List.set_cons_zero, List.set_cons_succ, i64_w, i32_w]
            rfl
          refine done_ (by kernel_rfl) ?_
          replace HS : Aside0 (Sep FF w [b14 g2162 g2164 a2172 a2173 a2174 a2175, b13 g2164 A2167 l2166.length n2169 t2474.2, r4 A2167 l2166.length n2169 l2166, b1 g2421 t2477.1 t2477.2.1 t2477.2.2.1 t2477.2.2.2.1 t2477.2.2.2.2.1 t2477.2.2.2.2.2.1 t2477.2.2.2.2.2.2] w2546) := ⟨HS.out.sub (.cons_cons _ (.cons_cons _ (.cons_cons _ (.cons_cons _ (.cons _ .slnil)))))⟩
          go_wp2_with fail
          have hc2561 : w2546.cell? ⟨g2421, 0, none⟩ = some (.int .i64 t2477.1) := blk_cellv (HS.out.at3) 0 rfl
          have hc2562 : w2546.cell? ⟨g2421, 1, none⟩ = some (.int .i64 t2477.2.1) := blk_cellv (HS.out.at3) 1 rfl
          have hc2563 : w2546.cell? ⟨g2421, 2, none⟩ = some (.int .i64 t2477.2.2.1) := blk_cellv (HS.out.at3) 2 rfl
          have hc2564 : w2546.cell? ⟨g2421, 3, none⟩ = some (.int .i64 t2477.2.2.2.1) := blk_cellv (HS.out.at3) 3 rfl
          have hc2565 : w2546.cell? ⟨g2421, 4, none⟩ = some (.int .i64 t2477.2.2.2.2.1) := blk_cellv (HS.out.at3) 4 rfl
          have hc2566 : w2546.cell? ⟨g2421, 5, none⟩ = some (.int .i64 t2477.2.2.2.2.2.1) := blk_cellv (HS.out.at3) 5 rfl
          have hc2567 : w2546.cell? ⟨g2421, 6, none⟩ = some (.int .i64 t2477.2.2.2.2.2.2) := blk_cellv (HS.out.at3) 6 rfl
          refine bodyPost_ret (v := .tuple #[.agg #[.int .i64 t2477.1, .int .i64 t2477.2.1, .int .i64 t2477.2.2.1, .int .i64 t2477.2.2.2.1, .int .i64 t2477.2.2.2.2.1, .int .i64 t2477.2.2.2.2.2.1, .int .i64 t2477.2.2.2.2.2.2], .bool false]) (by simp [results, Tryd.results79, go_sem, hc2561, hc2562, hc2563, hc2564, hc2565, hc2566, hc2567]) rfl ?_
          rw [← some_eq H]
          exact ⟨(by first | rfl | (simp [IntKind.wrap_u32]; done)), ((((HS.out).front 2 (by simp)).front 2 (by simp)).front 2 (by simp)).keep (l := [b14 g2162 g2164 a2172 a2173 a2174 a2175, b13 g2164 A2167 l2166.length n2169 t2474.2, r4 A2167 l2166.length n2169 l2166]) (rest := [b1 g2421 t2477.1 t2477.2.1 t2477.2.2.1 t2477.2.2.2.1 t2477.2.2.2.2.1 t2477.2.2.2.2.2.1 t2477.2.2.2.2.2.2])⟩

set_option maxHeartbeats 30000000 in
set_option maxRecDepth 100000 in
theorem ring_mark.calls (k : Nat) (l2602 : List Int) (a2607 : Int) (a2608 : Int) (a2609 : Int) (a2610 : Int) (a2611 : Int) (a2612 : Int) (a2613 : Int) (a2614 : Int) (a2615 : Int) (a2616 : Int) (a2617 : Int) (a2618 : Int) (a2619 : Int) (a2620 : Int) (g2598 : Nat) (g2600 : Nat) (A2603 : Option Addr) (m2604 : Nat) (n2605 : Nat) (r : Int × List Int) (w : World)  (HGl0 : Aside0 (Gl 0 #[.int .i64 0, .int .i64 0, .int .i64 0, .int .i64 0, .int .i64 0] (fps [b14 g2598 g2600 a2608 a2609 a2610 a2611, b13 g2600 A2603 m2604 n2605 a2607, r4 A2603 m2604 n2605 l2602]) w)) (HS : Aside0 (Sep (fps [b14 g2598 g2600 a2608 a2609 a2610 a2611, b13 g2600 A2603 m2604 n2605 a2607, r4 A2603 m2604 n2605 l2602]) w [b14 g2598 g2600 a2608 a2609 a2610 a2611, b13 g2600 A2603 m2604 n2605 a2607, r4 A2603 m2604 n2605 l2602] w)) (H : Aside0 (ring_mark.f k l2602 a2607 a2608 a2609 a2610 a2611 a2612 a2613 a2614 a2615 a2616 a2617 a2618 a2619 a2620 = some r)) :
    Calls Tryd.prog 80 #[.pointer (some ⟨g2598, 0, none⟩), .int .i64 a2612, .agg #[.int .i64 a2613, .int .i64 a2614, .int .i64 a2615, .int .i64 a2616, .int .i64 a2617, .int .i64 a2618, .int .i64 a2619], .int .i64 a2620] w fun e w' => e = .returned (.tuple #[]) ∧ Sep (fps [b14 g2598 g2600 a2608 a2609 a2610 a2611, b13 g2600 A2603 m2604 n2605 a2607, r4 A2603 m2604 n2605 l2602]) w [b14 g2598 g2600 a2608 a2609 a2610 a2611, b13 g2600 A2603 m2604 n2605 r.1, r4 A2603 m2604 n2605 r.2] w' := by
  generalize (fps [b14 g2598 g2600 a2608 a2609 a2610 a2611, b13 g2600 A2603 m2604 n2605 a2607, r4 A2603 m2604 n2605 l2602]) = FF at HS HGl0 ⊢
  obtain rfl := (row_len (HS.out.at2)).symm
  unfold ring_mark.f at H
  go_enter Tryd.func80, Tryd.ntmps80
  go_wp2_with (first | ((with_reducible refine gate_dst (N := 6) rfl ?_); refine box_on ?hg (N := 6) ?hd (cs := #[.int .i64 a2613, .int .i64 a2614, .int .i64 a2615, .int .i64 a2616, .int .i64 a2617, .int .i64 a2618, .int .i64 a2619]) (t := 32) ?hr ?_; (case hd => rfl); (case hg => rfl); (case hr => first | (go_simp; done) | (go_simp; rfl)); intro g2641 hg w2642 hbox hb; replace HS : Aside0 (Sep FF w [b14 g2598 g2600 a2608 a2609 a2610 a2611, b13 g2600 A2603 l2602.length n2605 a2607, r4 A2603 l2602.length n2605 l2602, b1 g2641 a2613 a2614 a2615 a2616 a2617 a2618 a2619] w2642) := ⟨HS.out.box hg hbox hb⟩; clear hg hbox hb; have hc2644 : w2642.cell? ⟨g2641, 5, none⟩ = some (.int .i64 a2618) := blk_cellv (HS.out.at3) 5 rfl; have hz2645 : w2642.frozen? ⟨g2641, 5, none⟩ = false := blk_fz (HS.out.at3) 5) | ((with_reducible refine gate_store (t := 3) (p := 11) rfl ?_); refine store_event (w1 := (World.setCell w2642 ⟨g2641, 5, none⟩ (.int .i64 a2620))) rfl (t := 3) (p := 11) rfl rfl ?hr ?_; (case hr => first | (go_simp; done) | (go_simp; rfl)); intro w2646 hst; clear hc2644 hz2645; have hq0 : Sep FF w [b14 g2598 g2600 a2608 a2609 a2610 a2611, b13 g2600 A2603 l2602.length n2605 a2607, r4 A2603 l2602.length n2605 l2602, b1 g2641 a2613 a2614 a2615 a2616 a2617 a2620 a2619] (World.setCell w2642 ⟨g2641, 5, none⟩ (.int .i64 a2620)) := (HS.out).set1 (l1 := [b14 g2598 g2600 a2608 a2609 a2610 a2611, b13 g2600 A2603 l2602.length n2605 a2607, r4 A2603 l2602.length n2605 l2602]) (l2 := []) 5 (.int .i64 a2620); replace HS : Aside0 (Sep FF w [b14 g2598 g2600 a2608 a2609 a2610 a2611, b13 g2600 A2603 l2602.length n2605 a2607, r4 A2603 l2602.length n2605 l2602, b1 g2641 a2613 a2614 a2615 a2616 a2617 a2620 a2619] w2646) := ⟨by rw [hst]; exact hq0⟩; clear hq0; clear hst; have hc2647 : w2646.cell? ⟨g2641, 0, none⟩ = some (.int .i64 a2613) := blk_cellv (HS.out.at3) 0 rfl; have hc2648 : w2646.cell? ⟨g2641, 1, none⟩ = some (.int .i64 a2614) := blk_cellv (HS.out.at3) 1 rfl; have hc2649 : w2646.cell? ⟨g2641, 2, none⟩ = some (.int .i64 a2615) := blk_cellv (HS.out.at3) 2 rfl; have hc2650 : w2646.cell? ⟨g2641, 3, none⟩ = some (.int .i64 a2616) := blk_cellv (HS.out.at3) 3 rfl; have hc2651 : w2646.cell? ⟨g2641, 4, none⟩ = some (.int .i64 a2617) := blk_cellv (HS.out.at3) 4 rfl; have hc2652 : w2646.cell? ⟨g2641, 5, none⟩ = some (.int .i64 a2620) := blk_cellv (HS.out.at3) 5 rfl; have hc2653 : w2646.cell? ⟨g2641, 6, none⟩ = some (.int .i64 a2619) := blk_cellv (HS.out.at3) 6 rfl))
  clear hc2647 hc2648 hc2649 hc2650 hc2651 hc2652 hc2653
  obtain ⟨t2654, HA2655, H⟩ := bind_some H
  refine (tag_Pack.calls _ a2613 a2614 a2615 a2616 a2617 a2620 a2619 t2654 _ ⟨Gl.pass (l := []) (rest := [b14 g2598 g2600 a2608 a2609 a2610 a2611, b13 g2600 A2603 l2602.length n2605 a2607, r4 A2603 l2602.length n2605 l2602, b1 g2641 a2613 a2614 a2615 a2616 a2617 a2620 a2619]) HGl0.out HS.out⟩ ⟨HS.out.begin (l := []) (rest := [b14 g2598 g2600 a2608 a2609 a2610 a2611, b13 g2600 A2603 l2602.length n2605 a2607, r4 A2603 l2602.length n2605 l2602, b1 g2641 a2613 a2614 a2615 a2616 a2617 a2620 a2619])⟩ HA2655).mono ?_
  rintro e_ w2656 ⟨rfl, hS⟩
  replace HS : Aside0 (Sep FF w [b14 g2598 g2600 a2608 a2609 a2610 a2611, b13 g2600 A2603 l2602.length n2605 a2607, r4 A2603 l2602.length n2605 l2602, b1 g2641 a2613 a2614 a2615 a2616 a2617 a2620 a2619] w2656) := ⟨HS.out.call (l := []) (rest := [b14 g2598 g2600 a2608 a2609 a2610 a2611, b13 g2600 A2603 l2602.length n2605 a2607, r4 A2603 l2602.length n2605 l2602, b1 g2641 a2613 a2614 a2615 a2616 a2617 a2620 a2619]) hS⟩
  clear hS
  by_cases c2657 : t2654.2 = 0
  · have H := if_yes c2657 H
    have c2657b0 : (t2654.2 == 0) = true := beq_iff_eq.mpr c2657
    have c2657b1 : (t2654.2 != 0) = false := bne_eq_false_iff_eq.mpr c2657
    clear c2657
    replace HS : Aside0 (Sep FF w [b14 g2598 g2600 a2608 a2609 a2610 a2611, b13 g2600 A2603 l2602.length n2605 a2607, r4 A2603 l2602.length n2605 l2602] w2656) := ⟨HS.out.sub (.cons_cons _ (.cons_cons _ (.cons_cons _ (.cons _ .slnil))))⟩
    go_wp2_with fail
    obtain ⟨t2658, HA2659, H⟩ := bind_some H
    refine (ground_Ground_SetWord.calls l2602 a2607 a2608 a2609 a2610 a2611 a2612 0 t2654.1 g2598 g2600 A2603 l2602.length n2605 t2658 _ ⟨Gl.pass (l := [b14 g2598 g2600 a2608 a2609 a2610 a2611, b13 g2600 A2603 l2602.length n2605 a2607, r4 A2603 l2602.length n2605 l2602]) (rest := []) HGl0.out HS.out⟩ ⟨HS.out.begin (l := [b14 g2598 g2600 a2608 a2609 a2610 a2611, b13 g2600 A2603 l2602.length n2605 a2607, r4 A2603 l2602.length n2605 l2602]) (rest := [])⟩ HA2659).mono ?_
    rintro e_ w2660 ⟨rfl, hS⟩
    replace HS : Aside0 (Sep FF w [b14 g2598 g2600 a2608 a2609 a2610 a2611, b13 g2600 A2603 l2602.length n2605 t2658.2.1, r4 A2603 l2602.length n2605 t2658.2.2] w2660) := ⟨HS.out.call (l := [b14 g2598 g2600 a2608 a2609 a2610 a2611, b13 g2600 A2603 l2602.length n2605 a2607, r4 A2603 l2602.length n2605 l2602]) (rest := []) hS⟩
    clear hS
    go_wp2_with fail
    first | go_end0 | refine bodyPost_ret (results_none rfl _ _ _) rfl ?_
    rw [← some_eq H]
    exact ⟨rfl, ((((HS.out).front 2 (by simp)).front 2 (by simp)).front 2 (by simp)).keep (l := [b14 g2598 g2600 a2608 a2609 a2610 a2611, b13 g2600 A2603 l2602.length n2605 t2658.2.1, r4 A2603 l2602.length n2605 t2658.2.2]) (rest := [])⟩
  · have H := if_no c2657 H
    have c2657b0 : (t2654.2 == 0) = false := beq_eq_false_iff_ne.mpr c2657
    have c2657b1 : (t2654.2 != 0) = true := bne_iff_ne.mpr c2657
    clear c2657
    replace HS : Aside0 (Sep FF w [b14 g2598 g2600 a2608 a2609 a2610 a2611, b13 g2600 A2603 l2602.length n2605 a2607, r4 A2603 l2602.length n2605 l2602] w2656) := ⟨HS.out.sub (.cons_cons _ (.cons_cons _ (.cons_cons _ (.cons _ .slnil))))⟩
    go_wp2_with fail
    first | go_end0 | refine bodyPost_ret (results_none rfl _ _ _) rfl ?_
    rw [← some_eq H]
    exact ⟨rfl, ((((HS.out).front 2 (by simp)).front 2 (by simp)).front 2 (by simp)).keep (l := [b14 g2598 g2600 a2608 a2609 a2610 a2611, b13 g2600 A2603 l2602.length n2605 a2607, r4 A2603 l2602.length n2605 l2602]) (rest := [])⟩

set_option maxHeartbeats 30000000 in
set_option maxRecDepth 100000 in
theorem ground_Ground_Reg.calls (l2669 : List Int) (a2674 : Int) (a2675 : Int) (a2676 : Int) (a2677 : Int) (a2678 : Int) (a2679 : Int) (g2665 : Nat) (g2667 : Nat) (A2670 : Option Addr) (m2671 : Nat) (n2672 : Nat) (r : Int × Int) (w : World)  (HGl0 : Aside0 (Gl 0 #[.int .i64 0, .int .i64 0, .int .i64 0, .int .i64 0, .int .i64 0] (fps [b14 g2665 g2667 a2675 a2676 a2677 a2678, b13 g2667 A2670 m2671 n2672 a2674, r4 A2670 m2671 n2672 l2669]) w)) (HS : Aside0 (Sep (fps [b14 g2665 g2667 a2675 a2676 a2677 a2678, b13 g2667 A2670 m2671 n2672 a2674, r4 A2670 m2671 n2672 l2669]) w [b14 g2665 g2667 a2675 a2676 a2677 a2678, b13 g2667 A2670 m2671 n2672 a2674, r4 A2670 m2671 n2672 l2669] w)) (H : Aside0 (ground_Ground_Reg.f l2669 a2674 a2675 a2676 a2677 a2678 a2679 = some r)) :
    Calls Tryd.prog 81 #[.pointer (some ⟨g2665, 0, none⟩), .int .i64 a2679] w fun e w' => e = .returned (.int .i64 r.1) ∧ Sep (fps [b14 g2665 g2667 a2675 a2676 a2677 a2678, b13 g2667 A2670 m2671 n2672 a2674, r4 A2670 m2671 n2672 l2669]) w [b14 g2665 g2667 a2675 a2676 a2677 a2678, b13 g2667 A2670 m2671 n2672 r.2, r4 A2670 m2671 n2672 l2669] w' := by
  generalize (fps [b14 g2665 g2667 a2675 a2676 a2677 a2678, b13 g2667 A2670 m2671 n2672 a2674, r4 A2670 m2671 n2672 l2669]) = FF at HS HGl0 ⊢
  obtain rfl := (row_len (HS.out.at2)).symm
  unfold ground_Ground_Reg.f at H
  go_enter Tryd.func81, Tryd.ntmps81
  go_wp2_with fail
  obtain ⟨t2689, HA2690, H⟩ := bind_some H
  refine (ground_Ground_all.calls l2669 a2674 a2675 a2676 a2677 a2678 g2665 g2667 A2670 l2669.length n2672 t2689 _ ⟨Gl.pass (l := [b14 g2665 g2667 a2675 a2676 a2677 a2678, b13 g2667 A2670 l2669.length n2672 a2674, r4 A2670 l2669.length n2672 l2669]) (rest := []) HGl0.out HS.out⟩ ⟨HS.out.begin (l := [b14 g2665 g2667 a2675 a2676 a2677 a2678, b13 g2667 A2670 l2669.length n2672 a2674, r4 A2670 l2669.length n2672 l2669]) (rest := [])⟩ HA2690).mono ?_
  rintro e_ w2691 ⟨rfl, hS⟩
  replace HS : Aside0 (Sep FF w [b14 g2665 g2667 a2675 a2676 a2677 a2678, b13 g2667 A2670 l2669.length n2672 a2674, r4 A2670 l2669.length n2672 l2669] w2691) := ⟨HS.out.call (l := [b14 g2665 g2667 a2675 a2676 a2677 a2678, b13 g2667 A2670 l2669.length n2672 a2674, r4 A2670 l2669.length n2672 l2669]) (rest := []) hS⟩
  clear hS
  go_wp2_with fail
  obtain ⟨t2692, HA2693, H⟩ := bind_some H
  refine (ground_reg.calls a2679 t2692 _ ⟨Gl.pass (l := []) (rest := [b14 g2665 g2667 a2675 a2676 a2677 a2678, b13 g2667 A2670 l2669.length n2672 a2674, r4 A2670 l2669.length n2672 l2669]) HGl0.out HS.out⟩ ⟨HS.out.begin (l := []) (rest := [b14 g2665 g2667 a2675 a2676 a2677 a2678, b13 g2667 A2670 l2669.length n2672 a2674, r4 A2670 l2669.length n2672 l2669])⟩ HA2693).mono ?_
  rintro e_ w2694 ⟨rfl, hS⟩
  replace HS : Aside0 (Sep FF w [b14 g2665 g2667 a2675 a2676 a2677 a2678, b13 g2667 A2670 l2669.length n2672 a2674, r4 A2670 l2669.length n2672 l2669] w2694) := ⟨HS.out.call (l := []) (rest := [b14 g2665 g2667 a2675 a2676 a2677 a2678, b13 g2667 A2670 l2669.length n2672 a2674, r4 A2670 l2669.length n2672 l2669]) hS⟩
  clear hS
  go_wp2_with fail
  replace HS : Aside0 (Sep FF w [r4 A2670 l2669.length n2672 l2669, b14 g2665 g2667 a2675 a2676 a2677 a2678, b13 g2667 A2670 l2669.length n2672 a2674] w2694) := ⟨HS.out.front 2 (by simp)⟩
  replace HS : Aside0 (Sep FF w [b13 g2667 A2670 l2669.length n2672 a2674, r4 A2670 l2669.length n2672 l2669, b14 g2665 g2667 a2675 a2676 a2677 a2678] w2694) := ⟨HS.out.front 2 (by simp)⟩
  obtain ⟨t2695, HA2696, H⟩ := bind_some H
  refine (store_Store_Get.calls l2669 a2674 t2692 g2667 A2670 l2669.length n2672 t2695 _ ⟨Gl.pass (l := [b13 g2667 A2670 l2669.length n2672 a2674, r4 A2670 l2669.length n2672 l2669]) (rest := [b14 g2665 g2667 a2675 a2676 a2677 a2678]) HGl0.out HS.out⟩ ⟨HS.out.begin (l := [b13 g2667 A2670 l2669.length n2672 a2674, r4 A2670 l2669.length n2672 l2669]) (rest := [b14 g2665 g2667 a2675 a2676 a2677 a2678])⟩ HA2696).mono ?_
  rintro e_ w2697 ⟨rfl, hS⟩
  replace HS : Aside0 (Sep FF w [b13 g2667 A2670 l2669.length n2672 t2695.2, r4 A2670 l2669.length n2672 l2669, b14 g2665 g2667 a2675 a2676 a2677 a2678] w2697) := ⟨HS.out.call (l := [b13 g2667 A2670 l2669.length n2672 a2674, r4 A2670 l2669.length n2672 l2669]) (rest := [b14 g2665 g2667 a2675 a2676 a2677 a2678]) hS⟩
  clear hS
  go_wp2_with fail
  go_ret
  rw [← some_eq H]
  exact ⟨(by first | rfl | (simp [IntKind.wrap_u32]; done)), ((((HS.out).front 1 (by simp)).front 1 (by simp)).front 2 (by simp)).keep (l := [b14 g2665 g2667 a2675 a2676 a2677 a2678, b13 g2667 A2670 l2669.length n2672 t2695.2, r4 A2670 l2669.length n2672 l2669]) (rest := [])⟩

set_option maxHeartbeats 30000000 in
set_option maxRecDepth 100000 in
theorem ground_Ground_set.calls (l2752 : List Int) (a2757 : Int) (a2758 : Int) (a2759 : Int) (a2760 : Int) (a2761 : Int) (a2762 : Int) (a2763 : Int) (g2748 : Nat) (g2750 : Nat) (A2753 : Option Addr) (m2754 : Nat) (n2755 : Nat) (r : Bool × Int × List Int) (w : World)  (HGl0 : Aside0 (Gl 0 #[.int .i64 0, .int .i64 0, .int .i64 0, .int .i64 0, .int .i64 0] (fps [b14 g2748 g2750 a2758 a2759 a2760 a2761, b13 g2750 A2753 m2754 n2755 a2757, r4 A2753 m2754 n2755 l2752]) w)) (HS : Aside0 (Sep (fps [b14 g2748 g2750 a2758 a2759 a2760 a2761, b13 g2750 A2753 m2754 n2755 a2757, r4 A2753 m2754 n2755 l2752]) w [b14 g2748 g2750 a2758 a2759 a2760 a2761, b13 g2750 A2753 m2754 n2755 a2757, r4 A2753 m2754 n2755 l2752] w)) (H : Aside0 (ground_Ground_set.f l2752 a2757 a2758 a2759 a2760 a2761 a2762 a2763 = some r)) :
    Calls Tryd.prog 132 #[.pointer (some ⟨g2748, 0, none⟩), .int .i64 a2762, .int .i64 a2763] w fun e w' => e = .returned (.bool r.1) ∧ Sep (fps [b14 g2748 g2750 a2758 a2759 a2760 a2761, b13 g2750 A2753 m2754 n2755 a2757, r4 A2753 m2754 n2755 l2752]) w [b14 g2748 g2750 a2758 a2759 a2760 a2761, b13 g2750 A2753 m2754 n2755 r.2.1, r4 A2753 m2754 n2755 r.2.2] w' := by
  generalize (fps [b14 g2748 g2750 a2758 a2759 a2760 a2761, b13 g2750 A2753 m2754 n2755 a2757, r4 A2753 m2754 n2755 l2752]) = FF at HS HGl0 ⊢
  obtain rfl := (row_len (HS.out.at2)).symm
  unfold ground_Ground_set.f at H
  go_enter Tryd.func132, Tryd.ntmps132
  by_cases c2772 : a2763 < 0
  · have H := if_yes c2772 H
    have c2772b0 : decide (a2763 < 0) = true := decide_eq_true c2772
    clear c2772
    go_wp2_with fail
    go_ret
    rw [← some_eq H]
    exact ⟨(by first | rfl | (simp [IntKind.wrap_u32]; done)), ((((HS.out).front 2 (by simp)).front 2 (by simp)).front 2 (by simp)).keep (l := [b14 g2748 g2750 a2758 a2759 a2760 a2761, b13 g2750 A2753 l2752.length n2755 a2757, r4 A2753 l2752.length n2755 l2752]) (rest := [])⟩
  · have H := if_no c2772 H
    have c2772b0 : decide (a2763 < 0) = false := decide_eq_false c2772
    clear c2772
    by_cases c2773 : a2763 > 4294967295
    · have H := if_yes c2773 H
      have c2773b0 : decide (4294967295 < a2763) = true := decide_eq_true c2773
      clear c2773
      go_wp2_with fail
      go_ret
      rw [← some_eq H]
      exact ⟨(by first | rfl | (simp [IntKind.wrap_u32]; done)), ((((HS.out).front 2 (by simp)).front 2 (by simp)).front 2 (by simp)).keep (l := [b14 g2748 g2750 a2758 a2759 a2760 a2761, b13 g2750 A2753 l2752.length n2755 a2757, r4 A2753 l2752.length n2755 l2752]) (rest := [])⟩
    · have H := if_no c2773 H
      have c2773b0 : decide (4294967295 < a2763) = false := decide_eq_false c2773
      clear c2773
      go_wp2_with fail
      obtain ⟨t2774, HA2775, H⟩ := bind_some H
      refine (ground_Ground_all.calls l2752 a2757 a2758 a2759 a2760 a2761 g2748 g2750 A2753 l2752.length n2755 t2774 _ ⟨Gl.pass (l := [b14 g2748 g2750 a2758 a2759 a2760 a2761, b13 g2750 A2753 l2752.length n2755 a2757, r4 A2753 l2752.length n2755 l2752]) (rest := []) HGl0.out HS.out⟩ ⟨HS.out.begin (l := [b14 g2748 g2750 a2758 a2759 a2760 a2761, b13 g2750 A2753 l2752.length n2755 a2757, r4 A2753 l2752.length n2755 l2752]) (rest := [])⟩ HA2775).mono ?_
      rintro e_ w2776 ⟨rfl, hS⟩
      replace HS : Aside0 (Sep FF w [b14 g2748 g2750 a2758 a2759 a2760 a2761, b13 g2750 A2753 l2752.length n2755 a2757, r4 A2753 l2752.length n2755 l2752] w2776) := ⟨HS.out.call (l := [b14 g2748 g2750 a2758 a2759 a2760 a2761, b13 g2750 A2753 l2752.length n2755 a2757, r4 A2753 l2752.length n2755 l2752]) (rest := []) hS⟩
      clear hS
      go_wp2_with fail
      replace HS : Aside0 (Sep FF w [r4 A2753 l2752.length n2755 l2752, b14 g2748 g2750 a2758 a2759 a2760 a2761, b13 g2750 A2753 l2752.length n2755 a2757] w2776) := ⟨HS.out.front 2 (by simp)⟩
      replace HS : Aside0 (Sep FF w [b13 g2750 A2753 l2752.length n2755 a2757, r4 A2753 l2752.length n2755 l2752, b14 g2748 g2750 a2758 a2759 a2760 a2761] w2776) := ⟨HS.out.front 2 (by simp)⟩
      obtain ⟨t2777, HA2778, H⟩ := bind_some H
      refine (store_Store_Put.calls l2752 a2757 a2762 ((a2763) % 4294967296) g2750 A2753 l2752.length n2755 t2777 _ ⟨Gl.pass (l := [b13 g2750 A2753 l2752.length n2755 a2757, r4 A2753 l2752.length n2755 l2752]) (rest := [b14 g2748 g2750 a2758 a2759 a2760 a2761]) HGl0.out HS.out⟩ ⟨HS.out.begin (l := [b13 g2750 A2753 l2752.length n2755 a2757, r4 A2753 l2752.length n2755 l2752]) (rest := [b14 g2748 g2750 a2758 a2759 a2760 a2761])⟩ HA2778).mono ?_
      rintro e_ w2779 ⟨rfl, hS⟩
      replace HS : Aside0 (Sep FF w [b13 g2750 A2753 l2752.length n2755 t2777.2.1, r4 A2753 l2752.length n2755 t2777.2.2, b14 g2748 g2750 a2758 a2759 a2760 a2761] w2779) := ⟨HS.out.call (l := [b13 g2750 A2753 l2752.length n2755 a2757, r4 A2753 l2752.length n2755 l2752]) (rest := [b14 g2748 g2750 a2758 a2759 a2760 a2761]) hS⟩
      clear hS
      go_wp2_with fail
      go_ret
      rw [← some_eq H]
      exact ⟨(by first | rfl | (simp [IntKind.wrap_u32]; done)), ((((HS.out).front 1 (by simp)).front 1 (by simp)).front 2 (by simp)).keep (l := [b14 g2748 g2750 a2758 a2759 a2760 a2761, b13 g2750 A2753 l2752.length n2755 t2777.2.1, r4 A2753 l2752.length n2755 t2777.2.2]) (rest := [])⟩

set_option maxHeartbeats 30000000 in
set_option maxRecDepth 100000 in
theorem ground_Ground_SetReg.calls (l2732 : List Int) (a2737 : Int) (a2738 : Int) (a2739 : Int) (a2740 : Int) (a2741 : Int) (a2742 : Int) (a2743 : Int) (g2728 : Nat) (g2730 : Nat) (A2733 : Option Addr) (m2734 : Nat) (n2735 : Nat) (r : Bool × Int × List Int) (w : World)  (HGl0 : Aside0 (Gl 0 #[.int .i64 0, .int .i64 0, .int .i64 0, .int .i64 0, .int .i64 0] (fps [b14 g2728 g2730 a2738 a2739 a2740 a2741, b13 g2730 A2733 m2734 n2735 a2737, r4 A2733 m2734 n2735 l2732]) w)) (HS : Aside0 (Sep (fps [b14 g2728 g2730 a2738 a2739 a2740 a2741, b13 g2730 A2733 m2734 n2735 a2737, r4 A2733 m2734 n2735 l2732]) w [b14 g2728 g2730 a2738 a2739 a2740 a2741, b13 g2730 A2733 m2734 n2735 a2737, r4 A2733 m2734 n2735 l2732] w)) (H : Aside0 (ground_Ground_SetReg.f l2732 a2737 a2738 a2739 a2740 a2741 a2742 a2743 = some r)) :
    Calls Tryd.prog 83 #[.pointer (some ⟨g2728, 0, none⟩), .int .i64 a2742, .int .i64 a2743] w fun e w' => e = .returned (.bool r.1) ∧ Sep (fps [b14 g2728 g2730 a2738 a2739 a2740 a2741, b13 g2730 A2733 m2734 n2735 a2737, r4 A2733 m2734 n2735 l2732]) w [b14 g2728 g2730 a2738 a2739 a2740 a2741, b13 g2730 A2733 m2734 n2735 r.2.1, r4 A2733 m2734 n2735 r.2.2] w' := by
  generalize (fps [b14 g2728 g2730 a2738 a2739 a2740 a2741, b13 g2730 A2733 m2734 n2735 a2737, r4 A2733 m2734 n2735 l2732]) = FF at HS HGl0 ⊢
  obtain rfl := (row_len (HS.out.at2)).symm
  unfold ground_Ground_SetReg.f at H
  go_enter Tryd.func83, Tryd.ntmps83
  go_wp2_with fail
  obtain ⟨t2783, HA2784, H⟩ := bind_some H
  refine (ground_reg.calls a2742 t2783 _ ⟨Gl.pass (l := []) (rest := [b14 g2728 g2730 a2738 a2739 a2740 a2741, b13 g2730 A2733 l2732.length n2735 a2737, r4 A2733 l2732.length n2735 l2732]) HGl0.out HS.out⟩ ⟨HS.out.begin (l := []) (rest := [b14 g2728 g2730 a2738 a2739 a2740 a2741, b13 g2730 A2733 l2732.length n2735 a2737, r4 A2733 l2732.length n2735 l2732])⟩ HA2784).mono ?_
  rintro e_ w2785 ⟨rfl, hS⟩
  replace HS : Aside0 (Sep FF w [b14 g2728 g2730 a2738 a2739 a2740 a2741, b13 g2730 A2733 l2732.length n2735 a2737, r4 A2733 l2732.length n2735 l2732] w2785) := ⟨HS.out.call (l := []) (rest := [b14 g2728 g2730 a2738 a2739 a2740 a2741, b13 g2730 A2733 l2732.length n2735 a2737, r4 A2733 l2732.length n2735 l2732]) hS⟩
  clear hS
  go_wp2_with fail
  obtain ⟨t2786, HA2787, H⟩ := bind_some H
  refine (ground_Ground_set.calls l2732 a2737 a2738 a2739 a2740 a2741 t2783 a2743 g2728 g2730 A2733 l2732.length n2735 t2786 _ ⟨Gl.pass (l := [b14 g2728 g2730 a2738 a2739 a2740 a2741, b13 g2730 A2733 l2732.length n2735 a2737, r4 A2733 l2732.length n2735 l2732]) (rest := []) HGl0.out HS.out⟩ ⟨HS.out.begin (l := [b14 g2728 g2730 a2738 a2739 a2740 a2741, b13 g2730 A2733 l2732.length n2735 a2737, r4 A2733 l2732.length n2735 l2732]) (rest := [])⟩ HA2787).mono ?_
  rintro e_ w2788 ⟨rfl, hS⟩
  replace HS : Aside0 (Sep FF w [b14 g2728 g2730 a2738 a2739 a2740 a2741, b13 g2730 A2733 l2732.length n2735 t2786.2.1, r4 A2733 l2732.length n2735 t2786.2.2] w2788) := ⟨HS.out.call (l := [b14 g2728 g2730 a2738 a2739 a2740 a2741, b13 g2730 A2733 l2732.length n2735 a2737, r4 A2733 l2732.length n2735 l2732]) (rest := []) hS⟩
  clear hS
  go_wp2_with fail
  go_ret
  rw [← some_eq H]
  exact ⟨(by first | rfl | (simp [IntKind.wrap_u32]; done)), ((((HS.out).front 2 (by simp)).front 2 (by simp)).front 2 (by simp)).keep (l := [b14 g2728 g2730 a2738 a2739 a2740 a2741, b13 g2730 A2733 l2732.length n2735 t2786.2.1, r4 A2733 l2732.length n2735 t2786.2.2]) (rest := [])⟩

set_option maxHeartbeats 30000000 in
set_option maxRecDepth 100000 in
theorem ring_link.calls (l2712 : List Int) (a2717 : Int) (a2718 : Int) (a2719 : Int) (a2720 : Int) (a2721 : Int) (a2722 : Int) (a2723 : Int) (a2724 : Int) (a2725 : Int) (g2708 : Nat) (g2710 : Nat) (A2713 : Option Addr) (m2714 : Nat) (n2715 : Nat) (r : Int × List Int) (w : World)  (HGl0 : Aside0 (Gl 0 #[.int .i64 0, .int .i64 0, .int .i64 0, .int .i64 0, .int .i64 0] (fps [b14 g2708 g2710 a2718 a2719 a2720 a2721, b13 g2710 A2713 m2714 n2715 a2717, r4 A2713 m2714 n2715 l2712]) w)) (HS : Aside0 (Sep (fps [b14 g2708 g2710 a2718 a2719 a2720 a2721, b13 g2710 A2713 m2714 n2715 a2717, r4 A2713 m2714 n2715 l2712]) w [b14 g2708 g2710 a2718 a2719 a2720 a2721, b13 g2710 A2713 m2714 n2715 a2717, r4 A2713 m2714 n2715 l2712] w)) (H : Aside0 (ring_link.f l2712 a2717 a2718 a2719 a2720 a2721 a2722 a2723 a2724 a2725 = some r)) :
    Calls Tryd.prog 82 #[.pointer (some ⟨g2708, 0, none⟩), .int .i64 a2722, .int .i64 a2723, .int .i64 a2724, .int .i64 a2725] w fun e w' => e = .returned (.tuple #[]) ∧ Sep (fps [b14 g2708 g2710 a2718 a2719 a2720 a2721, b13 g2710 A2713 m2714 n2715 a2717, r4 A2713 m2714 n2715 l2712]) w [b14 g2708 g2710 a2718 a2719 a2720 a2721, b13 g2710 A2713 m2714 n2715 r.1, r4 A2713 m2714 n2715 r.2] w' := by
  generalize (fps [b14 g2708 g2710 a2718 a2719 a2720 a2721, b13 g2710 A2713 m2714 n2715 a2717, r4 A2713 m2714 n2715 l2712]) = FF at HS HGl0 ⊢
  obtain rfl := (row_len (HS.out.at2)).symm
  unfold ring_link.f at H
  go_enter Tryd.func82, Tryd.ntmps82
  by_cases c2792 : a2722 = 0
  · have H := if_yes c2792 H
    have c2792b0 : (a2722 == 0) = true := beq_iff_eq.mpr c2792
    have c2792b1 : (a2722 != 0) = false := bne_eq_false_iff_eq.mpr c2792
    clear c2792
    go_wp2_with fail
    obtain ⟨t2793, HA2794, H⟩ := bind_some H
    refine (ground_Ground_SetReg.calls l2712 a2717 a2718 a2719 a2720 a2721 a2724 a2725 g2708 g2710 A2713 l2712.length n2715 t2793 _ ⟨Gl.pass (l := [b14 g2708 g2710 a2718 a2719 a2720 a2721, b13 g2710 A2713 l2712.length n2715 a2717, r4 A2713 l2712.length n2715 l2712]) (rest := []) HGl0.out HS.out⟩ ⟨HS.out.begin (l := [b14 g2708 g2710 a2718 a2719 a2720 a2721, b13 g2710 A2713 l2712.length n2715 a2717, r4 A2713 l2712.length n2715 l2712]) (rest := [])⟩ HA2794).mono ?_
    rintro e_ w2795 ⟨rfl, hS⟩
    replace HS : Aside0 (Sep FF w [b14 g2708 g2710 a2718 a2719 a2720 a2721, b13 g2710 A2713 l2712.length n2715 t2793.2.1, r4 A2713 l2712.length n2715 t2793.2.2] w2795) := ⟨HS.out.call (l := [b14 g2708 g2710 a2718 a2719 a2720 a2721, b13 g2710 A2713 l2712.length n2715 a2717, r4 A2713 l2712.length n2715 l2712]) (rest := []) hS⟩
    clear hS
    go_wp2_with fail
    first | go_end0 | refine bodyPost_ret (results_none rfl _ _ _) rfl ?_
    rw [← some_eq H]
    exact ⟨rfl, ((((HS.out).front 2 (by simp)).front 2 (by simp)).front 2 (by simp)).keep (l := [b14 g2708 g2710 a2718 a2719 a2720 a2721, b13 g2710 A2713 l2712.length n2715 t2793.2.1, r4 A2713 l2712.length n2715 t2793.2.2]) (rest := [])⟩
  · have H := if_no c2792 H
    have c2792b0 : (a2722 == 0) = false := beq_eq_false_iff_ne.mpr c2792
    have c2792b1 : (a2722 != 0) = true := bne_iff_ne.mpr c2792
    clear c2792
    go_wp2_with fail
    obtain ⟨t2796, HA2797, H⟩ := bind_some H
    refine (ground_Ground_SetWord.calls l2712 a2717 a2718 a2719 a2720 a2721 (wrap64 (a2722 - 1)) a2723 ((a2725) % 4294967296) g2708 g2710 A2713 l2712.length n2715 t2796 _ ⟨Gl.pass (l := [b14 g2708 g2710 a2718 a2719 a2720 a2721, b13 g2710 A2713 l2712.length n2715 a2717, r4 A2713 l2712.length n2715 l2712]) (rest := []) HGl0.out HS.out⟩ ⟨HS.out.begin (l := [b14 g2708 g2710 a2718 a2719 a2720 a2721, b13 g2710 A2713 l2712.length n2715 a2717, r4 A2713 l2712.length n2715 l2712]) (rest := [])⟩ HA2797).mono ?_
    rintro e_ w2798 ⟨rfl, hS⟩
    replace HS : Aside0 (Sep FF w [b14 g2708 g2710 a2718 a2719 a2720 a2721, b13 g2710 A2713 l2712.length n2715 t2796.2.1, r4 A2713 l2712.length n2715 t2796.2.2] w2798) := ⟨HS.out.call (l := [b14 g2708 g2710 a2718 a2719 a2720 a2721, b13 g2710 A2713 l2712.length n2715 a2717, r4 A2713 l2712.length n2715 l2712]) (rest := []) hS⟩
    clear hS
    go_wp2_with fail
    first | go_end0 | refine bodyPost_ret (results_none rfl _ _ _) rfl ?_
    rw [← some_eq H]
    exact ⟨rfl, ((((HS.out).front 2 (by simp)).front 2 (by simp)).front 2 (by simp)).keep (l := [b14 g2708 g2710 a2718 a2719 a2720 a2721, b13 g2710 A2713 l2712.length n2715 t2796.2.1, r4 A2713 l2712.length n2715 t2796.2.2]) (rest := [])⟩

set_option maxHeartbeats 30000000 in
set_option maxRecDepth 100000 in
theorem ring_Add.calls (k : Nat) (l2150 : List Int) (a2155 : Int) (a2156 : Int) (a2157 : Int) (a2158 : Int) (a2159 : Int) (a2160 : Int) (g2146 : Nat) (g2148 : Nat) (A2151 : Option Addr) (m2152 : Nat) (n2153 : Nat) (r : Bool × Int × List Int) (w : World)  (HGl0 : Aside0 (Gl 0 #[.int .i64 0, .int .i64 0, .int .i64 0, .int .i64 0, .int .i64 0] (fps [b14 g2146 g2148 a2156 a2157 a2158 a2159, b13 g2148 A2151 m2152 n2153 a2155, r4 A2151 m2152 n2153 l2150]) w)) (HS : Aside0 (Sep (fps [b14 g2146 g2148 a2156 a2157 a2158 a2159, b13 g2148 A2151 m2152 n2153 a2155, r4 A2151 m2152 n2153 l2150]) w [b14 g2146 g2148 a2156 a2157 a2158 a2159, b13 g2148 A2151 m2152 n2153 a2155, r4 A2151 m2152 n2153 l2150] w)) (H : Aside0 (ring_Add.f k l2150 a2155 a2156 a2157 a2158 a2159 a2160 = some r)) :
    Calls Tryd.prog 23 #[.pointer (some ⟨g2146, 0, none⟩), .int .i64 a2160] w fun e w' => e = .returned (.bool r.1) ∧ Sep (fps [b14 g2146 g2148 a2156 a2157 a2158 a2159, b13 g2148 A2151 m2152 n2153 a2155, r4 A2151 m2152 n2153 l2150]) w [b14 g2146 g2148 a2156 a2157 a2158 a2159, b13 g2148 A2151 m2152 n2153 r.2.1, r4 A2151 m2152 n2153 r.2.2] w' := by
  generalize (fps [b14 g2146 g2148 a2156 a2157 a2158 a2159, b13 g2148 A2151 m2152 n2153 a2155, r4 A2151 m2152 n2153 l2150]) = FF at HS HGl0 ⊢
  obtain rfl := (row_len (HS.out.at2)).symm
  unfold ring_Add.f at H
  go_enter Tryd.func23, Tryd.ntmps23
  go_wp2_with fail
  obtain ⟨t2811, HA2812, H⟩ := bind_some H
  refine (ring_marked.calls l2150 a2155 a2156 a2157 a2158 a2159 a2160 0 g2146 g2148 A2151 l2150.length n2153 t2811 _ ⟨Gl.pass (l := [b14 g2146 g2148 a2156 a2157 a2158 a2159, b13 g2148 A2151 l2150.length n2153 a2155, r4 A2151 l2150.length n2153 l2150]) (rest := []) HGl0.out HS.out⟩ ⟨HS.out.begin (l := [b14 g2146 g2148 a2156 a2157 a2158 a2159, b13 g2148 A2151 l2150.length n2153 a2155, r4 A2151 l2150.length n2153 l2150]) (rest := [])⟩ HA2812).mono ?_
  rintro e_ w2813 ⟨rfl, hS⟩
  replace HS : Aside0 (Sep FF w [b14 g2146 g2148 a2156 a2157 a2158 a2159, b13 g2148 A2151 l2150.length n2153 t2811.2.2.2.2.2.2.2.2, r4 A2151 l2150.length n2153 l2150] w2813) := ⟨HS.out.call (l := [b14 g2146 g2148 a2156 a2157 a2158 a2159, b13 g2148 A2151 l2150.length n2153 a2155, r4 A2151 l2150.length n2153 l2150]) (rest := []) hS⟩
  clear hS
  by_cases c2832 : t2811.2.2.2.2.2.2.2.1 = true
  · have H := if_yes c2832 H
    have c2832b0 : t2811.2.2.2.2.2.2.2.1 = true := c2832
    have c2832b1 : (!t2811.2.2.2.2.2.2.2.1) = false := by rw [c2832b0]; rfl
    try rw [c2832b1]
    clear c2832
    go_wp2_with (first | ((with_reducible refine gate_dst (N := 5) rfl ?_); refine box_on ?hg (N := 5) ?hd (cs := #[.int .i64 0, .int .i64 0, .int .i64 0, .int .i64 0, .int .i64 0, .int .i64 0, .int .i64 0]) (t := 32) ?hr ?_; (case hd => rfl); (case hg => rfl); (case hr => first | (go_simp; done) | (go_simp; rfl)); intro g2814 hg w2815 hbox hb; replace HS : Aside0 (Sep FF w [b14 g2146 g2148 a2156 a2157 a2158 a2159, b13 g2148 A2151 l2150.length n2153 t2811.2.2.2.2.2.2.2.2, r4 A2151 l2150.length n2153 l2150, b1 g2814 0 0 0 0 0 0 0] w2815) := ⟨HS.out.box hg hbox hb⟩; clear hg hbox hb; have hc2817 : w2815.cell? ⟨g2814, 0, none⟩ = some (.int .i64 0) := blk_cellv (HS.out.at3) 0 rfl; have hz2818 : w2815.frozen? ⟨g2814, 0, none⟩ = false := blk_fz (HS.out.at3) 0; have hc2819 : w2815.cell? ⟨g2814, 1, none⟩ = some (.int .i64 0) := blk_cellv (HS.out.at3) 1 rfl; have hz2820 : w2815.frozen? ⟨g2814, 1, none⟩ = false := blk_fz (HS.out.at3) 1; have hc2821 : w2815.cell? ⟨g2814, 2, none⟩ = some (.int .i64 0) := blk_cellv (HS.out.at3) 2 rfl; have hz2822 : w2815.frozen? ⟨g2814, 2, none⟩ = false := blk_fz (HS.out.at3) 2; have hc2823 : w2815.cell? ⟨g2814, 3, none⟩ = some (.int .i64 0) := blk_cellv (HS.out.at3) 3 rfl; have hz2824 : w2815.frozen? ⟨g2814, 3, none⟩ = false := blk_fz (HS.out.at3) 3; have hc2825 : w2815.cell? ⟨g2814, 4, none⟩ = some (.int .i64 0) := blk_cellv (HS.out.at3) 4 rfl; have hz2826 : w2815.frozen? ⟨g2814, 4, none⟩ = false := blk_fz (HS.out.at3) 4; have hc2827 : w2815.cell? ⟨g2814, 5, none⟩ = some (.int .i64 0) := blk_cellv (HS.out.at3) 5 rfl; have hz2828 : w2815.frozen? ⟨g2814, 5, none⟩ = false := blk_fz (HS.out.at3) 5; have hc2829 : w2815.cell? ⟨g2814, 6, none⟩ = some (.int .i64 0) := blk_cellv (HS.out.at3) 6 rfl; have hz2830 : w2815.frozen? ⟨g2814, 6, none⟩ = false := blk_fz (HS.out.at3) 6) | ((with_reducible refine gate_store (t := 32) (p := 5) rfl ?_); refine store_event (w1 := (World.setCell (World.setCell (World.setCell (World.setCell (World.setCell (World.setCell (World.setCell w2815 ⟨g2814, 0, none⟩ (.int .i64 t2811.1)) ⟨g2814, 1, none⟩ (.int .i64 t2811.2.1)) ⟨g2814, 2, none⟩ (.int .i64 t2811.2.2.1)) ⟨g2814, 3, none⟩ (.int .i64 t2811.2.2.2.1)) ⟨g2814, 4, none⟩ (.int .i64 t2811.2.2.2.2.1)) ⟨g2814, 5, none⟩ (.int .i64 t2811.2.2.2.2.2.1)) ⟨g2814, 6, none⟩ (.int .i64 t2811.2.2.2.2.2.2.1))) rfl (t := 32) (p := 5) rfl rfl ?hr ?_; (case hr => first | (go_simp; done) | (go_simp; rfl)); intro w2831 hst; clear hc2817 hz2818 hc2819 hz2820 hc2821 hz2822 hc2823 hz2824 hc2825 hz2826 hc2827 hz2828 hc2829 hz2830; replace HS : Aside0 (Sep FF w [b14 g2146 g2148 a2156 a2157 a2158 a2159, b13 g2148 A2151 l2150.length n2153 t2811.2.2.2.2.2.2.2.2, r4 A2151 l2150.length n2153 l2150, b1 g2814 t2811.1 t2811.2.1 t2811.2.2.1 t2811.2.2.2.1 t2811.2.2.2.2.1 t2811.2.2.2.2.2.1 t2811.2.2.2.2.2.2.1] w2831) := ⟨by rw [hst]; exact HS.out.setAll (l1 := [b14 g2146 g2148 a2156 a2157 a2158 a2159, b13 g2148 A2151 l2150.length n2153 t2811.2.2.2.2.2.2.2.2, r4 A2151 l2150.length n2153 l2150]) (l2 := []) [.int .i64 t2811.1, .int .i64 t2811.2.1, .int .i64 t2811.2.2.1, .int .i64 t2811.2.2.2.1, .int .i64 t2811.2.2.2.2.1, .int .i64 t2811.2.2.2.2.2.1, .int .i64 t2811.2.2.2.2.2.2.1] rfl⟩; clear hst; have hc2833 : w2831.cell? ⟨g2814, 0, none⟩ = some (.int .i64 t2811.1) := blk_cellv (HS.out.at3) 0 rfl; have hc2834 : w2831.cell? ⟨g2814, 1, none⟩ = some (.int .i64 t2811.2.1) := blk_cellv (HS.out.at3) 1 rfl; have hc2835 : w2831.cell? ⟨g2814, 2, none⟩ = some (.int .i64 t2811.2.2.1) := blk_cellv (HS.out.at3) 2 rfl; have hc2836 : w2831.cell? ⟨g2814, 3, none⟩ = some (.int .i64 t2811.2.2.2.1) := blk_cellv (HS.out.at3) 3 rfl; have hc2837 : w2831.cell? ⟨g2814, 4, none⟩ = some (.int .i64 t2811.2.2.2.2.1) := blk_cellv (HS.out.at3) 4 rfl; have hc2838 : w2831.cell? ⟨g2814, 5, none⟩ = some (.int .i64 t2811.2.2.2.2.2.1) := blk_cellv (HS.out.at3) 5 rfl; have hc2839 : w2831.cell? ⟨g2814, 6, none⟩ = some (.int .i64 t2811.2.2.2.2.2.2.1) := blk_cellv (HS.out.at3) 6 rfl))
    clear hc2833 hc2834 hc2835 hc2836 hc2837 hc2838 hc2839
    obtain ⟨t2840, HA2841, H⟩ := bind_some H
    refine (ring_mark.calls _ l2150 t2811.2.2.2.2.2.2.2.2 a2156 a2157 a2158 a2159 a2160 t2811.1 t2811.2.1 t2811.2.2.1 t2811.2.2.2.1 t2811.2.2.2.2.1 t2811.2.2.2.2.2.1 t2811.2.2.2.2.2.2.1 1 g2146 g2148 A2151 l2150.length n2153 t2840 _ ⟨Gl.pass (l := [b14 g2146 g2148 a2156 a2157 a2158 a2159, b13 g2148 A2151 l2150.length n2153 t2811.2.2.2.2.2.2.2.2, r4 A2151 l2150.length n2153 l2150]) (rest := [b1 g2814 t2811.1 t2811.2.1 t2811.2.2.1 t2811.2.2.2.1 t2811.2.2.2.2.1 t2811.2.2.2.2.2.1 t2811.2.2.2.2.2.2.1]) HGl0.out HS.out⟩ ⟨HS.out.begin (l := [b14 g2146 g2148 a2156 a2157 a2158 a2159, b13 g2148 A2151 l2150.length n2153 t2811.2.2.2.2.2.2.2.2, r4 A2151 l2150.length n2153 l2150]) (rest := [b1 g2814 t2811.1 t2811.2.1 t2811.2.2.1 t2811.2.2.2.1 t2811.2.2.2.2.1 t2811.2.2.2.2.2.1 t2811.2.2.2.2.2.2.1])⟩ HA2841).mono ?_
    rintro e_ w2842 ⟨rfl, hS⟩
    replace HS : Aside0 (Sep FF w [b14 g2146 g2148 a2156 a2157 a2158 a2159, b13 g2148 A2151 l2150.length n2153 t2840.1, r4 A2151 l2150.length n2153 t2840.2, b1 g2814 t2811.1 t2811.2.1 t2811.2.2.1 t2811.2.2.2.1 t2811.2.2.2.2.1 t2811.2.2.2.2.2.1 t2811.2.2.2.2.2.2.1] w2842) := ⟨HS.out.call (l := [b14 g2146 g2148 a2156 a2157 a2158 a2159, b13 g2148 A2151 l2150.length n2153 t2811.2.2.2.2.2.2.2.2, r4 A2151 l2150.length n2153 l2150]) (rest := [b1 g2814 t2811.1 t2811.2.1 t2811.2.2.1 t2811.2.2.2.1 t2811.2.2.2.2.1 t2811.2.2.2.2.2.1 t2811.2.2.2.2.2.2.1]) hS⟩
    clear hS
    replace HS : Aside0 (Sep FF w [b14 g2146 g2148 a2156 a2157 a2158 a2159, b13 g2148 A2151 l2150.length n2153 t2840.1, r4 A2151 l2150.length n2153 t2840.2] w2842) := ⟨HS.out.sub (.cons_cons _ (.cons_cons _ (.cons_cons _ (.cons _ .slnil))))⟩
    go_wp2_with fail
    obtain ⟨t2843, HA2844, H⟩ := bind_some H
    refine (ground_Ground_Reg.calls t2840.2 t2840.1 a2156 a2157 a2158 a2159 8 g2146 g2148 A2151 l2150.length n2153 t2843 _ ⟨Gl.pass (l := [b14 g2146 g2148 a2156 a2157 a2158 a2159, b13 g2148 A2151 l2150.length n2153 t2840.1, r4 A2151 l2150.length n2153 t2840.2]) (rest := []) HGl0.out HS.out⟩ ⟨HS.out.begin (l := [b14 g2146 g2148 a2156 a2157 a2158 a2159, b13 g2148 A2151 l2150.length n2153 t2840.1, r4 A2151 l2150.length n2153 t2840.2]) (rest := [])⟩ HA2844).mono ?_
    rintro e_ w2845 ⟨rfl, hS⟩
    replace HS : Aside0 (Sep FF w [b14 g2146 g2148 a2156 a2157 a2158 a2159, b13 g2148 A2151 l2150.length n2153 t2843.2, r4 A2151 l2150.length n2153 t2840.2] w2845) := ⟨HS.out.call (l := [b14 g2146 g2148 a2156 a2157 a2158 a2159, b13 g2148 A2151 l2150.length n2153 t2840.1, r4 A2151 l2150.length n2153 t2840.2]) (rest := []) hS⟩
    clear hS
    go_wp2_with fail
    obtain ⟨t2846, HA2847, H⟩ := bind_some H
    refine (ground_Ground_SetWord.calls t2840.2 t2843.2 a2156 a2157 a2158 a2159 a2160 6 ((t2843.1) % 4294967296) g2146 g2148 A2151 l2150.length n2153 t2846 _ ⟨Gl.pass (l := [b14 g2146 g2148 a2156 a2157 a2158 a2159, b13 g2148 A2151 l2150.length n2153 t2843.2, r4 A2151 l2150.length n2153 t2840.2]) (rest := []) HGl0.out HS.out⟩ ⟨HS.out.begin (l := [b14 g2146 g2148 a2156 a2157 a2158 a2159, b13 g2148 A2151 l2150.length n2153 t2843.2, r4 A2151 l2150.length n2153 t2840.2]) (rest := [])⟩ HA2847).mono ?_
    rintro e_ w2848 ⟨rfl, hS⟩
    replace HS : Aside0 (Sep FF w [b14 g2146 g2148 a2156 a2157 a2158 a2159, b13 g2148 A2151 l2150.length n2153 t2846.2.1, r4 A2151 l2150.length n2153 t2846.2.2] w2848) := ⟨HS.out.call (l := [b14 g2146 g2148 a2156 a2157 a2158 a2159, b13 g2148 A2151 l2150.length n2153 t2843.2, r4 A2151 l2150.length n2153 t2840.2]) (rest := []) hS⟩
    clear hS
    go_wp2_with fail
    obtain ⟨t2849, HA2850, H⟩ := bind_some H
    refine (ground_Ground_SetWord.calls t2846.2.2 t2846.2.1 a2156 a2157 a2158 a2159 a2160 7 0 g2146 g2148 A2151 l2150.length n2153 t2849 _ ⟨Gl.pass (l := [b14 g2146 g2148 a2156 a2157 a2158 a2159, b13 g2148 A2151 l2150.length n2153 t2846.2.1, r4 A2151 l2150.length n2153 t2846.2.2]) (rest := []) HGl0.out HS.out⟩ ⟨HS.out.begin (l := [b14 g2146 g2148 a2156 a2157 a2158 a2159, b13 g2148 A2151 l2150.length n2153 t2846.2.1, r4 A2151 l2150.length n2153 t2846.2.2]) (rest := [])⟩ HA2850).mono ?_
    rintro e_ w2851 ⟨rfl, hS⟩
    replace HS : Aside0 (Sep FF w [b14 g2146 g2148 a2156 a2157 a2158 a2159, b13 g2148 A2151 l2150.length n2153 t2849.2.1, r4 A2151 l2150.length n2153 t2849.2.2] w2851) := ⟨HS.out.call (l := [b14 g2146 g2148 a2156 a2157 a2158 a2159, b13 g2148 A2151 l2150.length n2153 t2846.2.1, r4 A2151 l2150.length n2153 t2846.2.2]) (rest := []) hS⟩
    clear hS
    go_wp2_with fail
    obtain ⟨t2852, HA2853, H⟩ := bind_some H
    refine (ring_link.calls t2849.2.2 t2849.2.1 a2156 a2157 a2158 a2159 t2843.1 7 7 (wrap64 (a2160 + 1)) g2146 g2148 A2151 l2150.length n2153 t2852 _ ⟨Gl.pass (l := [b14 g2146 g2148 a2156 a2157 a2158 a2159, b13 g2148 A2151 l2150.length n2153 t2849.2.1, r4 A2151 l2150.length n2153 t2849.2.2]) (rest := []) HGl0.out HS.out⟩ ⟨HS.out.begin (l := [b14 g2146 g2148 a2156 a2157 a2158 a2159, b13 g2148 A2151 l2150.length n2153 t2849.2.1, r4 A2151 l2150.length n2153 t2849.2.2]) (rest := [])⟩ HA2853).mono ?_
    rintro e_ w2854 ⟨rfl, hS⟩
    replace HS : Aside0 (Sep FF w [b14 g2146 g2148 a2156 a2157 a2158 a2159, b13 g2148 A2151 l2150.length n2153 t2852.1, r4 A2151 l2150.length n2153 t2852.2] w2854) := ⟨HS.out.call (l := [b14 g2146 g2148 a2156 a2157 a2158 a2159, b13 g2148 A2151 l2150.length n2153 t2849.2.1, r4 A2151 l2150.length n2153 t2849.2.2]) (rest := []) hS⟩
    clear hS
    go_wp2_with fail
    obtain ⟨t2855, HA2856, H⟩ := bind_some H
    refine (ground_Ground_SetReg.calls t2852.2 t2852.1 a2156 a2157 a2158 a2159 8 (wrap64 (a2160 + 1)) g2146 g2148 A2151 l2150.length n2153 t2855 _ ⟨Gl.pass (l := [b14 g2146 g2148 a2156 a2157 a2158 a2159, b13 g2148 A2151 l2150.length n2153 t2852.1, r4 A2151 l2150.length n2153 t2852.2]) (rest := []) HGl0.out HS.out⟩ ⟨HS.out.begin (l := [b14 g2146 g2148 a2156 a2157 a2158 a2159, b13 g2148 A2151 l2150.length n2153 t2852.1, r4 A2151 l2150.length n2153 t2852.2]) (rest := [])⟩ HA2856).mono ?_
    rintro e_ w2857 ⟨rfl, hS⟩
    replace HS : Aside0 (Sep FF w [b14 g2146 g2148 a2156 a2157 a2158 a2159, b13 g2148 A2151 l2150.length n2153 t2855.2.1, r4 A2151 l2150.length n2153 t2855.2.2] w2857) := ⟨HS.out.call (l := [b14 g2146 g2148 a2156 a2157 a2158 a2159, b13 g2148 A2151 l2150.length n2153 t2852.1, r4 A2151 l2150.length n2153 t2852.2]) (rest := []) hS⟩
    clear hS
    go_wp2_with fail
    obtain ⟨t2858, HA2859, H⟩ := bind_some H
    refine (ground_Ground_Reg.calls t2855.2.2 t2855.2.1 a2156 a2157 a2158 a2159 9 g2146 g2148 A2151 l2150.length n2153 t2858 _ ⟨Gl.pass (l := [b14 g2146 g2148 a2156 a2157 a2158 a2159, b13 g2148 A2151 l2150.length n2153 t2855.2.1, r4 A2151 l2150.length n2153 t2855.2.2]) (rest := []) HGl0.out HS.out⟩ ⟨HS.out.begin (l := [b14 g2146 g2148 a2156 a2157 a2158 a2159, b13 g2148 A2151 l2150.length n2153 t2855.2.1, r4 A2151 l2150.length n2153 t2855.2.2]) (rest := [])⟩ HA2859).mono ?_
    rintro e_ w2860 ⟨rfl, hS⟩
    replace HS : Aside0 (Sep FF w [b14 g2146 g2148 a2156 a2157 a2158 a2159, b13 g2148 A2151 l2150.length n2153 t2858.2, r4 A2151 l2150.length n2153 t2855.2.2] w2860) := ⟨HS.out.call (l := [b14 g2146 g2148 a2156 a2157 a2158 a2159, b13 g2148 A2151 l2150.length n2153 t2855.2.1, r4 A2151 l2150.length n2153 t2855.2.2]) (rest := []) hS⟩
    clear hS
    go_wp2_with fail
    obtain ⟨t2861, HA2862, H⟩ := bind_some H
    refine (ground_Ground_SetReg.calls t2855.2.2 t2858.2 a2156 a2157 a2158 a2159 9 (wrap64 (t2858.1 + 1)) g2146 g2148 A2151 l2150.length n2153 t2861 _ ⟨Gl.pass (l := [b14 g2146 g2148 a2156 a2157 a2158 a2159, b13 g2148 A2151 l2150.length n2153 t2858.2, r4 A2151 l2150.length n2153 t2855.2.2]) (rest := []) HGl0.out HS.out⟩ ⟨HS.out.begin (l := [b14 g2146 g2148 a2156 a2157 a2158 a2159, b13 g2148 A2151 l2150.length n2153 t2858.2, r4 A2151 l2150.length n2153 t2855.2.2]) (rest := [])⟩ HA2862).mono ?_
    rintro e_ w2863 ⟨rfl, hS⟩
    replace HS : Aside0 (Sep FF w [b14 g2146 g2148 a2156 a2157 a2158 a2159, b13 g2148 A2151 l2150.length n2153 t2861.2.1, r4 A2151 l2150.length n2153 t2861.2.2] w2863) := ⟨HS.out.call (l := [b14 g2146 g2148 a2156 a2157 a2158 a2159, b13 g2148 A2151 l2150.length n2153 t2858.2, r4 A2151 l2150.length n2153 t2855.2.2]) (rest := []) hS⟩
    clear hS
    go_wp2_with fail
    go_ret
    rw [← some_eq H]
    exact ⟨(by first | rfl | (simp [IntKind.wrap_u32]; done)), ((((HS.out).front 2 (by simp)).front 2 (by simp)).front 2 (by simp)).keep (l := [b14 g2146 g2148 a2156 a2157 a2158 a2159, b13 g2148 A2151 l2150.length n2153 t2861.2.1, r4 A2151 l2150.length n2153 t2861.2.2]) (rest := [])⟩
  · have H := if_no c2832 H
    have c2832b0 : t2811.2.2.2.2.2.2.2.1 = false := by simpa using c2832
    have c2832b1 : (!t2811.2.2.2.2.2.2.2.1) = true := by rw [c2832b0]; rfl
    try rw [c2832b1]
    clear c2832
    go_wp2_with (first | ((with_reducible refine gate_dst (N := 5) rfl ?_); refine box_on ?hg (N := 5) ?hd (cs := #[.int .i64 0, .int .i64 0, .int .i64 0, .int .i64 0, .int .i64 0, .int .i64 0, .int .i64 0]) (t := 32) ?hr ?_; (case hd => rfl); (case hg => rfl); (case hr => first | (go_simp; done) | (go_simp; rfl)); intro g2814 hg w2815 hbox hb; replace HS : Aside0 (Sep FF w [b14 g2146 g2148 a2156 a2157 a2158 a2159, b13 g2148 A2151 l2150.length n2153 t2811.2.2.2.2.2.2.2.2, r4 A2151 l2150.length n2153 l2150, b1 g2814 0 0 0 0 0 0 0] w2815) := ⟨HS.out.box hg hbox hb⟩; clear hg hbox hb; have hc2817 : w2815.cell? ⟨g2814, 0, none⟩ = some (.int .i64 0) := blk_cellv (HS.out.at3) 0 rfl; have hz2818 : w2815.frozen? ⟨g2814, 0, none⟩ = false := blk_fz (HS.out.at3) 0; have hc2819 : w2815.cell? ⟨g2814, 1, none⟩ = some (.int .i64 0) := blk_cellv (HS.out.at3) 1 rfl; have hz2820 : w2815.frozen? ⟨g2814, 1, none⟩ = false := blk_fz (HS.out.at3) 1; have hc2821 : w2815.cell? ⟨g2814, 2, none⟩ = some (.int .i64 0) := blk_cellv (HS.out.at3) 2 rfl; have hz2822 : w2815.frozen? ⟨g2814, 2, none⟩ = false := blk_fz (HS.out.at3) 2; have hc2823 : w2815.cell? ⟨g2814, 3, none⟩ = some (.int .i64 0) := blk_cellv (HS.out.at3) 3 rfl; have hz2824 : w2815.frozen? ⟨g2814, 3, none⟩ = false := blk_fz (HS.out.at3) 3; have hc2825 : w2815.cell? ⟨g2814, 4, none⟩ = some (.int .i64 0) := blk_cellv (HS.out.at3) 4 rfl; have hz2826 : w2815.frozen? ⟨g2814, 4, none⟩ = false := blk_fz (HS.out.at3) 4; have hc2827 : w2815.cell? ⟨g2814, 5, none⟩ = some (.int .i64 0) := blk_cellv (HS.out.at3) 5 rfl; have hz2828 : w2815.frozen? ⟨g2814, 5, none⟩ = false := blk_fz (HS.out.at3) 5; have hc2829 : w2815.cell? ⟨g2814, 6, none⟩ = some (.int .i64 0) := blk_cellv (HS.out.at3) 6 rfl; have hz2830 : w2815.frozen? ⟨g2814, 6, none⟩ = false := blk_fz (HS.out.at3) 6) | ((with_reducible refine gate_store (t := 32) (p := 5) rfl ?_); refine store_event (w1 := (World.setCell (World.setCell (World.setCell (World.setCell (World.setCell (World.setCell (World.setCell w2815 ⟨g2814, 0, none⟩ (.int .i64 t2811.1)) ⟨g2814, 1, none⟩ (.int .i64 t2811.2.1)) ⟨g2814, 2, none⟩ (.int .i64 t2811.2.2.1)) ⟨g2814, 3, none⟩ (.int .i64 t2811.2.2.2.1)) ⟨g2814, 4, none⟩ (.int .i64 t2811.2.2.2.2.1)) ⟨g2814, 5, none⟩ (.int .i64 t2811.2.2.2.2.2.1)) ⟨g2814, 6, none⟩ (.int .i64 t2811.2.2.2.2.2.2.1))) rfl (t := 32) (p := 5) rfl rfl ?hr ?_; (case hr => first | (go_simp; done) | (go_simp; rfl)); intro w2831 hst; clear hc2817 hz2818 hc2819 hz2820 hc2821 hz2822 hc2823 hz2824 hc2825 hz2826 hc2827 hz2828 hc2829 hz2830; replace HS : Aside0 (Sep FF w [b14 g2146 g2148 a2156 a2157 a2158 a2159, b13 g2148 A2151 l2150.length n2153 t2811.2.2.2.2.2.2.2.2, r4 A2151 l2150.length n2153 l2150, b1 g2814 t2811.1 t2811.2.1 t2811.2.2.1 t2811.2.2.2.1 t2811.2.2.2.2.1 t2811.2.2.2.2.2.1 t2811.2.2.2.2.2.2.1] w2831) := ⟨by rw [hst]; exact HS.out.setAll (l1 := [b14 g2146 g2148 a2156 a2157 a2158 a2159, b13 g2148 A2151 l2150.length n2153 t2811.2.2.2.2.2.2.2.2, r4 A2151 l2150.length n2153 l2150]) (l2 := []) [.int .i64 t2811.1, .int .i64 t2811.2.1, .int .i64 t2811.2.2.1, .int .i64 t2811.2.2.2.1, .int .i64 t2811.2.2.2.2.1, .int .i64 t2811.2.2.2.2.2.1, .int .i64 t2811.2.2.2.2.2.2.1] rfl⟩; clear hst; replace HS : Aside0 (Sep FF w [b14 g2146 g2148 a2156 a2157 a2158 a2159, b13 g2148 A2151 l2150.length n2153 t2811.2.2.2.2.2.2.2.2, r4 A2151 l2150.length n2153 l2150] w2831) := ⟨HS.out.sub (.cons_cons _ (.cons_cons _ (.cons_cons _ (.cons _ .slnil))))⟩))
    go_ret
    rw [← some_eq H]
    exact ⟨(by first | rfl | (simp [IntKind.wrap_u32]; done)), ((((HS.out).front 2 (by simp)).front 2 (by simp)).front 2 (by simp)).keep (l := [b14 g2146 g2148 a2156 a2157 a2158 a2159, b13 g2148 A2151 l2150.length n2153 t2811.2.2.2.2.2.2.2.2, r4 A2151 l2150.length n2153 l2150]) (rest := [])⟩

set_option maxHeartbeats 30000000 in
set_option maxRecDepth 100000 in
theorem ring_Cut.calls (k : Nat) (l2878 : List Int) (a2883 : Int) (a2884 : Int) (a2885 : Int) (a2886 : Int) (a2887 : Int) (a2888 : Int) (g2874 : Nat) (g2876 : Nat) (A2879 : Option Addr) (m2880 : Nat) (n2881 : Nat) (r : Bool × Int × List Int) (w : World)  (HGl0 : Aside0 (Gl 0 #[.int .i64 0, .int .i64 0, .int .i64 0, .int .i64 0, .int .i64 0] (fps [b14 g2874 g2876 a2884 a2885 a2886 a2887, b13 g2876 A2879 m2880 n2881 a2883, r4 A2879 m2880 n2881 l2878]) w)) (HS : Aside0 (Sep (fps [b14 g2874 g2876 a2884 a2885 a2886 a2887, b13 g2876 A2879 m2880 n2881 a2883, r4 A2879 m2880 n2881 l2878]) w [b14 g2874 g2876 a2884 a2885 a2886 a2887, b13 g2876 A2879 m2880 n2881 a2883, r4 A2879 m2880 n2881 l2878] w)) (H : Aside0 (ring_Cut.f k l2878 a2883 a2884 a2885 a2886 a2887 a2888 = some r)) :
    Calls Tryd.prog 24 #[.pointer (some ⟨g2874, 0, none⟩), .int .i64 a2888] w fun e w' => e = .returned (.bool r.1) ∧ Sep (fps [b14 g2874 g2876 a2884 a2885 a2886 a2887, b13 g2876 A2879 m2880 n2881 a2883, r4 A2879 m2880 n2881 l2878]) w [b14 g2874 g2876 a2884 a2885 a2886 a2887, b13 g2876 A2879 m2880 n2881 r.2.1, r4 A2879 m2880 n2881 r.2.2] w' := by
  generalize (fps [b14 g2874 g2876 a2884 a2885 a2886 a2887, b13 g2876 A2879 m2880 n2881 a2883, r4 A2879 m2880 n2881 l2878]) = FF at HS HGl0 ⊢
  obtain rfl := (row_len (HS.out.at2)).symm
  unfold ring_Cut.f at H
  go_enter Tryd.func24, Tryd.ntmps24
  go_wp2_with fail
  obtain ⟨t2945, HA2946, H⟩ := bind_some H
  refine (ring_marked.calls l2878 a2883 a2884 a2885 a2886 a2887 a2888 1 g2874 g2876 A2879 l2878.length n2881 t2945 _ ⟨Gl.pass (l := [b14 g2874 g2876 a2884 a2885 a2886 a2887, b13 g2876 A2879 l2878.length n2881 a2883, r4 A2879 l2878.length n2881 l2878]) (rest := []) HGl0.out HS.out⟩ ⟨HS.out.begin (l := [b14 g2874 g2876 a2884 a2885 a2886 a2887, b13 g2876 A2879 l2878.length n2881 a2883, r4 A2879 l2878.length n2881 l2878]) (rest := [])⟩ HA2946).mono ?_
  rintro e_ w2947 ⟨rfl, hS⟩
  replace HS : Aside0 (Sep FF w [b14 g2874 g2876 a2884 a2885 a2886 a2887, b13 g2876 A2879 l2878.length n2881 t2945.2.2.2.2.2.2.2.2, r4 A2879 l2878.length n2881 l2878] w2947) := ⟨HS.out.call (l := [b14 g2874 g2876 a2884 a2885 a2886 a2887, b13 g2876 A2879 l2878.length n2881 a2883, r4 A2879 l2878.length n2881 l2878]) (rest := []) hS⟩
  clear hS
  by_cases c2966 : t2945.2.2.2.2.2.2.2.1 = true
  · have H := if_yes c2966 H
    have c2966b0 : t2945.2.2.2.2.2.2.2.1 = true := c2966
    have c2966b1 : (!t2945.2.2.2.2.2.2.2.1) = false := by rw [c2966b0]; rfl
    try rw [c2966b1]
    clear c2966
    go_wp2_with (first | ((with_reducible refine gate_dst (N := 5) rfl ?_); refine box_on ?hg (N := 5) ?hd (cs := #[.int .i64 0, .int .i64 0, .int .i64 0, .int .i64 0, .int .i64 0, .int .i64 0, .int .i64 0]) (t := 32) ?hr ?_; (case hd => rfl); (case hg => rfl); (case hr => first | (go_simp; done) | (go_simp; rfl)); intro g2948 hg w2949 hbox hb; replace HS : Aside0 (Sep FF w [b14 g2874 g2876 a2884 a2885 a2886 a2887, b13 g2876 A2879 l2878.length n2881 t2945.2.2.2.2.2.2.2.2, r4 A2879 l2878.length n2881 l2878, b1 g2948 0 0 0 0 0 0 0] w2949) := ⟨HS.out.box hg hbox hb⟩; clear hg hbox hb; have hc2951 : w2949.cell? ⟨g2948, 0, none⟩ = some (.int .i64 0) := blk_cellv (HS.out.at3) 0 rfl; have hz2952 : w2949.frozen? ⟨g2948, 0, none⟩ = false := blk_fz (HS.out.at3) 0; have hc2953 : w2949.cell? ⟨g2948, 1, none⟩ = some (.int .i64 0) := blk_cellv (HS.out.at3) 1 rfl; have hz2954 : w2949.frozen? ⟨g2948, 1, none⟩ = false := blk_fz (HS.out.at3) 1; have hc2955 : w2949.cell? ⟨g2948, 2, none⟩ = some (.int .i64 0) := blk_cellv (HS.out.at3) 2 rfl; have hz2956 : w2949.frozen? ⟨g2948, 2, none⟩ = false := blk_fz (HS.out.at3) 2; have hc2957 : w2949.cell? ⟨g2948, 3, none⟩ = some (.int .i64 0) := blk_cellv (HS.out.at3) 3 rfl; have hz2958 : w2949.frozen? ⟨g2948, 3, none⟩ = false := blk_fz (HS.out.at3) 3; have hc2959 : w2949.cell? ⟨g2948, 4, none⟩ = some (.int .i64 0) := blk_cellv (HS.out.at3) 4 rfl; have hz2960 : w2949.frozen? ⟨g2948, 4, none⟩ = false := blk_fz (HS.out.at3) 4; have hc2961 : w2949.cell? ⟨g2948, 5, none⟩ = some (.int .i64 0) := blk_cellv (HS.out.at3) 5 rfl; have hz2962 : w2949.frozen? ⟨g2948, 5, none⟩ = false := blk_fz (HS.out.at3) 5; have hc2963 : w2949.cell? ⟨g2948, 6, none⟩ = some (.int .i64 0) := blk_cellv (HS.out.at3) 6 rfl; have hz2964 : w2949.frozen? ⟨g2948, 6, none⟩ = false := blk_fz (HS.out.at3) 6) | ((with_reducible refine gate_store (t := 32) (p := 5) rfl ?_); refine store_event (w1 := (World.setCell (World.setCell (World.setCell (World.setCell (World.setCell (World.setCell (World.setCell w2949 ⟨g2948, 0, none⟩ (.int .i64 t2945.1)) ⟨g2948, 1, none⟩ (.int .i64 t2945.2.1)) ⟨g2948, 2, none⟩ (.int .i64 t2945.2.2.1)) ⟨g2948, 3, none⟩ (.int .i64 t2945.2.2.2.1)) ⟨g2948, 4, none⟩ (.int .i64 t2945.2.2.2.2.1)) ⟨g2948, 5, none⟩ (.int .i64 t2945.2.2.2.2.2.1)) ⟨g2948, 6, none⟩ (.int .i64 t2945.2.2.2.2.2.2.1))) rfl (t := 32) (p := 5) rfl rfl ?hr ?_; (case hr => first | (go_simp; done) | (go_simp; rfl)); intro w2965 hst; clear hc2951 hz2952 hc2953 hz2954 hc2955 hz2956 hc2957 hz2958 hc2959 hz2960 hc2961 hz2962 hc2963 hz2964; replace HS : Aside0 (Sep FF w [b14 g2874 g2876 a2884 a2885 a2886 a2887, b13 g2876 A2879 l2878.length n2881 t2945.2.2.2.2.2.2.2.2, r4 A2879 l2878.length n2881 l2878, b1 g2948 t2945.1 t2945.2.1 t2945.2.2.1 t2945.2.2.2.1 t2945.2.2.2.2.1 t2945.2.2.2.2.2.1 t2945.2.2.2.2.2.2.1] w2965) := ⟨by rw [hst]; exact HS.out.setAll (l1 := [b14 g2874 g2876 a2884 a2885 a2886 a2887, b13 g2876 A2879 l2878.length n2881 t2945.2.2.2.2.2.2.2.2, r4 A2879 l2878.length n2881 l2878]) (l2 := []) [.int .i64 t2945.1, .int .i64 t2945.2.1, .int .i64 t2945.2.2.1, .int .i64 t2945.2.2.2.1, .int .i64 t2945.2.2.2.2.1, .int .i64 t2945.2.2.2.2.2.1, .int .i64 t2945.2.2.2.2.2.2.1] rfl⟩; clear hst; have hc2967 : w2965.cell? ⟨g2948, 0, none⟩ = some (.int .i64 t2945.1) := blk_cellv (HS.out.at3) 0 rfl; have hc2968 : w2965.cell? ⟨g2948, 1, none⟩ = some (.int .i64 t2945.2.1) := blk_cellv (HS.out.at3) 1 rfl; have hc2969 : w2965.cell? ⟨g2948, 2, none⟩ = some (.int .i64 t2945.2.2.1) := blk_cellv (HS.out.at3) 2 rfl; have hc2970 : w2965.cell? ⟨g2948, 3, none⟩ = some (.int .i64 t2945.2.2.2.1) := blk_cellv (HS.out.at3) 3 rfl; have hc2971 : w2965.cell? ⟨g2948, 4, none⟩ = some (.int .i64 t2945.2.2.2.2.1) := blk_cellv (HS.out.at3) 4 rfl; have hc2972 : w2965.cell? ⟨g2948, 5, none⟩ = some (.int .i64 t2945.2.2.2.2.2.1) := blk_cellv (HS.out.at3) 5 rfl; have hc2973 : w2965.cell? ⟨g2948, 6, none⟩ = some (.int .i64 t2945.2.2.2.2.2.2.1) := blk_cellv (HS.out.at3) 6 rfl))
    clear hc2967 hc2968 hc2969 hc2970 hc2971 hc2972 hc2973
    obtain ⟨t2974, HA2975, H⟩ := bind_some H
    refine (ring_mark.calls _ l2878 t2945.2.2.2.2.2.2.2.2 a2884 a2885 a2886 a2887 a2888 t2945.1 t2945.2.1 t2945.2.2.1 t2945.2.2.2.1 t2945.2.2.2.2.1 t2945.2.2.2.2.2.1 t2945.2.2.2.2.2.2.1 0 g2874 g2876 A2879 l2878.length n2881 t2974 _ ⟨Gl.pass (l := [b14 g2874 g2876 a2884 a2885 a2886 a2887, b13 g2876 A2879 l2878.length n2881 t2945.2.2.2.2.2.2.2.2, r4 A2879 l2878.length n2881 l2878]) (rest := [b1 g2948 t2945.1 t2945.2.1 t2945.2.2.1 t2945.2.2.2.1 t2945.2.2.2.2.1 t2945.2.2.2.2.2.1 t2945.2.2.2.2.2.2.1]) HGl0.out HS.out⟩ ⟨HS.out.begin (l := [b14 g2874 g2876 a2884 a2885 a2886 a2887, b13 g2876 A2879 l2878.length n2881 t2945.2.2.2.2.2.2.2.2, r4 A2879 l2878.length n2881 l2878]) (rest := [b1 g2948 t2945.1 t2945.2.1 t2945.2.2.1 t2945.2.2.2.1 t2945.2.2.2.2.1 t2945.2.2.2.2.2.1 t2945.2.2.2.2.2.2.1])⟩ HA2975).mono ?_
    rintro e_ w2976 ⟨rfl, hS⟩
    replace HS : Aside0 (Sep FF w [b14 g2874 g2876 a2884 a2885 a2886 a2887, b13 g2876 A2879 l2878.length n2881 t2974.1, r4 A2879 l2878.length n2881 t2974.2, b1 g2948 t2945.1 t2945.2.1 t2945.2.2.1 t2945.2.2.2.1 t2945.2.2.2.2.1 t2945.2.2.2.2.2.1 t2945.2.2.2.2.2.2.1] w2976) := ⟨HS.out.call (l := [b14 g2874 g2876 a2884 a2885 a2886 a2887, b13 g2876 A2879 l2878.length n2881 t2945.2.2.2.2.2.2.2.2, r4 A2879 l2878.length n2881 l2878]) (rest := [b1 g2948 t2945.1 t2945.2.1 t2945.2.2.1 t2945.2.2.2.1 t2945.2.2.2.2.1 t2945.2.2.2.2.2.1 t2945.2.2.2.2.2.2.1]) hS⟩
    clear hS
    replace HS : Aside0 (Sep FF w [b14 g2874 g2876 a2884 a2885 a2886 a2887, b13 g2876 A2879 l2878.length n2881 t2974.1, r4 A2879 l2878.length n2881 t2974.2] w2976) := ⟨HS.out.sub (.cons_cons _ (.cons_cons _ (.cons_cons _ (.cons _ .slnil))))⟩
    go_wp2_with fail
    obtain ⟨t2977, HA2978, H⟩ := bind_some H
    refine (ground_Ground_Word.calls t2974.2 t2974.1 a2884 a2885 a2886 a2887 a2888 6 g2874 g2876 A2879 l2878.length n2881 t2977 _ ⟨Gl.pass (l := [b14 g2874 g2876 a2884 a2885 a2886 a2887, b13 g2876 A2879 l2878.length n2881 t2974.1, r4 A2879 l2878.length n2881 t2974.2]) (rest := []) HGl0.out HS.out⟩ ⟨HS.out.begin (l := [b14 g2874 g2876 a2884 a2885 a2886 a2887, b13 g2876 A2879 l2878.length n2881 t2974.1, r4 A2879 l2878.length n2881 t2974.2]) (rest := [])⟩ HA2978).mono ?_
    rintro e_ w2979 ⟨rfl, hS⟩
    replace HS : Aside0 (Sep FF w [b14 g2874 g2876 a2884 a2885 a2886 a2887, b13 g2876 A2879 l2878.length n2881 t2977.2, r4 A2879 l2878.length n2881 t2974.2] w2979) := ⟨HS.out.call (l := [b14 g2874 g2876 a2884 a2885 a2886 a2887, b13 g2876 A2879 l2878.length n2881 t2974.1, r4 A2879 l2878.length n2881 t2974.2]) (rest := []) hS⟩
    clear hS
    go_wp2_with fail
    obtain ⟨t2980, HA2981, H⟩ := bind_some H
    refine (ground_Ground_Word.calls t2974.2 t2977.2 a2884 a2885 a2886 a2887 a2888 7 g2874 g2876 A2879 l2878.length n2881 t2980 _ ⟨Gl.pass (l := [b14 g2874 g2876 a2884 a2885 a2886 a2887, b13 g2876 A2879 l2878.length n2881 t2977.2, r4 A2879 l2878.length n2881 t2974.2]) (rest := []) HGl0.out HS.out⟩ ⟨HS.out.begin (l := [b14 g2874 g2876 a2884 a2885 a2886 a2887, b13 g2876 A2879 l2878.length n2881 t2977.2, r4 A2879 l2878.length n2881 t2974.2]) (rest := [])⟩ HA2981).mono ?_
    rintro e_ w2982 ⟨rfl, hS⟩
    replace HS : Aside0 (Sep FF w [b14 g2874 g2876 a2884 a2885 a2886 a2887, b13 g2876 A2879 l2878.length n2881 t2980.2, r4 A2879 l2878.length n2881 t2974.2] w2982) := ⟨HS.out.call (l := [b14 g2874 g2876 a2884 a2885 a2886 a2887, b13 g2876 A2879 l2878.length n2881 t2977.2, r4 A2879 l2878.length n2881 t2974.2]) (rest := []) hS⟩
    clear hS
    go_wp2_with fail
    obtain ⟨t2983, HA2984, H⟩ := bind_some H
    refine (ring_link.calls t2974.2 t2980.2 a2884 a2885 a2886 a2887 (wrap64 (t2977.1)) 7 7 (wrap64 (t2980.1)) g2874 g2876 A2879 l2878.length n2881 t2983 _ ⟨Gl.pass (l := [b14 g2874 g2876 a2884 a2885 a2886 a2887, b13 g2876 A2879 l2878.length n2881 t2980.2, r4 A2879 l2878.length n2881 t2974.2]) (rest := []) HGl0.out HS.out⟩ ⟨HS.out.begin (l := [b14 g2874 g2876 a2884 a2885 a2886 a2887, b13 g2876 A2879 l2878.length n2881 t2980.2, r4 A2879 l2878.length n2881 t2974.2]) (rest := [])⟩ HA2984).mono ?_
    rintro e_ w2985 ⟨rfl, hS⟩
    replace HS : Aside0 (Sep FF w [b14 g2874 g2876 a2884 a2885 a2886 a2887, b13 g2876 A2879 l2878.length n2881 t2983.1, r4 A2879 l2878.length n2881 t2983.2] w2985) := ⟨HS.out.call (l := [b14 g2874 g2876 a2884 a2885 a2886 a2887, b13 g2876 A2879 l2878.length n2881 t2980.2, r4 A2879 l2878.length n2881 t2974.2]) (rest := []) hS⟩
    clear hS
    go_wp2_with fail
    obtain ⟨t2986, HA2987, H⟩ := bind_some H
    refine (ring_link.calls t2983.2 t2983.1 a2884 a2885 a2886 a2887 (wrap64 (t2980.1)) 6 8 (wrap64 (t2977.1)) g2874 g2876 A2879 l2878.length n2881 t2986 _ ⟨Gl.pass (l := [b14 g2874 g2876 a2884 a2885 a2886 a2887, b13 g2876 A2879 l2878.length n2881 t2983.1, r4 A2879 l2878.length n2881 t2983.2]) (rest := []) HGl0.out HS.out⟩ ⟨HS.out.begin (l := [b14 g2874 g2876 a2884 a2885 a2886 a2887, b13 g2876 A2879 l2878.length n2881 t2983.1, r4 A2879 l2878.length n2881 t2983.2]) (rest := [])⟩ HA2987).mono ?_
    rintro e_ w2988 ⟨rfl, hS⟩
    replace HS : Aside0 (Sep FF w [b14 g2874 g2876 a2884 a2885 a2886 a2887, b13 g2876 A2879 l2878.length n2881 t2986.1, r4 A2879 l2878.length n2881 t2986.2] w2988) := ⟨HS.out.call (l := [b14 g2874 g2876 a2884 a2885 a2886 a2887, b13 g2876 A2879 l2878.length n2881 t2983.1, r4 A2879 l2878.length n2881 t2983.2]) (rest := []) hS⟩
    clear hS
    go_wp2_with fail
    obtain ⟨t2989, HA2990, H⟩ := bind_some H
    refine (ground_Ground_SetWord.calls t2986.2 t2986.1 a2884 a2885 a2886 a2887 a2888 6 0 g2874 g2876 A2879 l2878.length n2881 t2989 _ ⟨Gl.pass (l := [b14 g2874 g2876 a2884 a2885 a2886 a2887, b13 g2876 A2879 l2878.length n2881 t2986.1, r4 A2879 l2878.length n2881 t2986.2]) (rest := []) HGl0.out HS.out⟩ ⟨HS.out.begin (l := [b14 g2874 g2876 a2884 a2885 a2886 a2887, b13 g2876 A2879 l2878.length n2881 t2986.1, r4 A2879 l2878.length n2881 t2986.2]) (rest := [])⟩ HA2990).mono ?_
    rintro e_ w2991 ⟨rfl, hS⟩
    replace HS : Aside0 (Sep FF w [b14 g2874 g2876 a2884 a2885 a2886 a2887, b13 g2876 A2879 l2878.length n2881 t2989.2.1, r4 A2879 l2878.length n2881 t2989.2.2] w2991) := ⟨HS.out.call (l := [b14 g2874 g2876 a2884 a2885 a2886 a2887, b13 g2876 A2879 l2878.length n2881 t2986.1, r4 A2879 l2878.length n2881 t2986.2]) (rest := []) hS⟩
    clear hS
    go_wp2_with fail
    obtain ⟨t2992, HA2993, H⟩ := bind_some H
    refine (ground_Ground_SetWord.calls t2989.2.2 t2989.2.1 a2884 a2885 a2886 a2887 a2888 7 0 g2874 g2876 A2879 l2878.length n2881 t2992 _ ⟨Gl.pass (l := [b14 g2874 g2876 a2884 a2885 a2886 a2887, b13 g2876 A2879 l2878.length n2881 t2989.2.1, r4 A2879 l2878.length n2881 t2989.2.2]) (rest := []) HGl0.out HS.out⟩ ⟨HS.out.begin (l := [b14 g2874 g2876 a2884 a2885 a2886 a2887, b13 g2876 A2879 l2878.length n2881 t2989.2.1, r4 A2879 l2878.length n2881 t2989.2.2]) (rest := [])⟩ HA2993).mono ?_
    rintro e_ w2994 ⟨rfl, hS⟩
    replace HS : Aside0 (Sep FF w [b14 g2874 g2876 a2884 a2885 a2886 a2887, b13 g2876 A2879 l2878.length n2881 t2992.2.1, r4 A2879 l2878.length n2881 t2992.2.2] w2994) := ⟨HS.out.call (l := [b14 g2874 g2876 a2884 a2885 a2886 a2887, b13 g2876 A2879 l2878.length n2881 t2989.2.1, r4 A2879 l2878.length n2881 t2989.2.2]) (rest := []) hS⟩
    clear hS
    go_wp2_with fail
    obtain ⟨t2995, HA2996, H⟩ := bind_some H
    refine (ground_Ground_Reg.calls t2992.2.2 t2992.2.1 a2884 a2885 a2886 a2887 9 g2874 g2876 A2879 l2878.length n2881 t2995 _ ⟨Gl.pass (l := [b14 g2874 g2876 a2884 a2885 a2886 a2887, b13 g2876 A2879 l2878.length n2881 t2992.2.1, r4 A2879 l2878.length n2881 t2992.2.2]) (rest := []) HGl0.out HS.out⟩ ⟨HS.out.begin (l := [b14 g2874 g2876 a2884 a2885 a2886 a2887, b13 g2876 A2879 l2878.length n2881 t2992.2.1, r4 A2879 l2878.length n2881 t2992.2.2]) (rest := [])⟩ HA2996).mono ?_
    rintro e_ w2997 ⟨rfl, hS⟩
    replace HS : Aside0 (Sep FF w [b14 g2874 g2876 a2884 a2885 a2886 a2887, b13 g2876 A2879 l2878.length n2881 t2995.2, r4 A2879 l2878.length n2881 t2992.2.2] w2997) := ⟨HS.out.call (l := [b14 g2874 g2876 a2884 a2885 a2886 a2887, b13 g2876 A2879 l2878.length n2881 t2992.2.1, r4 A2879 l2878.length n2881 t2992.2.2]) (rest := []) hS⟩
    clear hS
    go_wp2_with fail
    obtain ⟨t2998, HA2999, H⟩ := bind_some H
    refine (ground_Ground_SetReg.calls t2992.2.2 t2995.2 a2884 a2885 a2886 a2887 9 (wrap64 (t2995.1 - 1)) g2874 g2876 A2879 l2878.length n2881 t2998 _ ⟨Gl.pass (l := [b14 g2874 g2876 a2884 a2885 a2886 a2887, b13 g2876 A2879 l2878.length n2881 t2995.2, r4 A2879 l2878.length n2881 t2992.2.2]) (rest := []) HGl0.out HS.out⟩ ⟨HS.out.begin (l := [b14 g2874 g2876 a2884 a2885 a2886 a2887, b13 g2876 A2879 l2878.length n2881 t2995.2, r4 A2879 l2878.length n2881 t2992.2.2]) (rest := [])⟩ HA2999).mono ?_
    rintro e_ w3000 ⟨rfl, hS⟩
    replace HS : Aside0 (Sep FF w [b14 g2874 g2876 a2884 a2885 a2886 a2887, b13 g2876 A2879 l2878.length n2881 t2998.2.1, r4 A2879 l2878.length n2881 t2998.2.2] w3000) := ⟨HS.out.call (l := [b14 g2874 g2876 a2884 a2885 a2886 a2887, b13 g2876 A2879 l2878.length n2881 t2995.2, r4 A2879 l2878.length n2881 t2992.2.2]) (rest := []) hS⟩
    clear hS
    go_wp2_with fail
    go_ret
    rw [← some_eq H]
    exact ⟨(by first | rfl | (simp [IntKind.wrap_u32]; done)), ((((HS.out).front 2 (by simp)).front 2 (by simp)).front 2 (by simp)).keep (l := [b14 g2874 g2876 a2884 a2885 a2886 a2887, b13 g2876 A2879 l2878.length n2881 t2998.2.1, r4 A2879 l2878.length n2881 t2998.2.2]) (rest := [])⟩
  · have H := if_no c2966 H
    have c2966b0 : t2945.2.2.2.2.2.2.2.1 = false := by simpa using c2966
    have c2966b1 : (!t2945.2.2.2.2.2.2.2.1) = true := by rw [c2966b0]; rfl
    try rw [c2966b1]
    clear c2966
    go_wp2_with (first | ((with_reducible refine gate_dst (N := 5) rfl ?_); refine box_on ?hg (N := 5) ?hd (cs := #[.int .i64 0, .int .i64 0, .int .i64 0, .int .i64 0, .int .i64 0, .int .i64 0, .int .i64 0]) (t := 32) ?hr ?_; (case hd => rfl); (case hg => rfl); (case hr => first | (go_simp; done) | (go_simp; rfl)); intro g2948 hg w2949 hbox hb; replace HS : Aside0 (Sep FF w [b14 g2874 g2876 a2884 a2885 a2886 a2887, b13 g2876 A2879 l2878.length n2881 t2945.2.2.2.2.2.2.2.2, r4 A2879 l2878.length n2881 l2878, b1 g2948 0 0 0 0 0 0 0] w2949) := ⟨HS.out.box hg hbox hb⟩; clear hg hbox hb; have hc2951 : w2949.cell? ⟨g2948, 0, none⟩ = some (.int .i64 0) := blk_cellv (HS.out.at3) 0 rfl; have hz2952 : w2949.frozen? ⟨g2948, 0, none⟩ = false := blk_fz (HS.out.at3) 0; have hc2953 : w2949.cell? ⟨g2948, 1, none⟩ = some (.int .i64 0) := blk_cellv (HS.out.at3) 1 rfl; have hz2954 : w2949.frozen? ⟨g2948, 1, none⟩ = false := blk_fz (HS.out.at3) 1; have hc2955 : w2949.cell? ⟨g2948, 2, none⟩ = some (.int .i64 0) := blk_cellv (HS.out.at3) 2 rfl; have hz2956 : w2949.frozen? ⟨g2948, 2, none⟩ = false := blk_fz (HS.out.at3) 2; have hc2957 : w2949.cell? ⟨g2948, 3, none⟩ = some (.int .i64 0) := blk_cellv (HS.out.at3) 3 rfl; have hz2958 : w2949.frozen? ⟨g2948, 3, none⟩ = false := blk_fz (HS.out.at3) 3; have hc2959 : w2949.cell? ⟨g2948, 4, none⟩ = some (.int .i64 0) := blk_cellv (HS.out.at3) 4 rfl; have hz2960 : w2949.frozen? ⟨g2948, 4, none⟩ = false := blk_fz (HS.out.at3) 4; have hc2961 : w2949.cell? ⟨g2948, 5, none⟩ = some (.int .i64 0) := blk_cellv (HS.out.at3) 5 rfl; have hz2962 : w2949.frozen? ⟨g2948, 5, none⟩ = false := blk_fz (HS.out.at3) 5; have hc2963 : w2949.cell? ⟨g2948, 6, none⟩ = some (.int .i64 0) := blk_cellv (HS.out.at3) 6 rfl; have hz2964 : w2949.frozen? ⟨g2948, 6, none⟩ = false := blk_fz (HS.out.at3) 6) | ((with_reducible refine gate_store (t := 32) (p := 5) rfl ?_); refine store_event (w1 := (World.setCell (World.setCell (World.setCell (World.setCell (World.setCell (World.setCell (World.setCell w2949 ⟨g2948, 0, none⟩ (.int .i64 t2945.1)) ⟨g2948, 1, none⟩ (.int .i64 t2945.2.1)) ⟨g2948, 2, none⟩ (.int .i64 t2945.2.2.1)) ⟨g2948, 3, none⟩ (.int .i64 t2945.2.2.2.1)) ⟨g2948, 4, none⟩ (.int .i64 t2945.2.2.2.2.1)) ⟨g2948, 5, none⟩ (.int .i64 t2945.2.2.2.2.2.1)) ⟨g2948, 6, none⟩ (.int .i64 t2945.2.2.2.2.2.2.1))) rfl (t := 32) (p := 5) rfl rfl ?hr ?_; (case hr => first | (go_simp; done) | (go_simp; rfl)); intro w2965 hst; clear hc2951 hz2952 hc2953 hz2954 hc2955 hz2956 hc2957 hz2958 hc2959 hz2960 hc2961 hz2962 hc2963 hz2964; replace HS : Aside0 (Sep FF w [b14 g2874 g2876 a2884 a2885 a2886 a2887, b13 g2876 A2879 l2878.length n2881 t2945.2.2.2.2.2.2.2.2, r4 A2879 l2878.length n2881 l2878, b1 g2948 t2945.1 t2945.2.1 t2945.2.2.1 t2945.2.2.2.1 t2945.2.2.2.2.1 t2945.2.2.2.2.2.1 t2945.2.2.2.2.2.2.1] w2965) := ⟨by rw [hst]; exact HS.out.setAll (l1 := [b14 g2874 g2876 a2884 a2885 a2886 a2887, b13 g2876 A2879 l2878.length n2881 t2945.2.2.2.2.2.2.2.2, r4 A2879 l2878.length n2881 l2878]) (l2 := []) [.int .i64 t2945.1, .int .i64 t2945.2.1, .int .i64 t2945.2.2.1, .int .i64 t2945.2.2.2.1, .int .i64 t2945.2.2.2.2.1, .int .i64 t2945.2.2.2.2.2.1, .int .i64 t2945.2.2.2.2.2.2.1] rfl⟩; clear hst; replace HS : Aside0 (Sep FF w [b14 g2874 g2876 a2884 a2885 a2886 a2887, b13 g2876 A2879 l2878.length n2881 t2945.2.2.2.2.2.2.2.2, r4 A2879 l2878.length n2881 l2878] w2965) := ⟨HS.out.sub (.cons_cons _ (.cons_cons _ (.cons_cons _ (.cons _ .slnil))))⟩))
    go_ret
    rw [← some_eq H]
    exact ⟨(by first | rfl | (simp [IntKind.wrap_u32]; done)), ((((HS.out).front 2 (by simp)).front 2 (by simp)).front 2 (by simp)).keep (l := [b14 g2874 g2876 a2884 a2885 a2886 a2887, b13 g2876 A2879 l2878.length n2881 t2945.2.2.2.2.2.2.2.2, r4 A2879 l2878.length n2881 l2878]) (rest := [])⟩

set_option maxHeartbeats 30000000 in
set_option maxRecDepth 100000 in
theorem store_Store_Peek.calls (l3044 : List Int) (a3049 : Int) (a3050 : Int) (g3042 : Nat) (A3045 : Option Addr) (m3046 : Nat) (n3047 : Nat) (r : Int) (w : World)  (HGl0 : Aside0 (Gl 0 #[.int .i64 0, .int .i64 0, .int .i64 0, .int .i64 0, .int .i64 0] (fps [b13 g3042 A3045 m3046 n3047 a3049, r4 A3045 m3046 n3047 l3044]) w)) (HS : Aside0 (Sep (fps [b13 g3042 A3045 m3046 n3047 a3049, r4 A3045 m3046 n3047 l3044]) w [b13 g3042 A3045 m3046 n3047 a3049, r4 A3045 m3046 n3047 l3044] w)) (H : Aside0 (store_Store_Peek.f l3044 a3049 a3050 = some r)) :
    Calls Tryd.prog 73 #[.pointer (some ⟨g3042, 0, none⟩), .int .i64 a3050] w fun e w' => e = .returned (.int .u32 r) ∧ Sep (fps [b13 g3042 A3045 m3046 n3047 a3049, r4 A3045 m3046 n3047 l3044]) w [b13 g3042 A3045 m3046 n3047 a3049, r4 A3045 m3046 n3047 l3044] w' := by
  generalize (fps [b13 g3042 A3045 m3046 n3047 a3049, r4 A3045 m3046 n3047 l3044]) = FF at HS HGl0 ⊢
  obtain rfl := (row_len (HS.out.at1)).symm
  unfold store_Store_Peek.f at H
  go_enter Tryd.func73, Tryd.ntmps73
  go_wp2_with fail
  obtain ⟨t3051, HA3052, H⟩ := bind_some H
  refine (store_Store_has.calls l3044 a3049 a3050 g3042 A3045 l3044.length n3047 t3051 _ ⟨Gl.pass (l := [b13 g3042 A3045 l3044.length n3047 a3049, r4 A3045 l3044.length n3047 l3044]) (rest := []) HGl0.out HS.out⟩ ⟨HS.out.begin (l := [b13 g3042 A3045 l3044.length n3047 a3049, r4 A3045 l3044.length n3047 l3044]) (rest := [])⟩ HA3052).mono ?_
  rintro e_ w3053 ⟨rfl, hS⟩
  replace HS : Aside0 (Sep FF w [b13 g3042 A3045 l3044.length n3047 a3049, r4 A3045 l3044.length n3047 l3044] w3053) := ⟨HS.out.call (l := [b13 g3042 A3045 l3044.length n3047 a3049, r4 A3045 l3044.length n3047 l3044]) (rest := []) hS⟩
  clear hS
  by_cases c3054 : t3051 = true
  · have H := if_yes c3054 H
    have c3054b0 : t3051 = true := c3054
    have c3054b1 : (!t3051) = false := by rw [c3054b0]; rfl
    try rw [c3054b1]
    clear c3054
    by_cases c3056 : 0 ≤ a3050
    · have H := if_yes c3056 H
      have c3056b0 : decide (0 ≤ a3050) = true := decide_eq_true c3056
      have c3056p : (0 ≤ a3050) = True := eq_true c3056
      clear c3056
      by_cases c3057 : a3050 < (l3044.length : Int)
      · have H := if_yes c3057 H
        have c3057b0 : decide (a3050 < (l3044.length : Int)) = true := decide_eq_true c3057
        have c3057p : (a3050 < (l3044.length : Int)) = True := eq_true c3057
        clear c3057
        have hc3055 : w3053.cell? ⟨g3042, 0, none⟩ = some (.slice A3045 l3044.length n3047) := blk_cellv (HS.out.at0) 0 rfl
        obtain ⟨g3058, ea⟩ := row_at (HS.out.at1) (by have := (of_decide_eq_true c3056b0); have := (of_decide_eq_true c3057b0); omega); cases ea
        have hx3059 := C_at_int (row_Ci (HS.out.at1)) a3050 (of_decide_eq_true c3056b0) (of_decide_eq_true c3057b0)
        have hx3060 : w3053.cell? ⟨g3058, (a3050).toNat, none⟩ = some (.int .u32 (rd l3044 a3050)) := (row_get 0 (HS.out.at1) a3050 (of_decide_eq_true c3056b0) (of_decide_eq_true c3057b0)).1
        go_wp2_with fail
        clear hc3055 hx3059 hx3060
        go_ret
        rw [← some_eq H]
        exact ⟨(by first | rfl | (simp [IntKind.wrap_u32]; done)), (((HS.out).front 1 (by simp)).front 1 (by simp)).keep (l := [b13 g3042 (some ⟨g3058, 0, none⟩) l3044.length n3047 a3049, r4 (some ⟨g3058, 0, none⟩) l3044.length n3047 l3044]) (rest := [])⟩
      · have H := if_no c3057 H
        have c3057b0 : decide (a3050 < (l3044.length : Int)) = false := decide_eq_false c3057
        clear c3057
        exact (none_no H).elim
    · have H := if_no c3056 H
      have c3056b0 : decide (0 ≤ a3050) = false := decide_eq_false c3056
      clear c3056
      exact (none_no H).elim
  · have H := if_no c3054 H
    have c3054b0 : t3051 = false := by simpa using c3054
    have c3054b1 : (!t3051) = true := by rw [c3054b0]; rfl
    try rw [c3054b1]
    clear c3054
    go_wp2_with fail
    go_ret
    rw [← some_eq H]
    exact ⟨(by first | rfl | (simp [IntKind.wrap_u32]; done)), (((HS.out).front 1 (by simp)).front 1 (by simp)).keep (l := [b13 g3042 A3045 l3044.length n3047 a3049, r4 A3045 l3044.length n3047 l3044]) (rest := [])⟩

set_option maxHeartbeats 30000000 in
set_option maxRecDepth 100000 in
theorem ground_Ground_SeeReg.calls (l3024 : List Int) (a3029 : Int) (a3030 : Int) (a3031 : Int) (a3032 : Int) (a3033 : Int) (a3034 : Int) (g3020 : Nat) (g3022 : Nat) (A3025 : Option Addr) (m3026 : Nat) (n3027 : Nat) (r : Int) (w : World)  (HGl0 : Aside0 (Gl 0 #[.int .i64 0, .int .i64 0, .int .i64 0, .int .i64 0, .int .i64 0] (fps [b14 g3020 g3022 a3030 a3031 a3032 a3033, b13 g3022 A3025 m3026 n3027 a3029, r4 A3025 m3026 n3027 l3024]) w)) (HS : Aside0 (Sep (fps [b14 g3020 g3022 a3030 a3031 a3032 a3033, b13 g3022 A3025 m3026 n3027 a3029, r4 A3025 m3026 n3027 l3024]) w [b14 g3020 g3022 a3030 a3031 a3032 a3033, b13 g3022 A3025 m3026 n3027 a3029, r4 A3025 m3026 n3027 l3024] w)) (H : Aside0 (ground_Ground_SeeReg.f l3024 a3029 a3030 a3031 a3032 a3033 a3034 = some r)) :
    Calls Tryd.prog 85 #[.pointer (some ⟨g3020, 0, none⟩), .int .i64 a3034] w fun e w' => e = .returned (.int .i64 r) ∧ Sep (fps [b14 g3020 g3022 a3030 a3031 a3032 a3033, b13 g3022 A3025 m3026 n3027 a3029, r4 A3025 m3026 n3027 l3024]) w [b14 g3020 g3022 a3030 a3031 a3032 a3033, b13 g3022 A3025 m3026 n3027 a3029, r4 A3025 m3026 n3027 l3024] w' := by
  generalize (fps [b14 g3020 g3022 a3030 a3031 a3032 a3033, b13 g3022 A3025 m3026 n3027 a3029, r4 A3025 m3026 n3027 l3024]) = FF at HS HGl0 ⊢
  obtain rfl := (row_len (HS.out.at2)).symm
  unfold ground_Ground_SeeReg.f at H
  go_enter Tryd.func85, Tryd.ntmps85
  go_wp2_with fail
  obtain ⟨t3035, HA3036, H⟩ := bind_some H
  refine (ground_Ground_all.calls l3024 a3029 a3030 a3031 a3032 a3033 g3020 g3022 A3025 l3024.length n3027 t3035 _ ⟨Gl.pass (l := [b14 g3020 g3022 a3030 a3031 a3032 a3033, b13 g3022 A3025 l3024.length n3027 a3029, r4 A3025 l3024.length n3027 l3024]) (rest := []) HGl0.out HS.out⟩ ⟨HS.out.begin (l := [b14 g3020 g3022 a3030 a3031 a3032 a3033, b13 g3022 A3025 l3024.length n3027 a3029, r4 A3025 l3024.length n3027 l3024]) (rest := [])⟩ HA3036).mono ?_
  rintro e_ w3037 ⟨rfl, hS⟩
  replace HS : Aside0 (Sep FF w [b14 g3020 g3022 a3030 a3031 a3032 a3033, b13 g3022 A3025 l3024.length n3027 a3029, r4 A3025 l3024.length n3027 l3024] w3037) := ⟨HS.out.call (l := [b14 g3020 g3022 a3030 a3031 a3032 a3033, b13 g3022 A3025 l3024.length n3027 a3029, r4 A3025 l3024.length n3027 l3024]) (rest := []) hS⟩
  clear hS
  go_wp2_with fail
  obtain ⟨t3038, HA3039, H⟩ := bind_some H
  refine (ground_reg.calls a3034 t3038 _ ⟨Gl.pass (l := []) (rest := [b14 g3020 g3022 a3030 a3031 a3032 a3033, b13 g3022 A3025 l3024.length n3027 a3029, r4 A3025 l3024.length n3027 l3024]) HGl0.out HS.out⟩ ⟨HS.out.begin (l := []) (rest := [b14 g3020 g3022 a3030 a3031 a3032 a3033, b13 g3022 A3025 l3024.length n3027 a3029, r4 A3025 l3024.length n3027 l3024])⟩ HA3039).mono ?_
  rintro e_ w3040 ⟨rfl, hS⟩
  replace HS : Aside0 (Sep FF w [b14 g3020 g3022 a3030 a3031 a3032 a3033, b13 g3022 A3025 l3024.length n3027 a3029, r4 A3025 l3024.length n3027 l3024] w3040) := ⟨HS.out.call (l := []) (rest := [b14 g3020 g3022 a3030 a3031 a3032 a3033, b13 g3022 A3025 l3024.length n3027 a3029, r4 A3025 l3024.length n3027 l3024]) hS⟩
  clear hS
  go_wp2_with fail
  replace HS : Aside0 (Sep FF w [r4 A3025 l3024.length n3027 l3024, b14 g3020 g3022 a3030 a3031 a3032 a3033, b13 g3022 A3025 l3024.length n3027 a3029] w3040) := ⟨HS.out.front 2 (by simp)⟩
  replace HS : Aside0 (Sep FF w [b13 g3022 A3025 l3024.length n3027 a3029, r4 A3025 l3024.length n3027 l3024, b14 g3020 g3022 a3030 a3031 a3032 a3033] w3040) := ⟨HS.out.front 2 (by simp)⟩
  obtain ⟨t3061, HA3062, H⟩ := bind_some H
  refine (store_Store_Peek.calls l3024 a3029 t3038 g3022 A3025 l3024.length n3027 t3061 _ ⟨Gl.pass (l := [b13 g3022 A3025 l3024.length n3027 a3029, r4 A3025 l3024.length n3027 l3024]) (rest := [b14 g3020 g3022 a3030 a3031 a3032 a3033]) HGl0.out HS.out⟩ ⟨HS.out.begin (l := [b13 g3022 A3025 l3024.length n3027 a3029, r4 A3025 l3024.length n3027 l3024]) (rest := [b14 g3020 g3022 a3030 a3031 a3032 a3033])⟩ HA3062).mono ?_
  rintro e_ w3063 ⟨rfl, hS⟩
  replace HS : Aside0 (Sep FF w [b13 g3022 A3025 l3024.length n3027 a3029, r4 A3025 l3024.length n3027 l3024, b14 g3020 g3022 a3030 a3031 a3032 a3033] w3063) := ⟨HS.out.call (l := [b13 g3022 A3025 l3024.length n3027 a3029, r4 A3025 l3024.length n3027 l3024]) (rest := [b14 g3020 g3022 a3030 a3031 a3032 a3033]) hS⟩
  clear hS
  go_wp2_with fail
  go_ret
  rw [← some_eq H]
  exact ⟨(by first | rfl | (simp [IntKind.wrap_u32]; done)), ((((HS.out).front 1 (by simp)).front 1 (by simp)).front 2 (by simp)).keep (l := [b14 g3020 g3022 a3030 a3031 a3032 a3033, b13 g3022 A3025 l3024.length n3027 a3029, r4 A3025 l3024.length n3027 l3024]) (rest := [])⟩

set_option maxHeartbeats 30000000 in
set_option maxRecDepth 100000 in
theorem ground_Ground_SeeWord.calls (l3101 : List Int) (a3106 : Int) (a3107 : Int) (a3108 : Int) (a3109 : Int) (a3110 : Int) (a3111 : Int) (a3112 : Int) (g3097 : Nat) (g3099 : Nat) (A3102 : Option Addr) (m3103 : Nat) (n3104 : Nat) (r : Int) (w : World)  (HGl0 : Aside0 (Gl 0 #[.int .i64 0, .int .i64 0, .int .i64 0, .int .i64 0, .int .i64 0] (fps [b14 g3097 g3099 a3107 a3108 a3109 a3110, b13 g3099 A3102 m3103 n3104 a3106, r4 A3102 m3103 n3104 l3101]) w)) (HS : Aside0 (Sep (fps [b14 g3097 g3099 a3107 a3108 a3109 a3110, b13 g3099 A3102 m3103 n3104 a3106, r4 A3102 m3103 n3104 l3101]) w [b14 g3097 g3099 a3107 a3108 a3109 a3110, b13 g3099 A3102 m3103 n3104 a3106, r4 A3102 m3103 n3104 l3101] w)) (H : Aside0 (ground_Ground_SeeWord.f l3101 a3106 a3107 a3108 a3109 a3110 a3111 a3112 = some r)) :
    Calls Tryd.prog 18 #[.pointer (some ⟨g3097, 0, none⟩), .int .i64 a3111, .int .i64 a3112] w fun e w' => e = .returned (.int .u32 r) ∧ Sep (fps [b14 g3097 g3099 a3107 a3108 a3109 a3110, b13 g3099 A3102 m3103 n3104 a3106, r4 A3102 m3103 n3104 l3101]) w [b14 g3097 g3099 a3107 a3108 a3109 a3110, b13 g3099 A3102 m3103 n3104 a3106, r4 A3102 m3103 n3104 l3101] w' := by
  generalize (fps [b14 g3097 g3099 a3107 a3108 a3109 a3110, b13 g3099 A3102 m3103 n3104 a3106, r4 A3102 m3103 n3104 l3101]) = FF at HS HGl0 ⊢
  obtain rfl := (row_len (HS.out.at2)).symm
  unfold ground_Ground_SeeWord.f at H
  go_enter Tryd.func18, Tryd.ntmps18
  go_wp2_with fail
  obtain ⟨t3113, HA3114, H⟩ := bind_some H
  refine (ground_Ground_all.calls l3101 a3106 a3107 a3108 a3109 a3110 g3097 g3099 A3102 l3101.length n3104 t3113 _ ⟨Gl.pass (l := [b14 g3097 g3099 a3107 a3108 a3109 a3110, b13 g3099 A3102 l3101.length n3104 a3106, r4 A3102 l3101.length n3104 l3101]) (rest := []) HGl0.out HS.out⟩ ⟨HS.out.begin (l := [b14 g3097 g3099 a3107 a3108 a3109 a3110, b13 g3099 A3102 l3101.length n3104 a3106, r4 A3102 l3101.length n3104 l3101]) (rest := [])⟩ HA3114).mono ?_
  rintro e_ w3115 ⟨rfl, hS⟩
  replace HS : Aside0 (Sep FF w [b14 g3097 g3099 a3107 a3108 a3109 a3110, b13 g3099 A3102 l3101.length n3104 a3106, r4 A3102 l3101.length n3104 l3101] w3115) := ⟨HS.out.call (l := [b14 g3097 g3099 a3107 a3108 a3109 a3110, b13 g3099 A3102 l3101.length n3104 a3106, r4 A3102 l3101.length n3104 l3101]) (rest := []) hS⟩
  clear hS
  go_wp2_with fail
  obtain ⟨t3116, HA3117, H⟩ := bind_some H
  refine (ground_Ground_word.calls l3101 a3106 a3107 a3108 a3109 a3110 a3111 a3112 g3097 g3099 A3102 l3101.length n3104 t3116 _ ⟨Gl.pass (l := [b14 g3097 g3099 a3107 a3108 a3109 a3110, b13 g3099 A3102 l3101.length n3104 a3106, r4 A3102 l3101.length n3104 l3101]) (rest := []) HGl0.out HS.out⟩ ⟨HS.out.begin (l := [b14 g3097 g3099 a3107 a3108 a3109 a3110, b13 g3099 A3102 l3101.length n3104 a3106, r4 A3102 l3101.length n3104 l3101]) (rest := [])⟩ HA3117).mono ?_
  rintro e_ w3118 ⟨rfl, hS⟩
  replace HS : Aside0 (Sep FF w [b14 g3097 g3099 a3107 a3108 a3109 a3110, b13 g3099 A3102 l3101.length n3104 a3106, r4 A3102 l3101.length n3104 l3101] w3118) := ⟨HS.out.call (l := [b14 g3097 g3099 a3107 a3108 a3109 a3110, b13 g3099 A3102 l3101.length n3104 a3106, r4 A3102 l3101.length n3104 l3101]) (rest := []) hS⟩
  clear hS
  go_wp2_with fail
  replace HS : Aside0 (Sep FF w [r4 A3102 l3101.length n3104 l3101, b14 g3097 g3099 a3107 a3108 a3109 a3110, b13 g3099 A3102 l3101.length n3104 a3106] w3118) := ⟨HS.out.front 2 (by simp)⟩
  replace HS : Aside0 (Sep FF w [b13 g3099 A3102 l3101.length n3104 a3106, r4 A3102 l3101.length n3104 l3101, b14 g3097 g3099 a3107 a3108 a3109 a3110] w3118) := ⟨HS.out.front 2 (by simp)⟩
  obtain ⟨t3119, HA3120, H⟩ := bind_some H
  refine (store_Store_Peek.calls l3101 a3106 t3116 g3099 A3102 l3101.length n3104 t3119 _ ⟨Gl.pass (l := [b13 g3099 A3102 l3101.length n3104 a3106, r4 A3102 l3101.length n3104 l3101]) (rest := [b14 g3097 g3099 a3107 a3108 a3109 a3110]) HGl0.out HS.out⟩ ⟨HS.out.begin (l := [b13 g3099 A3102 l3101.length n3104 a3106, r4 A3102 l3101.length n3104 l3101]) (rest := [b14 g3097 g3099 a3107 a3108 a3109 a3110])⟩ HA3120).mono ?_
  rintro e_ w3121 ⟨rfl, hS⟩
  replace HS : Aside0 (Sep FF w [b13 g3099 A3102 l3101.length n3104 a3106, r4 A3102 l3101.length n3104 l3101, b14 g3097 g3099 a3107 a3108 a3109 a3110] w3121) := ⟨HS.out.call (l := [b13 g3099 A3102 l3101.length n3104 a3106, r4 A3102 l3101.length n3104 l3101]) (rest := [b14 g3097 g3099 a3107 a3108 a3109 a3110]) hS⟩
  clear hS
  go_wp2_with fail
  go_ret
  rw [← some_eq H]
  exact ⟨(by first | rfl | (simp [IntKind.wrap_u32]; done)), ((((HS.out).front 1 (by simp)).front 1 (by simp)).front 2 (by simp)).keep (l := [b14 g3097 g3099 a3107 a3108 a3109 a3110, b13 g3099 A3102 l3101.length n3104 a3106, r4 A3102 l3101.length n3104 l3101]) (rest := [])⟩

set_option maxHeartbeats 30000000 in
set_option maxRecDepth 100000 in
theorem ring_List.calls (k : Nat) (l3009 : List Int) (a3014 : Int) (a3015 : Int) (a3016 : Int) (a3017 : Int) (a3018 : Int) (g3005 : Nat) (g3007 : Nat) (A3010 : Option Addr) (m3011 : Nat) (n3012 : Nat) (r : List Int) (w : World)  (HGl0 : Aside0 (Gl 0 #[.int .i64 0, .int .i64 0, .int .i64 0, .int .i64 0, .int .i64 0] (fps [b14 g3005 g3007 a3015 a3016 a3017 a3018, b13 g3007 A3010 m3011 n3012 a3014, r4 A3010 m3011 n3012 l3009]) w)) (HS : Aside0 (Sep (fps [b14 g3005 g3007 a3015 a3016 a3017 a3018, b13 g3007 A3010 m3011 n3012 a3014, r4 A3010 m3011 n3012 l3009]) w [b14 g3005 g3007 a3015 a3016 a3017 a3018, b13 g3007 A3010 m3011 n3012 a3014, r4 A3010 m3011 n3012 l3009] w)) (H : Aside0 (ring_List.f k l3009 a3014 a3015 a3016 a3017 a3018 = some r)) :
    Calls Tryd.prog 28 #[.pointer (some ⟨g3005, 0, none⟩)] w fun e w' => ∃ (A3145 : Option Addr) (m3146 : Nat) (n3147 : Nat), e = .returned (.slice A3145 m3146 n3147) ∧ Sep (fps [b14 g3005 g3007 a3015 a3016 a3017 a3018, b13 g3007 A3010 m3011 n3012 a3014, r4 A3010 m3011 n3012 l3009]) w [b14 g3005 g3007 a3015 a3016 a3017 a3018, b13 g3007 A3010 m3011 n3012 a3014, r4 A3010 m3011 n3012 l3009, r8 A3145 m3146 n3147 r] w' := by
  generalize (fps [b14 g3005 g3007 a3015 a3016 a3017 a3018, b13 g3007 A3010 m3011 n3012 a3014, r4 A3010 m3011 n3012 l3009]) = FF at HS HGl0 ⊢
  obtain rfl := (row_len (HS.out.at2)).symm
  unfold ring_List.f at H
  go_enter Tryd.func28, Tryd.ntmps28
  go_wp2_with fail
  obtain ⟨t3064, HA3065, H⟩ := bind_some H
  refine (ground_Ground_SeeReg.calls l3009 a3014 a3015 a3016 a3017 a3018 7 g3005 g3007 A3010 l3009.length n3012 t3064 _ ⟨Gl.pass (l := [b14 g3005 g3007 a3015 a3016 a3017 a3018, b13 g3007 A3010 l3009.length n3012 a3014, r4 A3010 l3009.length n3012 l3009]) (rest := []) HGl0.out HS.out⟩ ⟨HS.out.begin (l := [b14 g3005 g3007 a3015 a3016 a3017 a3018, b13 g3007 A3010 l3009.length n3012 a3014, r4 A3010 l3009.length n3012 l3009]) (rest := [])⟩ HA3065).mono ?_
  rintro e_ w3066 ⟨rfl, hS⟩
  replace HS : Aside0 (Sep FF w [b14 g3005 g3007 a3015 a3016 a3017 a3018, b13 g3007 A3010 l3009.length n3012 a3014, r4 A3010 l3009.length n3012 l3009] w3066) := ⟨HS.out.call (l := [b14 g3005 g3007 a3015 a3016 a3017 a3018, b13 g3007 A3010 l3009.length n3012 a3014, r4 A3010 l3009.length n3012 l3009]) (rest := []) hS⟩
  clear hS
  go_wp2_with fail
  replace HS : Aside0 (Sep FF w [r8 none 0 0 [], b14 g3005 g3007 a3015 a3016 a3017 a3018, b13 g3007 A3010 l3009.length n3012 a3014, r4 A3010 l3009.length n3012 l3009] w3066) := ⟨HS.out.nilrow 3 (Value.int .i64)⟩
  obtain ⟨o3068, AL3069, H⟩ := bind_some H
  go_loopg [3, 4] k (fun kq v3 v4 wc => ∃ (x3074 : Int) (x3075 : List Int) (A3076 : Option Addr) (m3077 : Nat) (n3078 : Nat), v3 = .slice A3076 m3077 n3078 ∧ v4 = .int .i64 x3074 ∧ Aside0 (ring_List.lo0 kq l3009 a3014 a3015 a3016 a3017 a3018 x3074 x3075 = some o3068) ∧ Aside0 (Sep FF w [r8 A3076 m3077 n3078 x3075, b14 g3005 g3007 a3015 a3016 a3017 a3018, b13 g3007 A3010 l3009.length n3012 a3014, r4 A3010 l3009.length n3012 l3009] wc))
  case atStart => exact ⟨(t3064), (([] : List Int)), (none), (0), (0), (by first | rfl | (simp [IntKind.wrap_u32]; done)), (by first | rfl | (simp [IntKind.wrap_u32]; done)), AL3069, ⟨HS.out⟩⟩
  case round =>
    clear AL3069 HS
    obtain ⟨x3074, x3075, A3076, m3077, n3078, rfl, rfl, AL3069, HS⟩ := hrel
    obtain ⟨w3070, rfl⟩ : ∃ x : World, x = wr := ⟨_, rfl⟩
    obtain rfl := (row_len (HS.out.at0)).symm
    cases gk with
    | zero => exact absurd AL3069.out (by simp [ring_List.lo0])
    | succ k3071 =>
      have AL0 := AL3069.out
      rw [ring_List.lo0] at AL0
      clear AL3069
      have AL3069 := Aside0.mk AL0
      clear AL0
      by_cases c3080 : x3074 > 0
      · have AL3069 := if_yes c3080 AL3069
        have c3080b0 : decide (0 < x3074) = true := decide_eq_true c3080
        clear c3080
        go_wp2_with fail
        replace HS : Aside0 (Sep FF w [r4 A3010 l3009.length n3012 l3009, r8 A3076 x3075.length n3078 x3075, b14 g3005 g3007 a3015 a3016 a3017 a3018, b13 g3007 A3010 l3009.length n3012 a3014] w3070) := ⟨HS.out.front 3 (by simp)⟩
        replace HS : Aside0 (Sep FF w [b13 g3007 A3010 l3009.length n3012 a3014, r4 A3010 l3009.length n3012 l3009, r8 A3076 x3075.length n3078 x3075, b14 g3005 g3007 a3015 a3016 a3017 a3018] w3070) := ⟨HS.out.front 3 (by simp)⟩
        replace HS : Aside0 (Sep FF w [b14 g3005 g3007 a3015 a3016 a3017 a3018, b13 g3007 A3010 l3009.length n3012 a3014, r4 A3010 l3009.length n3012 l3009, r8 A3076 x3075.length n3078 x3075] w3070) := ⟨HS.out.front 3 (by simp)⟩
        obtain ⟨t3081, HA3082, AL3069⟩ := bind_some AL3069
        refine (ground_Ground_Conf.calls l3009 a3014 a3015 a3016 a3017 a3018 g3005 g3007 A3010 l3009.length n3012 t3081 _ ⟨Gl.pass (l := [b14 g3005 g3007 a3015 a3016 a3017 a3018, b13 g3007 A3010 l3009.length n3012 a3014, r4 A3010 l3009.length n3012 l3009]) (rest := [r8 A3076 x3075.length n3078 x3075]) HGl0.out HS.out⟩ ⟨HS.out.begin (l := [b14 g3005 g3007 a3015 a3016 a3017 a3018, b13 g3007 A3010 l3009.length n3012 a3014, r4 A3010 l3009.length n3012 l3009]) (rest := [r8 A3076 x3075.length n3078 x3075])⟩ HA3082).mono ?_
        rintro e_ w3083 ⟨rfl, hS⟩
        replace HS : Aside0 (Sep FF w [b14 g3005 g3007 a3015 a3016 a3017 a3018, b13 g3007 A3010 l3009.length n3012 a3014, r4 A3010 l3009.length n3012 l3009, r8 A3076 x3075.length n3078 x3075] w3083) := ⟨HS.out.call (l := [b14 g3005 g3007 a3015 a3016 a3017 a3018, b13 g3007 A3010 l3009.length n3012 a3014, r4 A3010 l3009.length n3012 l3009]) (rest := [r8 A3076 x3075.length n3078 x3075]) hS⟩
        clear hS
        by_cases c3085 : (x3075.length : Int) < t3081.1
        · have AL3069 := if_yes c3085 AL3069
          have c3085b0 : decide ((x3075.length : Int) < t3081.1) = true := decide_eq_true c3085
          clear c3085
          by_cases c3089 : x3075.length < 17592186044416
          · have AL3069 := if_yes c3089 AL3069
            have c3089b0 : decide (x3075.length < 17592186044416) = true := decide_eq_true c3089
            clear c3089
            obtain ⟨y3093, HA3094, AL3069⟩ := bind_some AL3069
            have fl3084 : ∀ w, (Instr.field 30 (.agg #[.int .i64 t3081.1, .int .i64 t3081.2.1, .int .i64 t3081.2.2.1, .int .i64 t3081.2.2.2]) 0).run Tryd.prog w = .ok (.int .i64 t3081.1) w := fun _ => by kernel_rfl
            go_wp2_with (first | ((with_reducible refine gate_dst (N := 27) rfl ?_); refine slice_on (n := 1) ?hg (N := 27) ?hd (cs := #[.int .i64 (wrap64 (x3074 - 1))]) (t := 3) ?hr ?_; (case hd => rfl); (case hg => rfl); (case hr => first | (go_simp; done) | (go_simp; rfl)); intro g3086 hg w3087 hbox hb; clear fl3084; replace HS : Aside0 (Sep FF w [b14 g3005 g3007 a3015 a3016 a3017 a3018, b13 g3007 A3010 l3009.length n3012 a3014, r4 A3010 l3009.length n3012 l3009, r8 A3076 x3075.length n3078 x3075, b15 g3086 (wrap64 (x3074 - 1))] w3087) := ⟨HS.out.box hg hbox hb⟩; clear hg hbox hb) | ((with_reducible refine gate_dst (N := 28) rfl ?_); refine append_event (l1 := [b14 g3005 g3007 a3015 a3016 a3017 a3018, b13 g3007 A3010 l3009.length n3012 a3014, r4 A3010 l3009.length n3012 l3009]) (l2 := [b15 g3086 (wrap64 (x3074 - 1))]) rfl (.tmp 24) (.tmp 27) 49 3 (.int .i64 0) 8 rfl Tryd.underlying49 (by kernel_rfl) rfl (by decide) (Value.int .i64) (fun _ => rfl) (.slice A3076 x3075.length n3078) (x3075 : List Int) [wrap64 (x3074 - 1)] ⟨g3086, 0, none⟩ 1 rfl rfl (blk_news (xs := [wrap64 (x3074 - 1)]) (HS.out.at4)) HS.out (by have := of_decide_eq_true c3089b0; simp only [List.length_cons, List.length_nil]; omega) HA3094 ?_; intro A3090 n3091 w3092 HS1; replace HS : Aside0 (Sep FF w [b14 g3005 g3007 a3015 a3016 a3017 a3018, b13 g3007 A3010 l3009.length n3012 a3014, r4 A3010 l3009.length n3012 l3009, r8 A3090 y3093.length n3091 y3093, b15 g3086 (wrap64 (x3074 - 1))] w3092) := ⟨HS1⟩; clear HS1; replace HS : Aside0 (Sep FF w [b14 g3005 g3007 a3015 a3016 a3017 a3018, b13 g3007 A3010 l3009.length n3012 a3014, r4 A3010 l3009.length n3012 l3009, r8 A3090 y3093.length n3091 y3093] w3092) := ⟨HS.out.sub (.cons_cons _ (.cons_cons _ (.cons_cons _ (.cons_cons _ (.cons _ .slnil)))))⟩))
            obtain ⟨t3122, HA3123, AL3069⟩ := bind_some AL3069
            refine (ground_Ground_SeeWord.calls l3009 a3014 a3015 a3016 a3017 a3018 (wrap64 (x3074 - 1)) 7 g3005 g3007 A3010 l3009.length n3012 t3122 _ ⟨Gl.pass (l := [b14 g3005 g3007 a3015 a3016 a3017 a3018, b13 g3007 A3010 l3009.length n3012 a3014, r4 A3010 l3009.length n3012 l3009]) (rest := [r8 A3090 y3093.length n3091 y3093]) HGl0.out HS.out⟩ ⟨HS.out.begin (l := [b14 g3005 g3007 a3015 a3016 a3017 a3018, b13 g3007 A3010 l3009.length n3012 a3014, r4 A3010 l3009.length n3012 l3009]) (rest := [r8 A3090 y3093.length n3091 y3093])⟩ HA3123).mono ?_
            rintro e_ w3124 ⟨rfl, hS⟩
            replace HS : Aside0 (Sep FF w [b14 g3005 g3007 a3015 a3016 a3017 a3018, b13 g3007 A3010 l3009.length n3012 a3014, r4 A3010 l3009.length n3012 l3009, r8 A3090 y3093.length n3091 y3093] w3124) := ⟨HS.out.call (l := [b14 g3005 g3007 a3015 a3016 a3017 a3018, b13 g3007 A3010 l3009.length n3012 a3014, r4 A3010 l3009.length n3012 l3009]) (rest := [r8 A3090 y3093.length n3091 y3093]) hS⟩
            clear hS
            go_wp2_with fail
            go_roundg k3071
            case measure => exact Nat.lt_succ_self _
            case rel => exact ⟨(wrap64 (t3122)), (y3093), (A3090), (y3093.length), (n3091), (by first | rfl | (simp [IntKind.wrap_u32]; done)), (by first | rfl | (simp [IntKind.wrap_u32]; done)), Aside0.mk AL3069.out, ⟨(((((HS.out).front 2 (by simp)).front 2 (by simp)).front 2 (by simp)).front 3 (by simp)).keep (l := [r8 A3090 y3093.length n3091 y3093, b14 g3005 g3007 a3015 a3016 a3017 a3018, b13 g3007 A3010 l3009.length n3012 a3014, r4 A3010 l3009.length n3012 l3009]) (rest := [])⟩⟩
          · have AL3069 := if_no c3089 AL3069
            have c3089b0 : decide (x3075.length < 17592186044416) = false := decide_eq_false c3089
            clear c3089
            exact (none_no AL3069).elim
        · have AL3069 := if_no c3085 AL3069
          have c3085b0 : decide ((x3075.length : Int) < t3081.1) = false := decide_eq_false c3085
          clear c3085
          have ho := some_eq AL3069
          subst ho
          clear AL3069
          have fl3084 : ∀ w, (Instr.field 30 (.agg #[.int .i64 t3081.1, .int .i64 t3081.2.1, .int .i64 t3081.2.2.1, .int .i64 t3081.2.2.2]) 0).run Tryd.prog w = .ok (.int .i64 t3081.1) w := fun _ => by kernel_rfl
          go_wp2_with fail
          clear fl3084
          go_ret
          rw [← some_eq H]
          exact ⟨A3076, x3075.length, n3078, (by first | rfl | (simp [IntKind.wrap_u32]; done)), (((((HS.out).front 3 (by simp)).front 3 (by simp)).front 3 (by simp)).front 3 (by simp)).keep (l := [b14 g3005 g3007 a3015 a3016 a3017 a3018, b13 g3007 A3010 l3009.length n3012 a3014, r4 A3010 l3009.length n3012 l3009, r8 A3076 x3075.length n3078 x3075]) (rest := [])⟩
      · have AL3069 := if_no c3080 AL3069
        have c3080b0 : decide (0 < x3074) = false := decide_eq_false c3080
        clear c3080
        have ho := some_eq AL3069
        subst ho
        clear AL3069
        go_wp2_with fail
        go_ret
        rw [← some_eq H]
        exact ⟨A3076, x3075.length, n3078, (by first | rfl | (simp [IntKind.wrap_u32]; done)), ((((HS.out).front 3 (by simp)).front 3 (by simp)).front 3 (by simp)).keep (l := [b14 g3005 g3007 a3015 a3016 a3017 a3018, b13 g3007 A3010 l3009.length n3012 a3014, r4 A3010 l3009.length n3012 l3009, r8 A3076 x3075.length n3078 x3075]) (rest := [])⟩

set_option maxHeartbeats 30000000 in
set_option maxRecDepth 100000 in
theorem quitrentlaw09_begun.calls (k : Nat)  (r : Bool) (w : World)  (HGl0 : Aside0 (Gl 0 #[.int .i64 0, .int .i64 0, .int .i64 0, .int .i64 0, .int .i64 0] (fps []) w)) (HS : Aside0 (Sep (fps []) w [] w)) (H : Aside0 (quitrentlaw09_begun.f k = some r)) :
    Calls Tryd.prog 21 #[] w fun e w' => e = .returned (.bool r) ∧ Sep (fps []) w [] w' := by
  unfold quitrentlaw09_begun.f at H
  go_enter Tryd.func21, Tryd.ntmps21
  go_wp2_with (first | ((with_reducible refine gate_dst (N := 4) rfl ?_); refine slice_on (n := 6) ?hg (N := 4) ?hd (cs := #[.int .u8 1, .int .u8 1, .int .u8 1, .int .u8 1, .int .u8 1, .int .u8 2]) (t := 5) ?hr ?_; (case hd => rfl); (case hg => rfl); (case hr => first | (go_simp; done) | (go_simp; rfl)); intro g695 hg w696 hbox hb; replace HS : Aside0 (Sep (fps []) w [b9 g695 1 1 1 1 1 2] w696) := ⟨HS.out.box hg hbox hb⟩; clear hg hbox hb))
  obtain ⟨t2035, HA2036, H⟩ := bind_some H
  rcases t2035 with t2037 | t2038
  · have H := sum_l H
    refine (quitrentlaw09_made.calls _ [1, 1, 1, 1, 1, 2] (some ⟨g695, 0, none⟩) 6 (.inl t2037) _ ⟨Rd.lit (l := []) (rest := [b9 g695 1 1 1 1 1 2]) (xs := [1, 1, 1, 1, 1, 2]) HS.out 0 rfl (by simp)⟩ ⟨Gl.pass (l := []) (rest := [b9 g695 1 1 1 1 1 2]) HGl0.out HS.out⟩ ⟨HS.out.begin (l := []) (rest := [b9 g695 1 1 1 1 1 2])⟩ HA2036).mono ?_
    rintro e_ w2039 ⟨rfl, hS⟩
    replace HS : Aside0 (Sep (fps []) w [b9 g695 1 1 1 1 1 2] w2039) := ⟨HS.out.call (l := []) (rest := [b9 g695 1 1 1 1 1 2]) hS⟩
    clear hS
    by_cases c2040 : t2037 = true
    · have H := if_yes c2040 H
      have c2040b0 : t2037 = true := c2040
      have c2040b1 : (!t2037) = false := by rw [c2040b0]; rfl
      try rw [c2040b1]
      clear c2040
      replace HS : Aside0 (Sep (fps []) w [] w2039) := ⟨HS.out.sub (.cons _ .slnil)⟩
      go_wp2_with fail
      obtain ⟨t2041, HA2042, H⟩ := bind_some H
      refine (ring_Add_nil.calls _ 3 t2041 _ ⟨Gl.pass (l := []) (rest := []) HGl0.out HS.out⟩ ⟨HS.out.begin (l := []) (rest := [])⟩ HA2042).mono ?_
      rintro e_ w2043 ⟨rfl, hS⟩
      replace HS : Aside0 (Sep (fps []) w [] w2043) := ⟨HS.out.call (l := []) (rest := []) hS⟩
      clear hS
      by_cases c2044 : t2041 = true
      · have H := if_yes c2044 H
        have c2044b0 : t2041 = true := c2044
        have c2044b1 : (!t2041) = false := by rw [c2044b0]; rfl
        try rw [c2044b1]
        clear c2044
        go_wp2_with fail
        obtain ⟨t2045, HA2046, H⟩ := bind_some H
        refine (ring_Add_nil.calls _ 1 t2045 _ ⟨Gl.pass (l := []) (rest := []) HGl0.out HS.out⟩ ⟨HS.out.begin (l := []) (rest := [])⟩ HA2046).mono ?_
        rintro e_ w2047 ⟨rfl, hS⟩
        replace HS : Aside0 (Sep (fps []) w [] w2047) := ⟨HS.out.call (l := []) (rest := []) hS⟩
        clear hS
        by_cases c2048 : t2045 = true
        · have H := if_yes c2048 H
          have c2048b0 : t2045 = true := c2048
          have c2048b1 : (!t2045) = false := by rw [c2048b0]; rfl
          try rw [c2048b1]
          clear c2048
          go_wp2_with fail
          obtain ⟨t2049, HA2050, H⟩ := bind_some H
          refine (ring_Add_nil.calls _ 5 t2049 _ ⟨Gl.pass (l := []) (rest := []) HGl0.out HS.out⟩ ⟨HS.out.begin (l := []) (rest := [])⟩ HA2050).mono ?_
          rintro e_ w2051 ⟨rfl, hS⟩
          replace HS : Aside0 (Sep (fps []) w [] w2051) := ⟨HS.out.call (l := []) (rest := []) hS⟩
          clear hS
          by_cases c2052 : t2049 = true
          · have H := if_yes c2052 H
            have c2052b0 : t2049 = true := c2052
            have c2052b1 : (!t2049) = false := by rw [c2052b0]; rfl
            try rw [c2052b1]
            clear c2052
            go_wp2_with fail
            obtain ⟨t2053, HA2054, H⟩ := bind_some H
            refine (ring_Cut_nil.calls _ 1 t2053 _ ⟨Gl.pass (l := []) (rest := []) HGl0.out HS.out⟩ ⟨HS.out.begin (l := []) (rest := [])⟩ HA2054).mono ?_
            rintro e_ w2055 ⟨rfl, hS⟩
            replace HS : Aside0 (Sep (fps []) w [] w2055) := ⟨HS.out.call (l := []) (rest := []) hS⟩
            clear hS
            by_cases c2056 : t2053 = true
            · have H := if_yes c2056 H
              have c2056b0 : t2053 = true := c2056
              have c2056b1 : (!t2053) = false := by rw [c2056b0]; rfl
              try rw [c2056b1]
              clear c2056
              go_wp2_with fail
              obtain ⟨t2057, HA2058, H⟩ := bind_some H
              refine (ring_List_nil.calls t2057 _ ⟨Gl.pass (l := []) (rest := []) HGl0.out HS.out⟩ ⟨HS.out.begin (l := []) (rest := [])⟩ HA2058).mono ?_
              rintro e_ w2059 ⟨A2061, m2062, n2063, rfl, hS⟩
              replace HS : Aside0 (Sep (fps []) w [r8 A2061 m2062 n2063 t2057] w2059) := ⟨HS.out.call (l := []) (rest := []) hS⟩
              clear hS
              obtain rfl := (row_len (HS.out.at0)).symm
              go_wp2_with (first | ((with_reducible refine gate_dst (N := 32) rfl ?_); refine slice_on (n := 2) ?hg (N := 32) ?hd (cs := #[.int .i64 3, .int .i64 5]) (t := 3) ?hr ?_; (case hd => rfl); (case hg => rfl); (case hr => first | (go_simp; done) | (go_simp; rfl)); intro g2065 hg w2066 hbox hb; replace HS : Aside0 (Sep (fps []) w [r8 A2061 t2057.length n2063 t2057, b11 g2065 3 5] w2066) := ⟨HS.out.box hg hbox hb⟩; clear hg hbox hb))
              obtain ⟨t2107, HA2108, H⟩ := bind_some H
              refine (quitrentref01_Ints.calls _ t2057 [3, 5] A2061 n2063 (some ⟨g2065, 0, none⟩) 2 t2107 _ ⟨Rd.ownI (l := []) (rest := [r8 A2061 t2057.length n2063 t2057, b11 g2065 3 5]) HS.out 0 rfl⟩ ⟨Rd.lit (l := []) (rest := [r8 A2061 t2057.length n2063 t2057, b11 g2065 3 5]) (xs := [3, 5]) HS.out 1 rfl (by simp)⟩ ⟨Gl.pass (l := []) (rest := [r8 A2061 t2057.length n2063 t2057, b11 g2065 3 5]) HGl0.out HS.out⟩ ⟨HS.out.begin (l := []) (rest := [r8 A2061 t2057.length n2063 t2057, b11 g2065 3 5])⟩ HA2108).mono ?_
              rintro e_ w2109 ⟨rfl, hS⟩
              replace HS : Aside0 (Sep (fps []) w [r8 A2061 t2057.length n2063 t2057, b11 g2065 3 5] w2109) := ⟨HS.out.call (l := []) (rest := [r8 A2061 t2057.length n2063 t2057, b11 g2065 3 5]) hS⟩
              clear hS
              by_cases c2110 : t2107 = true
              · have H := if_yes c2110 H
                have c2110b0 : t2107 = true := c2110
                have c2110b1 : (!t2107) = false := by rw [c2110b0]; rfl
                clear c2110
                go_wp2_with fail
                obtain ⟨t2127, HA2128, H⟩ := bind_some H
                refine (ground_Ground_SeeWord_nil.calls 3 7 t2127 _ ⟨Gl.pass (l := []) (rest := [r8 A2061 t2057.length n2063 t2057, b11 g2065 3 5]) HGl0.out HS.out⟩ ⟨HS.out.begin (l := []) (rest := [r8 A2061 t2057.length n2063 t2057, b11 g2065 3 5])⟩ HA2128).mono ?_
                rintro e_ w2129 ⟨rfl, hS⟩
                replace HS : Aside0 (Sep (fps []) w [r8 A2061 t2057.length n2063 t2057, b11 g2065 3 5] w2129) := ⟨HS.out.call (l := []) (rest := [r8 A2061 t2057.length n2063 t2057, b11 g2065 3 5]) hS⟩
                clear hS
                by_cases c2130 : t2127 = 6
                · have H := if_yes c2130 H
                  have c2130b0 : (t2127 == 6) = true := beq_iff_eq.mpr c2130
                  have c2130b1 : (t2127 != 6) = false := bne_eq_false_iff_eq.mpr c2130
                  clear c2130
                  go_wp2_with fail
                  obtain ⟨t2131, HA2132, H⟩ := bind_some H
                  refine (ground_Ground_SeeWord_nil.calls 5 6 t2131 _ ⟨Gl.pass (l := []) (rest := [r8 A2061 t2057.length n2063 t2057, b11 g2065 3 5]) HGl0.out HS.out⟩ ⟨HS.out.begin (l := []) (rest := [r8 A2061 t2057.length n2063 t2057, b11 g2065 3 5])⟩ HA2132).mono ?_
                  rintro e_ w2133 ⟨rfl, hS⟩
                  replace HS : Aside0 (Sep (fps []) w [r8 A2061 t2057.length n2063 t2057, b11 g2065 3 5] w2133) := ⟨HS.out.call (l := []) (rest := [r8 A2061 t2057.length n2063 t2057, b11 g2065 3 5]) hS⟩
                  clear hS
                  replace HS : Aside0 (Sep (fps []) w [] w2133) := ⟨HS.out.sub (.cons _ (.cons _ .slnil))⟩
                  go_wp2_with fail
                  go_ret
                  rw [← some_eq H]
                  exact ⟨(by first | rfl | (simp [IntKind.wrap_u32]; done)), (HS.out).keep (l := []) (rest := [])⟩
                · have H := if_no c2130 H
                  have c2130b0 : (t2127 == 6) = false := beq_eq_false_iff_ne.mpr c2130
                  have c2130b1 : (t2127 != 6) = true := bne_iff_ne.mpr c2130
                  clear c2130
                  replace HS : Aside0 (Sep (fps []) w [] w2129) := ⟨HS.out.sub (.cons _ (.cons _ .slnil))⟩
                  go_wp2_with fail
                  go_ret
                  rw [← some_eq H]
                  exact ⟨(by first | rfl | (simp [IntKind.wrap_u32]; done)), (HS.out).keep (l := []) (rest := [])⟩
              · have H := if_no c2110 H
                have c2110b0 : t2107 = false := by simpa using c2110
                have c2110b1 : (!t2107) = true := by rw [c2110b0]; rfl
                clear c2110
                replace HS : Aside0 (Sep (fps []) w [] w2109) := ⟨HS.out.sub (.cons _ (.cons _ .slnil))⟩
                go_wp2_with fail
                go_ret
                rw [← some_eq H]
                exact ⟨(by first | rfl | (simp [IntKind.wrap_u32]; done)), (HS.out).keep (l := []) (rest := [])⟩
            · have H := if_no c2056 H
              have c2056b0 : t2053 = false := by simpa using c2056
              have c2056b1 : (!t2053) = true := by rw [c2056b0]; rfl
              try rw [c2056b1]
              clear c2056
              go_wp2_with fail
              go_ret
              rw [← some_eq H]
              exact ⟨(by first | rfl | (simp [IntKind.wrap_u32]; done)), (HS.out).keep (l := []) (rest := [])⟩
          · have H := if_no c2052 H
            have c2052b0 : t2049 = false := by simpa using c2052
            have c2052b1 : (!t2049) = true := by rw [c2052b0]; rfl
            try rw [c2052b1]
            clear c2052
            go_wp2_with fail
            go_ret
            rw [← some_eq H]
            exact ⟨(by first | rfl | (simp [IntKind.wrap_u32]; done)), (HS.out).keep (l := []) (rest := [])⟩
        · have H := if_no c2048 H
          have c2048b0 : t2045 = false := by simpa using c2048
          have c2048b1 : (!t2045) = true := by rw [c2048b0]; rfl
          try rw [c2048b1]
          clear c2048
          go_wp2_with fail
          go_ret
          rw [← some_eq H]
          exact ⟨(by first | rfl | (simp [IntKind.wrap_u32]; done)), (HS.out).keep (l := []) (rest := [])⟩
      · have H := if_no c2044 H
        have c2044b0 : t2041 = false := by simpa using c2044
        have c2044b1 : (!t2041) = true := by rw [c2044b0]; rfl
        try rw [c2044b1]
        clear c2044
        go_wp2_with fail
        go_ret
        rw [← some_eq H]
        exact ⟨(by first | rfl | (simp [IntKind.wrap_u32]; done)), (HS.out).keep (l := []) (rest := [])⟩
    · have H := if_no c2040 H
      have c2040b0 : t2037 = false := by simpa using c2040
      have c2040b1 : (!t2037) = true := by rw [c2040b0]; rfl
      try rw [c2040b1]
      clear c2040
      replace HS : Aside0 (Sep (fps []) w [] w2039) := ⟨HS.out.sub (.cons _ .slnil)⟩
      go_wp2_with fail
      go_ret
      rw [← some_eq H]
      exact ⟨(by first | rfl | (simp [IntKind.wrap_u32]; done)), (HS.out).keep (l := []) (rest := [])⟩
  · have H := sum_r H
    refine (quitrentlaw09_made.calls _ [1, 1, 1, 1, 1, 2] (some ⟨g695, 0, none⟩) 6 (.inr t2038) _ ⟨Rd.lit (l := []) (rest := [b9 g695 1 1 1 1 1 2]) (xs := [1, 1, 1, 1, 1, 2]) HS.out 0 rfl (by simp)⟩ ⟨Gl.pass (l := []) (rest := [b9 g695 1 1 1 1 1 2]) HGl0.out HS.out⟩ ⟨HS.out.begin (l := []) (rest := [b9 g695 1 1 1 1 1 2])⟩ HA2036).mono ?_
    rintro e_ w2134 ⟨g2138, rfl, g2139, A2140, m2141, n2142, hS⟩
    replace HS : Aside0 (Sep (fps []) w [b14 g2138 g2139 t2038.2.1 t2038.2.2.1 t2038.2.2.2.1 t2038.2.2.2.2.1, b13 g2139 A2140 m2141 n2142 t2038.2.2.2.2.2.1, r4 A2140 m2141 n2142 t2038.2.2.2.2.2.2, b9 g695 1 1 1 1 1 2] w2134) := ⟨HS.out.call (l := []) (rest := [b9 g695 1 1 1 1 1 2]) hS⟩
    clear hS
    obtain rfl := (row_len (HS.out.at2)).symm
    by_cases c2144 : t2038.1 = true
    · have H := if_yes c2144 H
      have c2144b0 : t2038.1 = true := c2144
      have c2144b1 : (!t2038.1) = false := by rw [c2144b0]; rfl
      try rw [c2144b1]
      clear c2144
      replace HS : Aside0 (Sep (fps []) w [b14 g2138 g2139 t2038.2.1 t2038.2.2.1 t2038.2.2.2.1 t2038.2.2.2.2.1, b13 g2139 A2140 ((t2038.2.2.2.2.2.2).length) n2142 t2038.2.2.2.2.2.1, r4 A2140 ((t2038.2.2.2.2.2.2).length) n2142 t2038.2.2.2.2.2.2] w2134) := ⟨HS.out.sub (.cons_cons _ (.cons_cons _ (.cons_cons _ (.cons _ .slnil))))⟩
      go_wp2_with fail
      obtain ⟨t2041, HA2864, H⟩ := bind_some H
      refine (ring_Add.calls _ t2038.2.2.2.2.2.2 t2038.2.2.2.2.2.1 t2038.2.1 t2038.2.2.1 t2038.2.2.2.1 t2038.2.2.2.2.1 3 g2138 g2139 A2140 ((t2038.2.2.2.2.2.2).length) n2142 t2041 _ ⟨Gl.pass (l := [b14 g2138 g2139 t2038.2.1 t2038.2.2.1 t2038.2.2.2.1 t2038.2.2.2.2.1, b13 g2139 A2140 ((t2038.2.2.2.2.2.2).length) n2142 t2038.2.2.2.2.2.1, r4 A2140 ((t2038.2.2.2.2.2.2).length) n2142 t2038.2.2.2.2.2.2]) (rest := []) HGl0.out HS.out⟩ ⟨HS.out.begin (l := [b14 g2138 g2139 t2038.2.1 t2038.2.2.1 t2038.2.2.2.1 t2038.2.2.2.2.1, b13 g2139 A2140 ((t2038.2.2.2.2.2.2).length) n2142 t2038.2.2.2.2.2.1, r4 A2140 ((t2038.2.2.2.2.2.2).length) n2142 t2038.2.2.2.2.2.2]) (rest := [])⟩ HA2864).mono ?_
      rintro e_ w2865 ⟨rfl, hS⟩
      replace HS : Aside0 (Sep (fps []) w [b14 g2138 g2139 t2038.2.1 t2038.2.2.1 t2038.2.2.2.1 t2038.2.2.2.2.1, b13 g2139 A2140 ((t2038.2.2.2.2.2.2).length) n2142 t2041.2.1, r4 A2140 ((t2038.2.2.2.2.2.2).length) n2142 t2041.2.2] w2865) := ⟨HS.out.call (l := [b14 g2138 g2139 t2038.2.1 t2038.2.2.1 t2038.2.2.2.1 t2038.2.2.2.2.1, b13 g2139 A2140 ((t2038.2.2.2.2.2.2).length) n2142 t2038.2.2.2.2.2.1, r4 A2140 ((t2038.2.2.2.2.2.2).length) n2142 t2038.2.2.2.2.2.2]) (rest := []) hS⟩
      clear hS
      by_cases c2866 : t2041.1 = true
      · have H := if_yes c2866 H
        have c2866b0 : t2041.1 = true := c2866
        have c2866b1 : (!t2041.1) = false := by rw [c2866b0]; rfl
        try rw [c2866b1]
        clear c2866
        go_wp2_with fail
        obtain ⟨t2045, HA2867, H⟩ := bind_some H
        refine (ring_Add.calls _ t2041.2.2 t2041.2.1 t2038.2.1 t2038.2.2.1 t2038.2.2.2.1 t2038.2.2.2.2.1 1 g2138 g2139 A2140 ((t2038.2.2.2.2.2.2).length) n2142 t2045 _ ⟨Gl.pass (l := [b14 g2138 g2139 t2038.2.1 t2038.2.2.1 t2038.2.2.2.1 t2038.2.2.2.2.1, b13 g2139 A2140 ((t2038.2.2.2.2.2.2).length) n2142 t2041.2.1, r4 A2140 ((t2038.2.2.2.2.2.2).length) n2142 t2041.2.2]) (rest := []) HGl0.out HS.out⟩ ⟨HS.out.begin (l := [b14 g2138 g2139 t2038.2.1 t2038.2.2.1 t2038.2.2.2.1 t2038.2.2.2.2.1, b13 g2139 A2140 ((t2038.2.2.2.2.2.2).length) n2142 t2041.2.1, r4 A2140 ((t2038.2.2.2.2.2.2).length) n2142 t2041.2.2]) (rest := [])⟩ HA2867).mono ?_
        rintro e_ w2868 ⟨rfl, hS⟩
        replace HS : Aside0 (Sep (fps []) w [b14 g2138 g2139 t2038.2.1 t2038.2.2.1 t2038.2.2.2.1 t2038.2.2.2.2.1, b13 g2139 A2140 ((t2038.2.2.2.2.2.2).length) n2142 t2045.2.1, r4 A2140 ((t2038.2.2.2.2.2.2).length) n2142 t2045.2.2] w2868) := ⟨HS.out.call (l := [b14 g2138 g2139 t2038.2.1 t2038.2.2.1 t2038.2.2.2.1 t2038.2.2.2.2.1, b13 g2139 A2140 ((t2038.2.2.2.2.2.2).length) n2142 t2041.2.1, r4 A2140 ((t2038.2.2.2.2.2.2).length) n2142 t2041.2.2]) (rest := []) hS⟩
        clear hS
        by_cases c2869 : t2045.1 = true
        · have H := if_yes c2869 H
          have c2869b0 : t2045.1 = true := c2869
          have c2869b1 : (!t2045.1) = false := by rw [c2869b0]; rfl
          try rw [c2869b1]
          clear c2869
          go_wp2_with fail
          obtain ⟨t2049, HA2870, H⟩ := bind_some H
          refine (ring_Add.calls _ t2045.2.2 t2045.2.1 t2038.2.1 t2038.2.2.1 t2038.2.2.2.1 t2038.2.2.2.2.1 5 g2138 g2139 A2140 ((t2038.2.2.2.2.2.2).length) n2142 t2049 _ ⟨Gl.pass (l := [b14 g2138 g2139 t2038.2.1 t2038.2.2.1 t2038.2.2.2.1 t2038.2.2.2.2.1, b13 g2139 A2140 ((t2038.2.2.2.2.2.2).length) n2142 t2045.2.1, r4 A2140 ((t2038.2.2.2.2.2.2).length) n2142 t2045.2.2]) (rest := []) HGl0.out HS.out⟩ ⟨HS.out.begin (l := [b14 g2138 g2139 t2038.2.1 t2038.2.2.1 t2038.2.2.2.1 t2038.2.2.2.2.1, b13 g2139 A2140 ((t2038.2.2.2.2.2.2).length) n2142 t2045.2.1, r4 A2140 ((t2038.2.2.2.2.2.2).length) n2142 t2045.2.2]) (rest := [])⟩ HA2870).mono ?_
          rintro e_ w2871 ⟨rfl, hS⟩
          replace HS : Aside0 (Sep (fps []) w [b14 g2138 g2139 t2038.2.1 t2038.2.2.1 t2038.2.2.2.1 t2038.2.2.2.2.1, b13 g2139 A2140 ((t2038.2.2.2.2.2.2).length) n2142 t2049.2.1, r4 A2140 ((t2038.2.2.2.2.2.2).length) n2142 t2049.2.2] w2871) := ⟨HS.out.call (l := [b14 g2138 g2139 t2038.2.1 t2038.2.2.1 t2038.2.2.2.1 t2038.2.2.2.2.1, b13 g2139 A2140 ((t2038.2.2.2.2.2.2).length) n2142 t2045.2.1, r4 A2140 ((t2038.2.2.2.2.2.2).length) n2142 t2045.2.2]) (rest := []) hS⟩
          clear hS
          by_cases c2872 : t2049.1 = true
          · have H := if_yes c2872 H
            have c2872b0 : t2049.1 = true := c2872
            have c2872b1 : (!t2049.1) = false := by rw [c2872b0]; rfl
            try rw [c2872b1]
            clear c2872
            go_wp2_with fail
            obtain ⟨t2053, HA3001, H⟩ := bind_some H
            refine (ring_Cut.calls _ t2049.2.2 t2049.2.1 t2038.2.1 t2038.2.2.1 t2038.2.2.2.1 t2038.2.2.2.2.1 1 g2138 g2139 A2140 ((t2038.2.2.2.2.2.2).length) n2142 t2053 _ ⟨Gl.pass (l := [b14 g2138 g2139 t2038.2.1 t2038.2.2.1 t2038.2.2.2.1 t2038.2.2.2.2.1, b13 g2139 A2140 ((t2038.2.2.2.2.2.2).length) n2142 t2049.2.1, r4 A2140 ((t2038.2.2.2.2.2.2).length) n2142 t2049.2.2]) (rest := []) HGl0.out HS.out⟩ ⟨HS.out.begin (l := [b14 g2138 g2139 t2038.2.1 t2038.2.2.1 t2038.2.2.2.1 t2038.2.2.2.2.1, b13 g2139 A2140 ((t2038.2.2.2.2.2.2).length) n2142 t2049.2.1, r4 A2140 ((t2038.2.2.2.2.2.2).length) n2142 t2049.2.2]) (rest := [])⟩ HA3001).mono ?_
            rintro e_ w3002 ⟨rfl, hS⟩
            replace HS : Aside0 (Sep (fps []) w [b14 g2138 g2139 t2038.2.1 t2038.2.2.1 t2038.2.2.2.1 t2038.2.2.2.2.1, b13 g2139 A2140 ((t2038.2.2.2.2.2.2).length) n2142 t2053.2.1, r4 A2140 ((t2038.2.2.2.2.2.2).length) n2142 t2053.2.2] w3002) := ⟨HS.out.call (l := [b14 g2138 g2139 t2038.2.1 t2038.2.2.1 t2038.2.2.2.1 t2038.2.2.2.2.1, b13 g2139 A2140 ((t2038.2.2.2.2.2.2).length) n2142 t2049.2.1, r4 A2140 ((t2038.2.2.2.2.2.2).length) n2142 t2049.2.2]) (rest := []) hS⟩
            clear hS
            by_cases c3003 : t2053.1 = true
            · have H := if_yes c3003 H
              have c3003b0 : t2053.1 = true := c3003
              have c3003b1 : (!t2053.1) = false := by rw [c3003b0]; rfl
              try rw [c3003b1]
              clear c3003
              go_wp2_with fail
              obtain ⟨t2057, HA3149, H⟩ := bind_some H
              refine (ring_List.calls _ t2053.2.2 t2053.2.1 t2038.2.1 t2038.2.2.1 t2038.2.2.2.1 t2038.2.2.2.2.1 g2138 g2139 A2140 ((t2038.2.2.2.2.2.2).length) n2142 t2057 _ ⟨Gl.pass (l := [b14 g2138 g2139 t2038.2.1 t2038.2.2.1 t2038.2.2.2.1 t2038.2.2.2.2.1, b13 g2139 A2140 ((t2038.2.2.2.2.2.2).length) n2142 t2053.2.1, r4 A2140 ((t2038.2.2.2.2.2.2).length) n2142 t2053.2.2]) (rest := []) HGl0.out HS.out⟩ ⟨HS.out.begin (l := [b14 g2138 g2139 t2038.2.1 t2038.2.2.1 t2038.2.2.2.1 t2038.2.2.2.2.1, b13 g2139 A2140 ((t2038.2.2.2.2.2.2).length) n2142 t2053.2.1, r4 A2140 ((t2038.2.2.2.2.2.2).length) n2142 t2053.2.2]) (rest := [])⟩ HA3149).mono ?_
              rintro e_ w3150 ⟨A3152, m3153, n3154, rfl, hS⟩
              replace HS : Aside0 (Sep (fps []) w [b14 g2138 g2139 t2038.2.1 t2038.2.2.1 t2038.2.2.2.1 t2038.2.2.2.2.1, b13 g2139 A2140 ((t2038.2.2.2.2.2.2).length) n2142 t2053.2.1, r4 A2140 ((t2038.2.2.2.2.2.2).length) n2142 t2053.2.2, r8 A3152 m3153 n3154 t2057] w3150) := ⟨HS.out.call (l := [b14 g2138 g2139 t2038.2.1 t2038.2.2.1 t2038.2.2.2.1 t2038.2.2.2.2.1, b13 g2139 A2140 ((t2038.2.2.2.2.2.2).length) n2142 t2053.2.1, r4 A2140 ((t2038.2.2.2.2.2.2).length) n2142 t2053.2.2]) (rest := []) hS⟩
              clear hS
              obtain rfl := (row_len (HS.out.at3)).symm
              go_wp2_with (first | ((with_reducible refine gate_dst (N := 32) rfl ?_); refine slice_on (n := 2) ?hg (N := 32) ?hd (cs := #[.int .i64 3, .int .i64 5]) (t := 3) ?hr ?_; (case hd => rfl); (case hg => rfl); (case hr => first | (go_simp; done) | (go_simp; rfl)); intro g3156 hg w3157 hbox hb; replace HS : Aside0 (Sep (fps []) w [b14 g2138 g2139 t2038.2.1 t2038.2.2.1 t2038.2.2.2.1 t2038.2.2.2.2.1, b13 g2139 A2140 ((t2038.2.2.2.2.2.2).length) n2142 t2053.2.1, r4 A2140 ((t2038.2.2.2.2.2.2).length) n2142 t2053.2.2, r8 A3152 t2057.length n3154 t2057, b11 g3156 3 5] w3157) := ⟨HS.out.box hg hbox hb⟩; clear hg hbox hb))
              obtain ⟨t2107, HA3159, H⟩ := bind_some H
              refine (quitrentref01_Ints.calls _ t2057 [3, 5] A3152 n3154 (some ⟨g3156, 0, none⟩) 2 t2107 _ ⟨Rd.ownI (l := []) (rest := [b14 g2138 g2139 t2038.2.1 t2038.2.2.1 t2038.2.2.2.1 t2038.2.2.2.2.1, b13 g2139 A2140 ((t2038.2.2.2.2.2.2).length) n2142 t2053.2.1, r4 A2140 ((t2038.2.2.2.2.2.2).length) n2142 t2053.2.2, r8 A3152 t2057.length n3154 t2057, b11 g3156 3 5]) HS.out 3 rfl⟩ ⟨Rd.lit (l := []) (rest := [b14 g2138 g2139 t2038.2.1 t2038.2.2.1 t2038.2.2.2.1 t2038.2.2.2.2.1, b13 g2139 A2140 ((t2038.2.2.2.2.2.2).length) n2142 t2053.2.1, r4 A2140 ((t2038.2.2.2.2.2.2).length) n2142 t2053.2.2, r8 A3152 t2057.length n3154 t2057, b11 g3156 3 5]) (xs := [3, 5]) HS.out 4 rfl (by simp)⟩ ⟨Gl.pass (l := []) (rest := [b14 g2138 g2139 t2038.2.1 t2038.2.2.1 t2038.2.2.2.1 t2038.2.2.2.2.1, b13 g2139 A2140 ((t2038.2.2.2.2.2.2).length) n2142 t2053.2.1, r4 A2140 ((t2038.2.2.2.2.2.2).length) n2142 t2053.2.2, r8 A3152 t2057.length n3154 t2057, b11 g3156 3 5]) HGl0.out HS.out⟩ ⟨HS.out.begin (l := []) (rest := [b14 g2138 g2139 t2038.2.1 t2038.2.2.1 t2038.2.2.2.1 t2038.2.2.2.2.1, b13 g2139 A2140 ((t2038.2.2.2.2.2.2).length) n2142 t2053.2.1, r4 A2140 ((t2038.2.2.2.2.2.2).length) n2142 t2053.2.2, r8 A3152 t2057.length n3154 t2057, b11 g3156 3 5])⟩ HA3159).mono ?_
              rintro e_ w3160 ⟨rfl, hS⟩
              replace HS : Aside0 (Sep (fps []) w [b14 g2138 g2139 t2038.2.1 t2038.2.2.1 t2038.2.2.2.1 t2038.2.2.2.2.1, b13 g2139 A2140 ((t2038.2.2.2.2.2.2).length) n2142 t2053.2.1, r4 A2140 ((t2038.2.2.2.2.2.2).length) n2142 t2053.2.2, r8 A3152 t2057.length n3154 t2057, b11 g3156 3 5] w3160) := ⟨HS.out.call (l := []) (rest := [b14 g2138 g2139 t2038.2.1 t2038.2.2.1 t2038.2.2.2.1 t2038.2.2.2.2.1, b13 g2139 A2140 ((t2038.2.2.2.2.2.2).length) n2142 t2053.2.1, r4 A2140 ((t2038.2.2.2.2.2.2).length) n2142 t2053.2.2, r8 A3152 t2057.length n3154 t2057, b11 g3156 3 5]) hS⟩
              clear hS
              by_cases c3161 : t2107 = true
              · have H := if_yes c3161 H
                have c3161b0 : t2107 = true := c3161
                have c3161b1 : (!t2107) = false := by rw [c3161b0]; rfl
                clear c3161
                go_wp2_with fail
                obtain ⟨t2127, HA3162, H⟩ := bind_some H
                refine (ground_Ground_SeeWord.calls t2053.2.2 t2053.2.1 t2038.2.1 t2038.2.2.1 t2038.2.2.2.1 t2038.2.2.2.2.1 3 7 g2138 g2139 A2140 ((t2038.2.2.2.2.2.2).length) n2142 t2127 _ ⟨Gl.pass (l := [b14 g2138 g2139 t2038.2.1 t2038.2.2.1 t2038.2.2.2.1 t2038.2.2.2.2.1, b13 g2139 A2140 ((t2038.2.2.2.2.2.2).length) n2142 t2053.2.1, r4 A2140 ((t2038.2.2.2.2.2.2).length) n2142 t2053.2.2]) (rest := [r8 A3152 t2057.length n3154 t2057, b11 g3156 3 5]) HGl0.out HS.out⟩ ⟨HS.out.begin (l := [b14 g2138 g2139 t2038.2.1 t2038.2.2.1 t2038.2.2.2.1 t2038.2.2.2.2.1, b13 g2139 A2140 ((t2038.2.2.2.2.2.2).length) n2142 t2053.2.1, r4 A2140 ((t2038.2.2.2.2.2.2).length) n2142 t2053.2.2]) (rest := [r8 A3152 t2057.length n3154 t2057, b11 g3156 3 5])⟩ HA3162).mono ?_
                rintro e_ w3163 ⟨rfl, hS⟩
                replace HS : Aside0 (Sep (fps []) w [b14 g2138 g2139 t2038.2.1 t2038.2.2.1 t2038.2.2.2.1 t2038.2.2.2.2.1, b13 g2139 A2140 ((t2038.2.2.2.2.2.2).length) n2142 t2053.2.1, r4 A2140 ((t2038.2.2.2.2.2.2).length) n2142 t2053.2.2, r8 A3152 t2057.length n3154 t2057, b11 g3156 3 5] w3163) := ⟨HS.out.call (l := [b14 g2138 g2139 t2038.2.1 t2038.2.2.1 t2038.2.2.2.1 t2038.2.2.2.2.1, b13 g2139 A2140 ((t2038.2.2.2.2.2.2).length) n2142 t2053.2.1, r4 A2140 ((t2038.2.2.2.2.2.2).length) n2142 t2053.2.2]) (rest := [r8 A3152 t2057.length n3154 t2057, b11 g3156 3 5]) hS⟩
                clear hS
                by_cases c3164 : t2127 = 6
                · have H := if_yes c3164 H
                  have c3164b0 : (t2127 == 6) = true := beq_iff_eq.mpr c3164
                  have c3164b1 : (t2127 != 6) = false := bne_eq_false_iff_eq.mpr c3164
                  clear c3164
                  go_wp2_with fail
                  obtain ⟨t2131, HA3165, H⟩ := bind_some H
                  refine (ground_Ground_SeeWord.calls t2053.2.2 t2053.2.1 t2038.2.1 t2038.2.2.1 t2038.2.2.2.1 t2038.2.2.2.2.1 5 6 g2138 g2139 A2140 ((t2038.2.2.2.2.2.2).length) n2142 t2131 _ ⟨Gl.pass (l := [b14 g2138 g2139 t2038.2.1 t2038.2.2.1 t2038.2.2.2.1 t2038.2.2.2.2.1, b13 g2139 A2140 ((t2038.2.2.2.2.2.2).length) n2142 t2053.2.1, r4 A2140 ((t2038.2.2.2.2.2.2).length) n2142 t2053.2.2]) (rest := [r8 A3152 t2057.length n3154 t2057, b11 g3156 3 5]) HGl0.out HS.out⟩ ⟨HS.out.begin (l := [b14 g2138 g2139 t2038.2.1 t2038.2.2.1 t2038.2.2.2.1 t2038.2.2.2.2.1, b13 g2139 A2140 ((t2038.2.2.2.2.2.2).length) n2142 t2053.2.1, r4 A2140 ((t2038.2.2.2.2.2.2).length) n2142 t2053.2.2]) (rest := [r8 A3152 t2057.length n3154 t2057, b11 g3156 3 5])⟩ HA3165).mono ?_
                  rintro e_ w3166 ⟨rfl, hS⟩
                  replace HS : Aside0 (Sep (fps []) w [b14 g2138 g2139 t2038.2.1 t2038.2.2.1 t2038.2.2.2.1 t2038.2.2.2.2.1, b13 g2139 A2140 ((t2038.2.2.2.2.2.2).length) n2142 t2053.2.1, r4 A2140 ((t2038.2.2.2.2.2.2).length) n2142 t2053.2.2, r8 A3152 t2057.length n3154 t2057, b11 g3156 3 5] w3166) := ⟨HS.out.call (l := [b14 g2138 g2139 t2038.2.1 t2038.2.2.1 t2038.2.2.2.1 t2038.2.2.2.2.1, b13 g2139 A2140 ((t2038.2.2.2.2.2.2).length) n2142 t2053.2.1, r4 A2140 ((t2038.2.2.2.2.2.2).length) n2142 t2053.2.2]) (rest := [r8 A3152 t2057.length n3154 t2057, b11 g3156 3 5]) hS⟩
                  clear hS
                  replace HS : Aside0 (Sep (fps []) w [] w3166) := ⟨HS.out.sub (.cons _ (.cons _ (.cons _ (.cons _ (.cons _ .slnil)))))⟩
                  go_wp2_with fail
                  go_ret
                  rw [← some_eq H]
                  exact ⟨(by first | rfl | (simp [IntKind.wrap_u32]; done)), (HS.out).keep (l := []) (rest := [])⟩
                · have H := if_no c3164 H
                  have c3164b0 : (t2127 == 6) = false := beq_eq_false_iff_ne.mpr c3164
                  have c3164b1 : (t2127 != 6) = true := bne_iff_ne.mpr c3164
                  clear c3164
                  replace HS : Aside0 (Sep (fps []) w [] w3163) := ⟨HS.out.sub (.cons _ (.cons _ (.cons _ (.cons _ (.cons _ .slnil)))))⟩
                  go_wp2_with fail
                  go_ret
                  rw [← some_eq H]
                  exact ⟨(by first | rfl | (simp [IntKind.wrap_u32]; done)), (HS.out).keep (l := []) (rest := [])⟩
              · have H := if_no c3161 H
                have c3161b0 : t2107 = false := by simpa using c3161
                have c3161b1 : (!t2107) = true := by rw [c3161b0]; rfl
                clear c3161
                replace HS : Aside0 (Sep (fps []) w [] w3160) := ⟨HS.out.sub (.cons _ (.cons _ (.cons _ (.cons _ (.cons _ .slnil)))))⟩
                go_wp2_with fail
                go_ret
                rw [← some_eq H]
                exact ⟨(by first | rfl | (simp [IntKind.wrap_u32]; done)), (HS.out).keep (l := []) (rest := [])⟩
            · have H := if_no c3003 H
              have c3003b0 : t2053.1 = false := by simpa using c3003
              have c3003b1 : (!t2053.1) = true := by rw [c3003b0]; rfl
              try rw [c3003b1]
              clear c3003
              replace HS : Aside0 (Sep (fps []) w [] w3002) := ⟨HS.out.sub (.cons _ (.cons _ (.cons _ .slnil)))⟩
              go_wp2_with fail
              go_ret
              rw [← some_eq H]
              exact ⟨(by first | rfl | (simp [IntKind.wrap_u32]; done)), (HS.out).keep (l := []) (rest := [])⟩
          · have H := if_no c2872 H
            have c2872b0 : t2049.1 = false := by simpa using c2872
            have c2872b1 : (!t2049.1) = true := by rw [c2872b0]; rfl
            try rw [c2872b1]
            clear c2872
            replace HS : Aside0 (Sep (fps []) w [] w2871) := ⟨HS.out.sub (.cons _ (.cons _ (.cons _ .slnil)))⟩
            go_wp2_with fail
            go_ret
            rw [← some_eq H]
            exact ⟨(by first | rfl | (simp [IntKind.wrap_u32]; done)), (HS.out).keep (l := []) (rest := [])⟩
        · have H := if_no c2869 H
          have c2869b0 : t2045.1 = false := by simpa using c2869
          have c2869b1 : (!t2045.1) = true := by rw [c2869b0]; rfl
          try rw [c2869b1]
          clear c2869
          replace HS : Aside0 (Sep (fps []) w [] w2868) := ⟨HS.out.sub (.cons _ (.cons _ (.cons _ .slnil)))⟩
          go_wp2_with fail
          go_ret
          rw [← some_eq H]
          exact ⟨(by first | rfl | (simp [IntKind.wrap_u32]; done)), (HS.out).keep (l := []) (rest := [])⟩
      · have H := if_no c2866 H
        have c2866b0 : t2041.1 = false := by simpa using c2866
        have c2866b1 : (!t2041.1) = true := by rw [c2866b0]; rfl
        try rw [c2866b1]
        clear c2866
        replace HS : Aside0 (Sep (fps []) w [] w2865) := ⟨HS.out.sub (.cons _ (.cons _ (.cons _ .slnil)))⟩
        go_wp2_with fail
        go_ret
        rw [← some_eq H]
        exact ⟨(by first | rfl | (simp [IntKind.wrap_u32]; done)), (HS.out).keep (l := []) (rest := [])⟩
    · have H := if_no c2144 H
      have c2144b0 : t2038.1 = false := by simpa using c2144
      have c2144b1 : (!t2038.1) = true := by rw [c2144b0]; rfl
      try rw [c2144b1]
      clear c2144
      replace HS : Aside0 (Sep (fps []) w [b14 g2138 g2139 t2038.2.1 t2038.2.2.1 t2038.2.2.2.1 t2038.2.2.2.2.1, b13 g2139 A2140 ((t2038.2.2.2.2.2.2).length) n2142 t2038.2.2.2.2.2.1, r4 A2140 ((t2038.2.2.2.2.2.2).length) n2142 t2038.2.2.2.2.2.2] w2134) := ⟨HS.out.sub (.cons_cons _ (.cons_cons _ (.cons_cons _ (.cons _ .slnil))))⟩
      replace HS : Aside0 (Sep (fps []) w [] w2134) := ⟨HS.out.sub (.cons _ (.cons _ (.cons _ .slnil)))⟩
      go_wp2_with fail
      go_ret
      rw [← some_eq H]
      exact ⟨(by first | rfl | (simp [IntKind.wrap_u32]; done)), (HS.out).keep (l := []) (rest := [])⟩

set_option maxHeartbeats 30000000 in
set_option maxRecDepth 100000 in
theorem quitrentlaw09_RingNobody.calls (k : Nat) (a1 : Int) (r : Bool) (w : World)  (HGl0 : Aside0 (Gl 0 #[.int .i64 0, .int .i64 0, .int .i64 0, .int .i64 0, .int .i64 0] (fps []) w)) (HS : Aside0 (Sep (fps []) w [] w)) (H : Aside0 (quitrentlaw09_RingNobody.f k a1 = some r)) :
    Calls Tryd.prog 5 #[.int .i64 a1] w fun e w' => e = .returned (.bool r) ∧ Sep (fps []) w [] w' := by
  unfold quitrentlaw09_RingNobody.f at H
  go_enter Tryd.func5, Tryd.ntmps5
  go_wp2_with fail
  obtain ⟨t2, HA3, H⟩ := bind_some H
  refine (ring_Take_nil.calls t2 _ ⟨Gl.pass (l := []) (rest := []) HGl0.out HS.out⟩ ⟨HS.out.begin (l := []) (rest := [])⟩ HA3).mono ?_
  rintro e_ w4 ⟨rfl, hS⟩
  replace HS : Aside0 (Sep (fps []) w [] w4) := ⟨HS.out.call (l := []) (rest := []) hS⟩
  clear hS
  go_wp2_with fail
  obtain ⟨t566, HA567, H⟩ := bind_some H
  refine (ring_Add_nil.calls _ a1 t566 _ ⟨Gl.pass (l := []) (rest := []) HGl0.out HS.out⟩ ⟨HS.out.begin (l := []) (rest := [])⟩ HA567).mono ?_
  rintro e_ w568 ⟨rfl, hS⟩
  replace HS : Aside0 (Sep (fps []) w [] w568) := ⟨HS.out.call (l := []) (rest := []) hS⟩
  clear hS
  by_cases c569 : t566 = true
  · have H := if_yes c569 H
    have c569b0 : t566 = true := c569
    have c569b1 : (!t566) = false := by rw [c569b0]; rfl
    try rw [c569b1]
    clear c569
    go_wp2_with fail
    go_ret
    rw [← some_eq H]
    exact ⟨(by first | rfl | (simp [IntKind.wrap_u32]; done)), (HS.out).keep (l := []) (rest := [])⟩
  · have H := if_no c569 H
    have c569b0 : t566 = false := by simpa using c569
    have c569b1 : (!t566) = true := by rw [c569b0]; rfl
    try rw [c569b1]
    clear c569
    go_wp2_with fail
    obtain ⟨t638, HA639, H⟩ := bind_some H
    refine (ring_Cut_nil.calls _ a1 t638 _ ⟨Gl.pass (l := []) (rest := []) HGl0.out HS.out⟩ ⟨HS.out.begin (l := []) (rest := [])⟩ HA639).mono ?_
    rintro e_ w640 ⟨rfl, hS⟩
    replace HS : Aside0 (Sep (fps []) w [] w640) := ⟨HS.out.call (l := []) (rest := []) hS⟩
    clear hS
    by_cases c641 : t638 = true
    · have H := if_yes c641 H
      have c641b0 : t638 = true := c641
      have c641b1 : (!t638) = false := by rw [c641b0]; rfl
      try rw [c641b1]
      clear c641
      go_wp2_with fail
      go_ret
      rw [← some_eq H]
      exact ⟨(by first | rfl | (simp [IntKind.wrap_u32]; done)), (HS.out).keep (l := []) (rest := [])⟩
    · have H := if_no c641 H
      have c641b0 : t638 = false := by simpa using c641
      have c641b1 : (!t638) = true := by rw [c641b0]; rfl
      try rw [c641b1]
      clear c641
      by_cases c642 : t2.1 = 0
      · have H := if_yes c642 H
        have c642b0 : (t2.1 == 0) = true := beq_iff_eq.mpr c642
        have c642b1 : (t2.1 != 0) = false := bne_eq_false_iff_eq.mpr c642
        clear c642
        by_cases c643 : t2.2 = true
        · have H := if_yes c643 H
          have c643b0 : t2.2 = true := c643
          have c643b1 : (!t2.2) = false := by rw [c643b0]; rfl
          try rw [c643b1]
          clear c643
          go_wp2_with fail
          go_ret
          rw [← some_eq H]
          exact ⟨(by first | rfl | (simp [IntKind.wrap_u32]; done)), (HS.out).keep (l := []) (rest := [])⟩
        · have H := if_no c643 H
          have c643b0 : t2.2 = false := by simpa using c643
          have c643b1 : (!t2.2) = true := by rw [c643b0]; rfl
          try rw [c643b1]
          clear c643
          go_wp2_with fail
          obtain ⟨t644, HA645, H⟩ := bind_some H
          refine (ring_Len_nil.calls t644 _ ⟨Gl.pass (l := []) (rest := []) HGl0.out HS.out⟩ ⟨HS.out.begin (l := []) (rest := [])⟩ HA645).mono ?_
          rintro e_ w646 ⟨rfl, hS⟩
          replace HS : Aside0 (Sep (fps []) w [] w646) := ⟨HS.out.call (l := []) (rest := []) hS⟩
          clear hS
          by_cases c647 : t644 = 0
          · have H := if_yes c647 H
            have c647b0 : (t644 == 0) = true := beq_iff_eq.mpr c647
            have c647b1 : (t644 != 0) = false := bne_eq_false_iff_eq.mpr c647
            clear c647
            go_wp2_with fail
            obtain ⟨t670, HA671, H⟩ := bind_some H
            refine (ring_Has_nil.calls a1 t670 _ ⟨Gl.pass (l := []) (rest := []) HGl0.out HS.out⟩ ⟨HS.out.begin (l := []) (rest := [])⟩ HA671).mono ?_
            rintro e_ w672 ⟨rfl, hS⟩
            replace HS : Aside0 (Sep (fps []) w [] w672) := ⟨HS.out.call (l := []) (rest := []) hS⟩
            clear hS
            by_cases c673 : t670 = true
            · have H := if_yes c673 H
              have c673b0 : t670 = true := c673
              have c673b1 : (!t670) = false := by rw [c673b0]; rfl
              try rw [c673b1]
              clear c673
              go_wp2_with fail
              go_ret
              rw [← some_eq H]
              exact ⟨(by first | rfl | (simp [IntKind.wrap_u32]; done)), (HS.out).keep (l := []) (rest := [])⟩
            · have H := if_no c673 H
              have c673b0 : t670 = false := by simpa using c673
              have c673b1 : (!t670) = true := by rw [c673b0]; rfl
              try rw [c673b1]
              clear c673
              go_wp2_with fail
              obtain ⟨t686, HA687, H⟩ := bind_some H
              refine (ring_List_nil.calls t686 _ ⟨Gl.pass (l := []) (rest := []) HGl0.out HS.out⟩ ⟨HS.out.begin (l := []) (rest := [])⟩ HA687).mono ?_
              rintro e_ w688 ⟨A690, m691, n692, rfl, hS⟩
              replace HS : Aside0 (Sep (fps []) w [r8 A690 m691 n692 t686] w688) := ⟨HS.out.call (l := []) (rest := []) hS⟩
              clear hS
              obtain rfl := (row_len (HS.out.at0)).symm
              by_cases c694 : (t686.length : Int) = 0
              · have H := if_yes c694 H
                have c694b0 : ((t686.length : Int) == 0) = true := beq_iff_eq.mpr c694
                have c694b1 : ((t686.length : Int) != 0) = false := bne_eq_false_iff_eq.mpr c694
                clear c694
                go_wp2_with fail
                obtain ⟨t3167, HA3168, H⟩ := bind_some H
                refine (quitrentlaw09_begun.calls _ t3167 _ ⟨Gl.pass (l := []) (rest := [r8 A690 t686.length n692 t686]) HGl0.out HS.out⟩ ⟨HS.out.begin (l := []) (rest := [r8 A690 t686.length n692 t686])⟩ HA3168).mono ?_
                rintro e_ w3169 ⟨rfl, hS⟩
                replace HS : Aside0 (Sep (fps []) w [r8 A690 t686.length n692 t686] w3169) := ⟨HS.out.call (l := []) (rest := [r8 A690 t686.length n692 t686]) hS⟩
                clear hS
                replace HS : Aside0 (Sep (fps []) w [] w3169) := ⟨HS.out.sub (.cons _ .slnil)⟩
                go_wp2_with fail
                go_ret
                rw [← some_eq H]
                exact ⟨(by first | rfl | (simp [IntKind.wrap_u32]; done)), (HS.out).keep (l := []) (rest := [])⟩
              · have H := if_no c694 H
                have c694b0 : ((t686.length : Int) == 0) = false := beq_eq_false_iff_ne.mpr c694
                have c694b1 : ((t686.length : Int) != 0) = true := bne_iff_ne.mpr c694
                clear c694
                replace HS : Aside0 (Sep (fps []) w [] w688) := ⟨HS.out.sub (.cons _ .slnil)⟩
                go_wp2_with fail
                go_ret
                rw [← some_eq H]
                exact ⟨(by first | rfl | (simp [IntKind.wrap_u32]; done)), (HS.out).keep (l := []) (rest := [])⟩
          · have H := if_no c647 H
            have c647b0 : (t644 == 0) = false := beq_eq_false_iff_ne.mpr c647
            have c647b1 : (t644 != 0) = true := bne_iff_ne.mpr c647
            clear c647
            go_wp2_with fail
            go_ret
            rw [← some_eq H]
            exact ⟨(by first | rfl | (simp [IntKind.wrap_u32]; done)), (HS.out).keep (l := []) (rest := [])⟩
      · have H := if_no c642 H
        have c642b0 : (t2.1 == 0) = false := beq_eq_false_iff_ne.mpr c642
        have c642b1 : (t2.1 != 0) = true := bne_iff_ne.mpr c642
        clear c642
        go_wp2_with fail
        go_ret
        rw [← some_eq H]
        exact ⟨(by first | rfl | (simp [IntKind.wrap_u32]; done)), (HS.out).keep (l := []) (rest := [])⟩
end Go.Proofs.YtobeonkddamnoaaDoor.C

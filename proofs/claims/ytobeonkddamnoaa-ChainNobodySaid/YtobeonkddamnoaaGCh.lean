/- Each function of the group Ch does what its plain function says, and changes nothing that was there; proved by walking its code. No condition. -/
import Derived.Test.YtobeonkddamnoaaQw
import Derived.Test.YtobeonkddamnoaaMCh
import Derived.Test.YtobeonkddamnoaaGCh0
import Derived.Test.YtobeonkddamnoaaGCh1
namespace Go.Proofs.Ytobeonkddamnoaa.C
open Go.RowKit Go.Proofs.YtobeonkddamnoaaW.PrintWords Go.Proofs.YtobeonkddamnoaaW.PrintLast Go.Proofs.YtobeonkddamnoaaW.PrintMore Go.Proofs.Ytobeonkddamnoaa.Q Go.Proofs.Ytobeonkddamnoaa.M
set_option linter.unusedVariables false
set_option linter.unusedSimpArgs false
set_option maxHeartbeats 30000000 in
set_option maxRecDepth 100000 in
theorem quitrentlaw08_begun.calls (k : Nat)  (r : Bool) (w : World)   (HS : Aside0 (Sep (fps []) w [] w)) (H : Aside0 (quitrentlaw08_begun.f k = some r)) :
    Calls Try.prog 51 #[] w fun e w' => e = .returned (.bool r) ∧ Sep (fps []) w [] w' := by
  unfold quitrentlaw08_begun.f at H
  go_enter Try.func51, Try.ntmps51
  go_wp2_with fail
  obtain ⟨t1300, HA1301, H⟩ := bind_some H
  rcases t1300 with t1302 | (t1303 | t1304)
  · have H := sum_l H
    refine (ground_New.calls _ 9 16 1 1 (.inl t1302) _ ⟨HS.out.begin (l := []) (rest := [])⟩ HA1301).mono ?_
    rintro e_ w1305 ⟨rfl, hS⟩
    replace HS : Aside0 (Sep (fps []) w [] w1305) := ⟨HS.out.call (l := []) (rest := []) hS⟩
    clear hS
    go_wp2_with fail
    go_ret
    rw [← some_eq H]
    exact ⟨(by first | rfl | (simp [IntKind.wrap_u32]; done)), (HS.out).keep (l := []) (rest := [])⟩
  · have H := sum_r H
    have H := sum_l H
    refine (ground_New.calls _ 9 16 1 1 (.inr (.inl t1303)) _ ⟨HS.out.begin (l := []) (rest := [])⟩ HA1301).mono ?_
    rintro e_ w1306 ⟨g1310, g1311, A1312, m1313, n1314, rfl, hS⟩
    replace HS : Aside0 (Sep (fps []) w [b7 g1310 g1311 t1303.1 t1303.2.1 t1303.2.2.1 t1303.2.2.2.1, b6 g1311 A1312 m1313 n1314 0, r5 A1312 m1313 n1314 t1303.2.2.2.2] w1306) := ⟨HS.out.call (l := []) (rest := []) hS⟩
    clear hS
    obtain rfl := (row_len (HS.out.at2)).symm
    go_wp2_with fail
    obtain ⟨t1909, HA1910, H⟩ := bind_some H
    refine (chain_Add.calls t1303.2.2.2.2 0 t1303.1 t1303.2.1 t1303.2.2.1 t1303.2.2.2.1 1 4 g1310 g1311 A1312 ((t1303.2.2.2.2).length) n1314 t1909 _ ⟨HS.out.begin (l := [b7 g1310 g1311 t1303.1 t1303.2.1 t1303.2.2.1 t1303.2.2.2.1, b6 g1311 A1312 ((t1303.2.2.2.2).length) n1314 0, r5 A1312 ((t1303.2.2.2.2).length) n1314 t1303.2.2.2.2]) (rest := [])⟩ HA1910).mono ?_
    rintro e_ w1911 ⟨rfl, hS⟩
    replace HS : Aside0 (Sep (fps []) w [b7 g1310 g1311 t1303.1 t1303.2.1 t1303.2.2.1 t1303.2.2.2.1, b6 g1311 A1312 ((t1303.2.2.2.2).length) n1314 t1909.2.1, r5 A1312 ((t1303.2.2.2.2).length) n1314 t1909.2.2] w1911) := ⟨HS.out.call (l := [b7 g1310 g1311 t1303.1 t1303.2.1 t1303.2.2.1 t1303.2.2.2.1, b6 g1311 A1312 ((t1303.2.2.2.2).length) n1314 0, r5 A1312 ((t1303.2.2.2.2).length) n1314 t1303.2.2.2.2]) (rest := []) hS⟩
    clear hS
    by_cases c1912 : t1909.1 = true
    · have H := if_yes c1912 H
      have c1912b0 : t1909.1 = true := c1912
      have c1912b1 : (!t1909.1) = false := by rw [c1912b0]; rfl
      try rw [c1912b1]
      clear c1912
      go_wp2_with fail
      obtain ⟨t1913, HA1914, H⟩ := bind_some H
      refine (chain_Add.calls t1909.2.2 t1909.2.1 t1303.1 t1303.2.1 t1303.2.2.1 t1303.2.2.2.1 1 2 g1310 g1311 A1312 ((t1303.2.2.2.2).length) n1314 t1913 _ ⟨HS.out.begin (l := [b7 g1310 g1311 t1303.1 t1303.2.1 t1303.2.2.1 t1303.2.2.2.1, b6 g1311 A1312 ((t1303.2.2.2.2).length) n1314 t1909.2.1, r5 A1312 ((t1303.2.2.2.2).length) n1314 t1909.2.2]) (rest := [])⟩ HA1914).mono ?_
      rintro e_ w1915 ⟨rfl, hS⟩
      replace HS : Aside0 (Sep (fps []) w [b7 g1310 g1311 t1303.1 t1303.2.1 t1303.2.2.1 t1303.2.2.2.1, b6 g1311 A1312 ((t1303.2.2.2.2).length) n1314 t1913.2.1, r5 A1312 ((t1303.2.2.2.2).length) n1314 t1913.2.2] w1915) := ⟨HS.out.call (l := [b7 g1310 g1311 t1303.1 t1303.2.1 t1303.2.2.1 t1303.2.2.2.1, b6 g1311 A1312 ((t1303.2.2.2.2).length) n1314 t1909.2.1, r5 A1312 ((t1303.2.2.2.2).length) n1314 t1909.2.2]) (rest := []) hS⟩
      clear hS
      by_cases c1916 : t1913.1 = true
      · have H := if_yes c1916 H
        have c1916b0 : t1913.1 = true := c1916
        have c1916b1 : (!t1913.1) = false := by rw [c1916b0]; rfl
        try rw [c1916b1]
        clear c1916
        go_wp2_with fail
        obtain ⟨t2115, HA2116, H⟩ := bind_some H
        refine (chain_Push.calls t1913.2.2 t1913.2.1 t1303.1 t1303.2.1 t1303.2.2.1 t1303.2.2.2.1 1 7 g1310 g1311 A1312 ((t1303.2.2.2.2).length) n1314 t2115 _ ⟨HS.out.begin (l := [b7 g1310 g1311 t1303.1 t1303.2.1 t1303.2.2.1 t1303.2.2.2.1, b6 g1311 A1312 ((t1303.2.2.2.2).length) n1314 t1913.2.1, r5 A1312 ((t1303.2.2.2.2).length) n1314 t1913.2.2]) (rest := [])⟩ HA2116).mono ?_
        rintro e_ w2117 ⟨rfl, hS⟩
        replace HS : Aside0 (Sep (fps []) w [b7 g1310 g1311 t1303.1 t1303.2.1 t1303.2.2.1 t1303.2.2.2.1, b6 g1311 A1312 ((t1303.2.2.2.2).length) n1314 t2115.2.1, r5 A1312 ((t1303.2.2.2.2).length) n1314 t2115.2.2] w2117) := ⟨HS.out.call (l := [b7 g1310 g1311 t1303.1 t1303.2.1 t1303.2.2.1 t1303.2.2.2.1, b6 g1311 A1312 ((t1303.2.2.2.2).length) n1314 t1913.2.1, r5 A1312 ((t1303.2.2.2.2).length) n1314 t1913.2.2]) (rest := []) hS⟩
        clear hS
        by_cases c2118 : t2115.1 = true
        · have H := if_yes c2118 H
          have c2118b0 : t2115.1 = true := c2118
          have c2118b1 : (!t2115.1) = false := by rw [c2118b0]; rfl
          try rw [c2118b1]
          clear c2118
          go_wp2_with fail
          obtain ⟨t2267, HA2268, H⟩ := bind_some H
          refine (chain_List.calls _ t2115.2.2 t2115.2.1 t1303.1 t1303.2.1 t1303.2.2.1 t1303.2.2.2.1 1 g1310 g1311 A1312 ((t1303.2.2.2.2).length) n1314 t2267 _ ⟨HS.out.begin (l := [b7 g1310 g1311 t1303.1 t1303.2.1 t1303.2.2.1 t1303.2.2.2.1, b6 g1311 A1312 ((t1303.2.2.2.2).length) n1314 t2115.2.1, r5 A1312 ((t1303.2.2.2.2).length) n1314 t2115.2.2]) (rest := [])⟩ HA2268).mono ?_
          rintro e_ w2269 ⟨A2271, m2272, n2273, rfl, hS⟩
          replace HS : Aside0 (Sep (fps []) w [b7 g1310 g1311 t1303.1 t1303.2.1 t1303.2.2.1 t1303.2.2.2.1, b6 g1311 A1312 ((t1303.2.2.2.2).length) n1314 t2115.2.1, r5 A1312 ((t1303.2.2.2.2).length) n1314 t2115.2.2, r11 A2271 m2272 n2273 t2267] w2269) := ⟨HS.out.call (l := [b7 g1310 g1311 t1303.1 t1303.2.1 t1303.2.2.1 t1303.2.2.2.1, b6 g1311 A1312 ((t1303.2.2.2.2).length) n1314 t2115.2.1, r5 A1312 ((t1303.2.2.2.2).length) n1314 t2115.2.2]) (rest := []) hS⟩
          clear hS
          obtain rfl := (row_len (HS.out.at3)).symm
          go_wp2_with (first | ((with_reducible refine gate_dst (N := 27) rfl ?_); refine slice_on (n := 3) ?hg (N := 27) ?hd (cs := #[.int .i64 7, .int .i64 4, .int .i64 2]) (t := 3) ?hr ?_; (case hd => rfl); (case hg => rfl); (case hr => first | (go_simp; done) | (go_simp; rfl)); intro g2275 hg w2276 hbox hb; replace HS : Aside0 (Sep (fps []) w [b7 g1310 g1311 t1303.1 t1303.2.1 t1303.2.2.1 t1303.2.2.2.1, b6 g1311 A1312 ((t1303.2.2.2.2).length) n1314 t2115.2.1, r5 A1312 ((t1303.2.2.2.2).length) n1314 t2115.2.2, r11 A2271 t2267.length n2273 t2267, b4 g2275 7 4 2] w2276) := ⟨HS.out.box hg hbox hb⟩; clear hg hbox hb))
          obtain ⟨t2317, HA2318, H⟩ := bind_some H
          refine (quitrentref01_Ints.calls _ t2267 [7, 4, 2] A2271 n2273 (some ⟨g2275, 0, none⟩) 3 t2317 _ ⟨Rd.ownI (l := []) (rest := [b7 g1310 g1311 t1303.1 t1303.2.1 t1303.2.2.1 t1303.2.2.2.1, b6 g1311 A1312 ((t1303.2.2.2.2).length) n1314 t2115.2.1, r5 A1312 ((t1303.2.2.2.2).length) n1314 t2115.2.2, r11 A2271 t2267.length n2273 t2267, b4 g2275 7 4 2]) HS.out 3 rfl⟩ ⟨Rd.lit (l := []) (rest := [b7 g1310 g1311 t1303.1 t1303.2.1 t1303.2.2.1 t1303.2.2.2.1, b6 g1311 A1312 ((t1303.2.2.2.2).length) n1314 t2115.2.1, r5 A1312 ((t1303.2.2.2.2).length) n1314 t2115.2.2, r11 A2271 t2267.length n2273 t2267, b4 g2275 7 4 2]) (xs := [7, 4, 2]) HS.out 4 rfl (by simp)⟩ ⟨HS.out.begin (l := []) (rest := [b7 g1310 g1311 t1303.1 t1303.2.1 t1303.2.2.1 t1303.2.2.2.1, b6 g1311 A1312 ((t1303.2.2.2.2).length) n1314 t2115.2.1, r5 A1312 ((t1303.2.2.2.2).length) n1314 t2115.2.2, r11 A2271 t2267.length n2273 t2267, b4 g2275 7 4 2])⟩ HA2318).mono ?_
          rintro e_ w2319 ⟨rfl, hS⟩
          replace HS : Aside0 (Sep (fps []) w [b7 g1310 g1311 t1303.1 t1303.2.1 t1303.2.2.1 t1303.2.2.2.1, b6 g1311 A1312 ((t1303.2.2.2.2).length) n1314 t2115.2.1, r5 A1312 ((t1303.2.2.2.2).length) n1314 t2115.2.2, r11 A2271 t2267.length n2273 t2267, b4 g2275 7 4 2] w2319) := ⟨HS.out.call (l := []) (rest := [b7 g1310 g1311 t1303.1 t1303.2.1 t1303.2.2.1 t1303.2.2.2.1, b6 g1311 A1312 ((t1303.2.2.2.2).length) n1314 t2115.2.1, r5 A1312 ((t1303.2.2.2.2).length) n1314 t2115.2.2, r11 A2271 t2267.length n2273 t2267, b4 g2275 7 4 2]) hS⟩
          clear hS
          by_cases c2320 : t2317 = true
          · have H := if_yes c2320 H
            have c2320b0 : t2317 = true := c2320
            have c2320b1 : (!t2317) = false := by rw [c2320b0]; rfl
            clear c2320
            go_wp2_with fail
            obtain ⟨t2321, HA2322, H⟩ := bind_some H
            refine (ground_Ground_SeeReg.calls t2115.2.2 t2115.2.1 t1303.1 t1303.2.1 t1303.2.2.1 t1303.2.2.2.1 3 g1310 g1311 A1312 ((t1303.2.2.2.2).length) n1314 t2321 _ ⟨HS.out.begin (l := [b7 g1310 g1311 t1303.1 t1303.2.1 t1303.2.2.1 t1303.2.2.2.1, b6 g1311 A1312 ((t1303.2.2.2.2).length) n1314 t2115.2.1, r5 A1312 ((t1303.2.2.2.2).length) n1314 t2115.2.2]) (rest := [r11 A2271 t2267.length n2273 t2267, b4 g2275 7 4 2])⟩ HA2322).mono ?_
            rintro e_ w2323 ⟨rfl, hS⟩
            replace HS : Aside0 (Sep (fps []) w [b7 g1310 g1311 t1303.1 t1303.2.1 t1303.2.2.1 t1303.2.2.2.1, b6 g1311 A1312 ((t1303.2.2.2.2).length) n1314 t2115.2.1, r5 A1312 ((t1303.2.2.2.2).length) n1314 t2115.2.2, r11 A2271 t2267.length n2273 t2267, b4 g2275 7 4 2] w2323) := ⟨HS.out.call (l := [b7 g1310 g1311 t1303.1 t1303.2.1 t1303.2.2.1 t1303.2.2.2.1, b6 g1311 A1312 ((t1303.2.2.2.2).length) n1314 t2115.2.1, r5 A1312 ((t1303.2.2.2.2).length) n1314 t2115.2.2]) (rest := [r11 A2271 t2267.length n2273 t2267, b4 g2275 7 4 2]) hS⟩
            clear hS
            by_cases c2324 : t2321 = 8
            · have H := if_yes c2324 H
              have c2324b0 : (t2321 == 8) = true := beq_iff_eq.mpr c2324
              have c2324b1 : (t2321 != 8) = false := bne_eq_false_iff_eq.mpr c2324
              clear c2324
              go_wp2_with fail
              obtain ⟨t2325, HA2326, H⟩ := bind_some H
              refine (ground_Ground_SeeReg.calls t2115.2.2 t2115.2.1 t1303.1 t1303.2.1 t1303.2.2.1 t1303.2.2.2.1 4 g1310 g1311 A1312 ((t1303.2.2.2.2).length) n1314 t2325 _ ⟨HS.out.begin (l := [b7 g1310 g1311 t1303.1 t1303.2.1 t1303.2.2.1 t1303.2.2.2.1, b6 g1311 A1312 ((t1303.2.2.2.2).length) n1314 t2115.2.1, r5 A1312 ((t1303.2.2.2.2).length) n1314 t2115.2.2]) (rest := [r11 A2271 t2267.length n2273 t2267, b4 g2275 7 4 2])⟩ HA2326).mono ?_
              rintro e_ w2327 ⟨rfl, hS⟩
              replace HS : Aside0 (Sep (fps []) w [b7 g1310 g1311 t1303.1 t1303.2.1 t1303.2.2.1 t1303.2.2.2.1, b6 g1311 A1312 ((t1303.2.2.2.2).length) n1314 t2115.2.1, r5 A1312 ((t1303.2.2.2.2).length) n1314 t2115.2.2, r11 A2271 t2267.length n2273 t2267, b4 g2275 7 4 2] w2327) := ⟨HS.out.call (l := [b7 g1310 g1311 t1303.1 t1303.2.1 t1303.2.2.1 t1303.2.2.2.1, b6 g1311 A1312 ((t1303.2.2.2.2).length) n1314 t2115.2.1, r5 A1312 ((t1303.2.2.2.2).length) n1314 t2115.2.2]) (rest := [r11 A2271 t2267.length n2273 t2267, b4 g2275 7 4 2]) hS⟩
              clear hS
              by_cases c2328 : t2325 = 3
              · have H := if_yes c2328 H
                have c2328b0 : (t2325 == 3) = true := beq_iff_eq.mpr c2328
                have c2328b1 : (t2325 != 3) = false := bne_eq_false_iff_eq.mpr c2328
                clear c2328
                go_wp2_with fail
                obtain ⟨t2329, HA2330, H⟩ := bind_some H
                refine (ground_Ground_SeeReg.calls t2115.2.2 t2115.2.1 t1303.1 t1303.2.1 t1303.2.2.1 t1303.2.2.2.1 5 g1310 g1311 A1312 ((t1303.2.2.2.2).length) n1314 t2329 _ ⟨HS.out.begin (l := [b7 g1310 g1311 t1303.1 t1303.2.1 t1303.2.2.1 t1303.2.2.2.1, b6 g1311 A1312 ((t1303.2.2.2.2).length) n1314 t2115.2.1, r5 A1312 ((t1303.2.2.2.2).length) n1314 t2115.2.2]) (rest := [r11 A2271 t2267.length n2273 t2267, b4 g2275 7 4 2])⟩ HA2330).mono ?_
                rintro e_ w2331 ⟨rfl, hS⟩
                replace HS : Aside0 (Sep (fps []) w [b7 g1310 g1311 t1303.1 t1303.2.1 t1303.2.2.1 t1303.2.2.2.1, b6 g1311 A1312 ((t1303.2.2.2.2).length) n1314 t2115.2.1, r5 A1312 ((t1303.2.2.2.2).length) n1314 t2115.2.2, r11 A2271 t2267.length n2273 t2267, b4 g2275 7 4 2] w2331) := ⟨HS.out.call (l := [b7 g1310 g1311 t1303.1 t1303.2.1 t1303.2.2.1 t1303.2.2.2.1, b6 g1311 A1312 ((t1303.2.2.2.2).length) n1314 t2115.2.1, r5 A1312 ((t1303.2.2.2.2).length) n1314 t2115.2.2]) (rest := [r11 A2271 t2267.length n2273 t2267, b4 g2275 7 4 2]) hS⟩
                clear hS
                replace HS : Aside0 (Sep (fps []) w [] w2331) := ⟨HS.out.sub (.cons _ (.cons _ (.cons _ (.cons _ (.cons _ .slnil)))))⟩
                go_wp2_with fail
                go_ret
                rw [← some_eq H]
                exact ⟨(by first | rfl | (simp [IntKind.wrap_u32]; done)), (HS.out).keep (l := []) (rest := [])⟩
              · have H := if_no c2328 H
                have c2328b0 : (t2325 == 3) = false := beq_eq_false_iff_ne.mpr c2328
                have c2328b1 : (t2325 != 3) = true := bne_iff_ne.mpr c2328
                clear c2328
                replace HS : Aside0 (Sep (fps []) w [] w2327) := ⟨HS.out.sub (.cons _ (.cons _ (.cons _ (.cons _ (.cons _ .slnil)))))⟩
                go_wp2_with fail
                go_ret
                rw [← some_eq H]
                exact ⟨(by first | rfl | (simp [IntKind.wrap_u32]; done)), (HS.out).keep (l := []) (rest := [])⟩
            · have H := if_no c2324 H
              have c2324b0 : (t2321 == 8) = false := beq_eq_false_iff_ne.mpr c2324
              have c2324b1 : (t2321 != 8) = true := bne_iff_ne.mpr c2324
              clear c2324
              replace HS : Aside0 (Sep (fps []) w [] w2323) := ⟨HS.out.sub (.cons _ (.cons _ (.cons _ (.cons _ (.cons _ .slnil)))))⟩
              go_wp2_with fail
              go_ret
              rw [← some_eq H]
              exact ⟨(by first | rfl | (simp [IntKind.wrap_u32]; done)), (HS.out).keep (l := []) (rest := [])⟩
          · have H := if_no c2320 H
            have c2320b0 : t2317 = false := by simpa using c2320
            have c2320b1 : (!t2317) = true := by rw [c2320b0]; rfl
            clear c2320
            replace HS : Aside0 (Sep (fps []) w [] w2319) := ⟨HS.out.sub (.cons _ (.cons _ (.cons _ (.cons _ (.cons _ .slnil)))))⟩
            go_wp2_with fail
            go_ret
            rw [← some_eq H]
            exact ⟨(by first | rfl | (simp [IntKind.wrap_u32]; done)), (HS.out).keep (l := []) (rest := [])⟩
        · have H := if_no c2118 H
          have c2118b0 : t2115.1 = false := by simpa using c2118
          have c2118b1 : (!t2115.1) = true := by rw [c2118b0]; rfl
          try rw [c2118b1]
          clear c2118
          replace HS : Aside0 (Sep (fps []) w [] w2117) := ⟨HS.out.sub (.cons _ (.cons _ (.cons _ .slnil)))⟩
          go_wp2_with fail
          go_ret
          rw [← some_eq H]
          exact ⟨(by first | rfl | (simp [IntKind.wrap_u32]; done)), (HS.out).keep (l := []) (rest := [])⟩
      · have H := if_no c1916 H
        have c1916b0 : t1913.1 = false := by simpa using c1916
        have c1916b1 : (!t1913.1) = true := by rw [c1916b0]; rfl
        try rw [c1916b1]
        clear c1916
        replace HS : Aside0 (Sep (fps []) w [] w1915) := ⟨HS.out.sub (.cons _ (.cons _ (.cons _ .slnil)))⟩
        go_wp2_with fail
        go_ret
        rw [← some_eq H]
        exact ⟨(by first | rfl | (simp [IntKind.wrap_u32]; done)), (HS.out).keep (l := []) (rest := [])⟩
    · have H := if_no c1912 H
      have c1912b0 : t1909.1 = false := by simpa using c1912
      have c1912b1 : (!t1909.1) = true := by rw [c1912b0]; rfl
      try rw [c1912b1]
      clear c1912
      replace HS : Aside0 (Sep (fps []) w [] w1911) := ⟨HS.out.sub (.cons _ (.cons _ (.cons _ .slnil)))⟩
      go_wp2_with fail
      go_ret
      rw [← some_eq H]
      exact ⟨(by first | rfl | (simp [IntKind.wrap_u32]; done)), (HS.out).keep (l := []) (rest := [])⟩
  · have H := sum_r H
    have H := sum_r H
    refine (ground_New.calls _ 9 16 1 1 (.inr (.inr t1304)) _ ⟨HS.out.begin (l := []) (rest := [])⟩ HA1301).mono ?_
    rintro e_ w2332 ⟨rfl, hS⟩
    replace HS : Aside0 (Sep (fps []) w [] w2332) := ⟨HS.out.call (l := []) (rest := []) hS⟩
    clear hS
    by_cases c2333 : t1304 = 0
    · have H := if_yes c2333 H
      have c2333b0 : (t1304 == 0) = true := beq_iff_eq.mpr c2333
      have c2333b1 : (t1304 != 0) = false := bne_eq_false_iff_eq.mpr c2333
      clear c2333
      go_wp2_with fail
      obtain ⟨t1909, HA2334, H⟩ := bind_some H
      refine (chain_Add_nil.calls 1 4 t1909 _ ⟨HS.out.begin (l := []) (rest := [])⟩ HA2334).mono ?_
      rintro e_ w2335 ⟨rfl, hS⟩
      replace HS : Aside0 (Sep (fps []) w [] w2335) := ⟨HS.out.call (l := []) (rest := []) hS⟩
      clear hS
      by_cases c2336 : t1909 = true
      · have H := if_yes c2336 H
        have c2336b0 : t1909 = true := c2336
        have c2336b1 : (!t1909) = false := by rw [c2336b0]; rfl
        try rw [c2336b1]
        clear c2336
        go_wp2_with fail
        obtain ⟨t1913, HA2337, H⟩ := bind_some H
        refine (chain_Add_nil.calls 1 2 t1913 _ ⟨HS.out.begin (l := []) (rest := [])⟩ HA2337).mono ?_
        rintro e_ w2338 ⟨rfl, hS⟩
        replace HS : Aside0 (Sep (fps []) w [] w2338) := ⟨HS.out.call (l := []) (rest := []) hS⟩
        clear hS
        by_cases c2339 : t1913 = true
        · have H := if_yes c2339 H
          have c2339b0 : t1913 = true := c2339
          have c2339b1 : (!t1913) = false := by rw [c2339b0]; rfl
          try rw [c2339b1]
          clear c2339
          go_wp2_with fail
          obtain ⟨t2115, HA2340, H⟩ := bind_some H
          refine (chain_Push_nil.calls 1 7 t2115 _ ⟨HS.out.begin (l := []) (rest := [])⟩ HA2340).mono ?_
          rintro e_ w2341 ⟨rfl, hS⟩
          replace HS : Aside0 (Sep (fps []) w [] w2341) := ⟨HS.out.call (l := []) (rest := []) hS⟩
          clear hS
          by_cases c2342 : t2115 = true
          · have H := if_yes c2342 H
            have c2342b0 : t2115 = true := c2342
            have c2342b1 : (!t2115) = false := by rw [c2342b0]; rfl
            try rw [c2342b1]
            clear c2342
            go_wp2_with fail
            obtain ⟨t2267, HA2343, H⟩ := bind_some H
            refine (chain_List_nil.calls _ 1 t2267 _ ⟨HS.out.begin (l := []) (rest := [])⟩ HA2343).mono ?_
            rintro e_ w2344 ⟨A2346, m2347, n2348, rfl, hS⟩
            replace HS : Aside0 (Sep (fps []) w [r11 A2346 m2347 n2348 t2267] w2344) := ⟨HS.out.call (l := []) (rest := []) hS⟩
            clear hS
            obtain rfl := (row_len (HS.out.at0)).symm
            go_wp2_with (first | ((with_reducible refine gate_dst (N := 27) rfl ?_); refine slice_on (n := 3) ?hg (N := 27) ?hd (cs := #[.int .i64 7, .int .i64 4, .int .i64 2]) (t := 3) ?hr ?_; (case hd => rfl); (case hg => rfl); (case hr => first | (go_simp; done) | (go_simp; rfl)); intro g2350 hg w2351 hbox hb; replace HS : Aside0 (Sep (fps []) w [r11 A2346 t2267.length n2348 t2267, b4 g2350 7 4 2] w2351) := ⟨HS.out.box hg hbox hb⟩; clear hg hbox hb))
            obtain ⟨t2317, HA2353, H⟩ := bind_some H
            refine (quitrentref01_Ints.calls _ t2267 [7, 4, 2] A2346 n2348 (some ⟨g2350, 0, none⟩) 3 t2317 _ ⟨Rd.ownI (l := []) (rest := [r11 A2346 t2267.length n2348 t2267, b4 g2350 7 4 2]) HS.out 0 rfl⟩ ⟨Rd.lit (l := []) (rest := [r11 A2346 t2267.length n2348 t2267, b4 g2350 7 4 2]) (xs := [7, 4, 2]) HS.out 1 rfl (by simp)⟩ ⟨HS.out.begin (l := []) (rest := [r11 A2346 t2267.length n2348 t2267, b4 g2350 7 4 2])⟩ HA2353).mono ?_
            rintro e_ w2354 ⟨rfl, hS⟩
            replace HS : Aside0 (Sep (fps []) w [r11 A2346 t2267.length n2348 t2267, b4 g2350 7 4 2] w2354) := ⟨HS.out.call (l := []) (rest := [r11 A2346 t2267.length n2348 t2267, b4 g2350 7 4 2]) hS⟩
            clear hS
            by_cases c2355 : t2317 = true
            · have H := if_yes c2355 H
              have c2355b0 : t2317 = true := c2355
              have c2355b1 : (!t2317) = false := by rw [c2355b0]; rfl
              clear c2355
              go_wp2_with fail
              obtain ⟨t2321, HA2356, H⟩ := bind_some H
              refine (ground_Ground_SeeReg_nil.calls 3 t2321 _ ⟨HS.out.begin (l := []) (rest := [r11 A2346 t2267.length n2348 t2267, b4 g2350 7 4 2])⟩ HA2356).mono ?_
              rintro e_ w2357 ⟨rfl, hS⟩
              replace HS : Aside0 (Sep (fps []) w [r11 A2346 t2267.length n2348 t2267, b4 g2350 7 4 2] w2357) := ⟨HS.out.call (l := []) (rest := [r11 A2346 t2267.length n2348 t2267, b4 g2350 7 4 2]) hS⟩
              clear hS
              by_cases c2358 : t2321 = 8
              · have H := if_yes c2358 H
                have c2358b0 : (t2321 == 8) = true := beq_iff_eq.mpr c2358
                have c2358b1 : (t2321 != 8) = false := bne_eq_false_iff_eq.mpr c2358
                clear c2358
                go_wp2_with fail
                obtain ⟨t2325, HA2359, H⟩ := bind_some H
                refine (ground_Ground_SeeReg_nil.calls 4 t2325 _ ⟨HS.out.begin (l := []) (rest := [r11 A2346 t2267.length n2348 t2267, b4 g2350 7 4 2])⟩ HA2359).mono ?_
                rintro e_ w2360 ⟨rfl, hS⟩
                replace HS : Aside0 (Sep (fps []) w [r11 A2346 t2267.length n2348 t2267, b4 g2350 7 4 2] w2360) := ⟨HS.out.call (l := []) (rest := [r11 A2346 t2267.length n2348 t2267, b4 g2350 7 4 2]) hS⟩
                clear hS
                by_cases c2361 : t2325 = 3
                · have H := if_yes c2361 H
                  have c2361b0 : (t2325 == 3) = true := beq_iff_eq.mpr c2361
                  have c2361b1 : (t2325 != 3) = false := bne_eq_false_iff_eq.mpr c2361
                  clear c2361
                  go_wp2_with fail
                  obtain ⟨t2329, HA2362, H⟩ := bind_some H
                  refine (ground_Ground_SeeReg_nil.calls 5 t2329 _ ⟨HS.out.begin (l := []) (rest := [r11 A2346 t2267.length n2348 t2267, b4 g2350 7 4 2])⟩ HA2362).mono ?_
                  rintro e_ w2363 ⟨rfl, hS⟩
                  replace HS : Aside0 (Sep (fps []) w [r11 A2346 t2267.length n2348 t2267, b4 g2350 7 4 2] w2363) := ⟨HS.out.call (l := []) (rest := [r11 A2346 t2267.length n2348 t2267, b4 g2350 7 4 2]) hS⟩
                  clear hS
                  replace HS : Aside0 (Sep (fps []) w [] w2363) := ⟨HS.out.sub (.cons _ (.cons _ .slnil))⟩
                  go_wp2_with fail
                  go_ret
                  rw [← some_eq H]
                  exact ⟨(by first | rfl | (simp [IntKind.wrap_u32]; done)), (HS.out).keep (l := []) (rest := [])⟩
                · have H := if_no c2361 H
                  have c2361b0 : (t2325 == 3) = false := beq_eq_false_iff_ne.mpr c2361
                  have c2361b1 : (t2325 != 3) = true := bne_iff_ne.mpr c2361
                  clear c2361
                  replace HS : Aside0 (Sep (fps []) w [] w2360) := ⟨HS.out.sub (.cons _ (.cons _ .slnil))⟩
                  go_wp2_with fail
                  go_ret
                  rw [← some_eq H]
                  exact ⟨(by first | rfl | (simp [IntKind.wrap_u32]; done)), (HS.out).keep (l := []) (rest := [])⟩
              · have H := if_no c2358 H
                have c2358b0 : (t2321 == 8) = false := beq_eq_false_iff_ne.mpr c2358
                have c2358b1 : (t2321 != 8) = true := bne_iff_ne.mpr c2358
                clear c2358
                replace HS : Aside0 (Sep (fps []) w [] w2357) := ⟨HS.out.sub (.cons _ (.cons _ .slnil))⟩
                go_wp2_with fail
                go_ret
                rw [← some_eq H]
                exact ⟨(by first | rfl | (simp [IntKind.wrap_u32]; done)), (HS.out).keep (l := []) (rest := [])⟩
            · have H := if_no c2355 H
              have c2355b0 : t2317 = false := by simpa using c2355
              have c2355b1 : (!t2317) = true := by rw [c2355b0]; rfl
              clear c2355
              replace HS : Aside0 (Sep (fps []) w [] w2354) := ⟨HS.out.sub (.cons _ (.cons _ .slnil))⟩
              go_wp2_with fail
              go_ret
              rw [← some_eq H]
              exact ⟨(by first | rfl | (simp [IntKind.wrap_u32]; done)), (HS.out).keep (l := []) (rest := [])⟩
          · have H := if_no c2342 H
            have c2342b0 : t2115 = false := by simpa using c2342
            have c2342b1 : (!t2115) = true := by rw [c2342b0]; rfl
            try rw [c2342b1]
            clear c2342
            go_wp2_with fail
            go_ret
            rw [← some_eq H]
            exact ⟨(by first | rfl | (simp [IntKind.wrap_u32]; done)), (HS.out).keep (l := []) (rest := [])⟩
        · have H := if_no c2339 H
          have c2339b0 : t1913 = false := by simpa using c2339
          have c2339b1 : (!t1913) = true := by rw [c2339b0]; rfl
          try rw [c2339b1]
          clear c2339
          go_wp2_with fail
          go_ret
          rw [← some_eq H]
          exact ⟨(by first | rfl | (simp [IntKind.wrap_u32]; done)), (HS.out).keep (l := []) (rest := [])⟩
      · have H := if_no c2336 H
        have c2336b0 : t1909 = false := by simpa using c2336
        have c2336b1 : (!t1909) = true := by rw [c2336b0]; rfl
        try rw [c2336b1]
        clear c2336
        go_wp2_with fail
        go_ret
        rw [← some_eq H]
        exact ⟨(by first | rfl | (simp [IntKind.wrap_u32]; done)), (HS.out).keep (l := []) (rest := [])⟩
    · have H := if_no c2333 H
      have c2333b0 : (t1304 == 0) = false := beq_eq_false_iff_ne.mpr c2333
      have c2333b1 : (t1304 != 0) = true := bne_iff_ne.mpr c2333
      clear c2333
      go_wp2_with fail
      go_ret
      rw [← some_eq H]
      exact ⟨(by first | rfl | (simp [IntKind.wrap_u32]; done)), (HS.out).keep (l := []) (rest := [])⟩

set_option maxHeartbeats 30000000 in
set_option maxRecDepth 100000 in
theorem ground_Ground_Word.calls (l2429 : List Int) (a2434 : Int) (a2435 : Int) (a2436 : Int) (a2437 : Int) (a2438 : Int) (a2439 : Int) (a2440 : Int) (g2425 : Nat) (g2427 : Nat) (A2430 : Option Addr) (m2431 : Nat) (n2432 : Nat) (r : Int × Int) (w : World)   (HS : Aside0 (Sep (fps [b7 g2425 g2427 a2435 a2436 a2437 a2438, b6 g2427 A2430 m2431 n2432 a2434, r5 A2430 m2431 n2432 l2429]) w [b7 g2425 g2427 a2435 a2436 a2437 a2438, b6 g2427 A2430 m2431 n2432 a2434, r5 A2430 m2431 n2432 l2429] w)) (H : Aside0 (ground_Ground_Word.f l2429 a2434 a2435 a2436 a2437 a2438 a2439 a2440 = some r)) :
    Calls Try.prog 45 #[.pointer (some ⟨g2425, 0, none⟩), .int .i64 a2439, .int .i64 a2440] w fun e w' => e = .returned (.int .u32 r.1) ∧ Sep (fps [b7 g2425 g2427 a2435 a2436 a2437 a2438, b6 g2427 A2430 m2431 n2432 a2434, r5 A2430 m2431 n2432 l2429]) w [b7 g2425 g2427 a2435 a2436 a2437 a2438, b6 g2427 A2430 m2431 n2432 r.2, r5 A2430 m2431 n2432 l2429] w' := by
  generalize (fps [b7 g2425 g2427 a2435 a2436 a2437 a2438, b6 g2427 A2430 m2431 n2432 a2434, r5 A2430 m2431 n2432 l2429]) = FF at HS ⊢
  obtain rfl := (row_len (HS.out.at2)).symm
  unfold ground_Ground_Word.f at H
  go_enter Try.func45, Try.ntmps45
  go_wp2_with fail
  obtain ⟨t2450, HA2451, H⟩ := bind_some H
  refine (ground_Ground_all.calls l2429 a2434 a2435 a2436 a2437 a2438 g2425 g2427 A2430 l2429.length n2432 t2450 _ ⟨HS.out.begin (l := [b7 g2425 g2427 a2435 a2436 a2437 a2438, b6 g2427 A2430 l2429.length n2432 a2434, r5 A2430 l2429.length n2432 l2429]) (rest := [])⟩ HA2451).mono ?_
  rintro e_ w2452 ⟨rfl, hS⟩
  replace HS : Aside0 (Sep FF w [b7 g2425 g2427 a2435 a2436 a2437 a2438, b6 g2427 A2430 l2429.length n2432 a2434, r5 A2430 l2429.length n2432 l2429] w2452) := ⟨HS.out.call (l := [b7 g2425 g2427 a2435 a2436 a2437 a2438, b6 g2427 A2430 l2429.length n2432 a2434, r5 A2430 l2429.length n2432 l2429]) (rest := []) hS⟩
  clear hS
  go_wp2_with fail
  obtain ⟨t2453, HA2454, H⟩ := bind_some H
  refine (ground_Ground_word.calls l2429 a2434 a2435 a2436 a2437 a2438 a2439 a2440 g2425 g2427 A2430 l2429.length n2432 t2453 _ ⟨HS.out.begin (l := [b7 g2425 g2427 a2435 a2436 a2437 a2438, b6 g2427 A2430 l2429.length n2432 a2434, r5 A2430 l2429.length n2432 l2429]) (rest := [])⟩ HA2454).mono ?_
  rintro e_ w2455 ⟨rfl, hS⟩
  replace HS : Aside0 (Sep FF w [b7 g2425 g2427 a2435 a2436 a2437 a2438, b6 g2427 A2430 l2429.length n2432 a2434, r5 A2430 l2429.length n2432 l2429] w2455) := ⟨HS.out.call (l := [b7 g2425 g2427 a2435 a2436 a2437 a2438, b6 g2427 A2430 l2429.length n2432 a2434, r5 A2430 l2429.length n2432 l2429]) (rest := []) hS⟩
  clear hS
  go_wp2_with fail
  replace HS : Aside0 (Sep FF w [r5 A2430 l2429.length n2432 l2429, b7 g2425 g2427 a2435 a2436 a2437 a2438, b6 g2427 A2430 l2429.length n2432 a2434] w2455) := ⟨HS.out.front 2 (by simp)⟩
  replace HS : Aside0 (Sep FF w [b6 g2427 A2430 l2429.length n2432 a2434, r5 A2430 l2429.length n2432 l2429, b7 g2425 g2427 a2435 a2436 a2437 a2438] w2455) := ⟨HS.out.front 2 (by simp)⟩
  obtain ⟨t2456, HA2457, H⟩ := bind_some H
  refine (store_Store_Get.calls l2429 a2434 t2453 g2427 A2430 l2429.length n2432 t2456 _ ⟨HS.out.begin (l := [b6 g2427 A2430 l2429.length n2432 a2434, r5 A2430 l2429.length n2432 l2429]) (rest := [b7 g2425 g2427 a2435 a2436 a2437 a2438])⟩ HA2457).mono ?_
  rintro e_ w2458 ⟨rfl, hS⟩
  replace HS : Aside0 (Sep FF w [b6 g2427 A2430 l2429.length n2432 t2456.2, r5 A2430 l2429.length n2432 l2429, b7 g2425 g2427 a2435 a2436 a2437 a2438] w2458) := ⟨HS.out.call (l := [b6 g2427 A2430 l2429.length n2432 a2434, r5 A2430 l2429.length n2432 l2429]) (rest := [b7 g2425 g2427 a2435 a2436 a2437 a2438]) hS⟩
  clear hS
  go_wp2_with fail
  go_ret
  rw [← some_eq H]
  exact ⟨(by first | rfl | (simp [IntKind.wrap_u32]; done)), ((((HS.out).front 1 (by simp)).front 1 (by simp)).front 2 (by simp)).keep (l := [b7 g2425 g2427 a2435 a2436 a2437 a2438, b6 g2427 A2430 l2429.length n2432 t2456.2, r5 A2430 l2429.length n2432 l2429]) (rest := [])⟩

set_option maxHeartbeats 30000000 in
set_option maxRecDepth 100000 in
theorem chain_Take.calls (l2375 : List Int) (a2380 : Int) (a2381 : Int) (a2382 : Int) (a2383 : Int) (a2384 : Int) (a2385 : Int) (g2371 : Nat) (g2373 : Nat) (A2376 : Option Addr) (m2377 : Nat) (n2378 : Nat) (r : Int × Bool × Int × List Int) (w : World)   (HS : Aside0 (Sep (fps [b7 g2371 g2373 a2381 a2382 a2383 a2384, b6 g2373 A2376 m2377 n2378 a2380, r5 A2376 m2377 n2378 l2375]) w [b7 g2371 g2373 a2381 a2382 a2383 a2384, b6 g2373 A2376 m2377 n2378 a2380, r5 A2376 m2377 n2378 l2375] w)) (H : Aside0 (chain_Take.f l2375 a2380 a2381 a2382 a2383 a2384 a2385 = some r)) :
    Calls Try.prog 54 #[.pointer (some ⟨g2371, 0, none⟩), .int .i64 a2385] w fun e w' => e = .returned (.tuple #[.int .i64 r.1, .bool r.2.1]) ∧ Sep (fps [b7 g2371 g2373 a2381 a2382 a2383 a2384, b6 g2373 A2376 m2377 n2378 a2380, r5 A2376 m2377 n2378 l2375]) w [b7 g2371 g2373 a2381 a2382 a2383 a2384, b6 g2373 A2376 m2377 n2378 r.2.2.1, r5 A2376 m2377 n2378 r.2.2.2] w' := by
  generalize (fps [b7 g2371 g2373 a2381 a2382 a2383 a2384, b6 g2373 A2376 m2377 n2378 a2380, r5 A2376 m2377 n2378 l2375]) = FF at HS ⊢
  obtain rfl := (row_len (HS.out.at2)).symm
  unfold chain_Take.f at H
  go_enter Try.func54, Try.ntmps54
  go_wp2_with fail
  obtain ⟨t2482, HA2483, H⟩ := bind_some H
  refine (chain_of.calls l2375 a2380 a2381 a2382 a2383 a2384 a2385 g2371 g2373 A2376 l2375.length n2378 t2482 _ ⟨HS.out.begin (l := [b7 g2371 g2373 a2381 a2382 a2383 a2384, b6 g2373 A2376 l2375.length n2378 a2380, r5 A2376 l2375.length n2378 l2375]) (rest := [])⟩ HA2483).mono ?_
  rintro e_ w2484 ⟨rfl, hS⟩
  replace HS : Aside0 (Sep FF w [b7 g2371 g2373 a2381 a2382 a2383 a2384, b6 g2373 A2376 l2375.length n2378 a2380, r5 A2376 l2375.length n2378 l2375] w2484) := ⟨HS.out.call (l := [b7 g2371 g2373 a2381 a2382 a2383 a2384, b6 g2373 A2376 l2375.length n2378 a2380, r5 A2376 l2375.length n2378 l2375]) (rest := []) hS⟩
  clear hS
  by_cases c2495 : t2482.2.2.2 = true
  · have H := if_yes c2495 H
    have c2495b0 : t2482.2.2.2 = true := c2495
    have c2495b1 : (!t2482.2.2.2) = false := by rw [c2495b0]; rfl
    try rw [c2495b1]
    clear c2495
    go_wp2_with (first | ((with_reducible refine gate_dst (N := 6) rfl ?_); refine box_on ?hg (N := 6) ?hd (cs := #[.int .i64 0, .int .i64 0, .int .i64 0]) (t := 134) ?hr ?_; (case hd => rfl); (case hg => rfl); (case hr => first | (go_simp; done) | (go_simp; rfl)); intro g2485 hg w2486 hbox hb; replace HS : Aside0 (Sep FF w [b7 g2371 g2373 a2381 a2382 a2383 a2384, b6 g2373 A2376 l2375.length n2378 a2380, r5 A2376 l2375.length n2378 l2375, b8 g2485 0 0 0] w2486) := ⟨HS.out.box hg hbox hb⟩; clear hg hbox hb; have hc2488 : w2486.cell? ⟨g2485, 0, none⟩ = some (.int .i64 0) := blk_cellv (HS.out.at3) 0 rfl; have hz2489 : w2486.frozen? ⟨g2485, 0, none⟩ = false := blk_fz (HS.out.at3) 0; have hc2490 : w2486.cell? ⟨g2485, 1, none⟩ = some (.int .i64 0) := blk_cellv (HS.out.at3) 1 rfl; have hz2491 : w2486.frozen? ⟨g2485, 1, none⟩ = false := blk_fz (HS.out.at3) 1; have hc2492 : w2486.cell? ⟨g2485, 2, none⟩ = some (.int .i64 0) := blk_cellv (HS.out.at3) 2 rfl; have hz2493 : w2486.frozen? ⟨g2485, 2, none⟩ = false := blk_fz (HS.out.at3) 2) | ((with_reducible refine gate_store (t := 134) (p := 6) rfl ?_); refine store_event (w1 := (World.setCell (World.setCell (World.setCell w2486 ⟨g2485, 0, none⟩ (.int .i64 t2482.1)) ⟨g2485, 1, none⟩ (.int .i64 t2482.2.1)) ⟨g2485, 2, none⟩ (.int .i64 t2482.2.2.1))) rfl (t := 134) (p := 6) rfl rfl ?hr ?_; (case hr => first | (go_simp; done) | (go_simp; rfl)); intro w2494 hst; clear hc2488 hz2489 hc2490 hz2491 hc2492 hz2493; replace HS : Aside0 (Sep FF w [b7 g2371 g2373 a2381 a2382 a2383 a2384, b6 g2373 A2376 l2375.length n2378 a2380, r5 A2376 l2375.length n2378 l2375, b8 g2485 t2482.1 t2482.2.1 t2482.2.2.1] w2494) := ⟨by rw [hst]; exact HS.out.setAll (l1 := [b7 g2371 g2373 a2381 a2382 a2383 a2384, b6 g2373 A2376 l2375.length n2378 a2380, r5 A2376 l2375.length n2378 l2375]) (l2 := []) [.int .i64 t2482.1, .int .i64 t2482.2.1, .int .i64 t2482.2.2.1] rfl⟩; clear hst; have hc2496 : w2494.cell? ⟨g2485, 0, none⟩ = some (.int .i64 t2482.1) := blk_cellv (HS.out.at3) 0 rfl))
    clear hc2496
    obtain ⟨t2497, HA2498, H⟩ := bind_some H
    refine (ground_Ground_Reg.calls l2375 a2380 a2381 a2382 a2383 a2384 t2482.1 g2371 g2373 A2376 l2375.length n2378 t2497 _ ⟨HS.out.begin (l := [b7 g2371 g2373 a2381 a2382 a2383 a2384, b6 g2373 A2376 l2375.length n2378 a2380, r5 A2376 l2375.length n2378 l2375]) (rest := [b8 g2485 t2482.1 t2482.2.1 t2482.2.2.1])⟩ HA2498).mono ?_
    rintro e_ w2499 ⟨rfl, hS⟩
    replace HS : Aside0 (Sep FF w [b7 g2371 g2373 a2381 a2382 a2383 a2384, b6 g2373 A2376 l2375.length n2378 t2497.2, r5 A2376 l2375.length n2378 l2375, b8 g2485 t2482.1 t2482.2.1 t2482.2.2.1] w2499) := ⟨HS.out.call (l := [b7 g2371 g2373 a2381 a2382 a2383 a2384, b6 g2373 A2376 l2375.length n2378 a2380, r5 A2376 l2375.length n2378 l2375]) (rest := [b8 g2485 t2482.1 t2482.2.1 t2482.2.2.1]) hS⟩
    clear hS
    by_cases c2500 : t2497.1 = 0
    · have H := if_yes c2500 H
      have c2500b0 : (t2497.1 == 0) = true := beq_iff_eq.mpr c2500
      have c2500b1 : (t2497.1 != 0) = false := bne_eq_false_iff_eq.mpr c2500
      clear c2500
      replace HS : Aside0 (Sep FF w [b7 g2371 g2373 a2381 a2382 a2383 a2384, b6 g2373 A2376 l2375.length n2378 t2497.2, r5 A2376 l2375.length n2378 l2375] w2499) := ⟨HS.out.sub (.cons_cons _ (.cons_cons _ (.cons_cons _ (.cons _ .slnil))))⟩
      go_wp2_with fail
      go_ret2
      rw [← some_eq H]
      exact ⟨(by first | rfl | (simp [IntKind.wrap_u32]; done)), ((((HS.out).front 2 (by simp)).front 2 (by simp)).front 2 (by simp)).keep (l := [b7 g2371 g2373 a2381 a2382 a2383 a2384, b6 g2373 A2376 l2375.length n2378 t2497.2, r5 A2376 l2375.length n2378 l2375]) (rest := [])⟩
    · have H := if_no c2500 H
      have c2500b0 : (t2497.1 == 0) = false := beq_eq_false_iff_ne.mpr c2500
      have c2500b1 : (t2497.1 != 0) = true := bne_iff_ne.mpr c2500
      clear c2500
      go_wp2_with fail
      obtain ⟨t2501, HA2502, H⟩ := bind_some H
      refine (ground_Ground_Word.calls l2375 t2497.2 a2381 a2382 a2383 a2384 (wrap64 (t2497.1 - 1)) 5 g2371 g2373 A2376 l2375.length n2378 t2501 _ ⟨HS.out.begin (l := [b7 g2371 g2373 a2381 a2382 a2383 a2384, b6 g2373 A2376 l2375.length n2378 t2497.2, r5 A2376 l2375.length n2378 l2375]) (rest := [b8 g2485 t2482.1 t2482.2.1 t2482.2.2.1])⟩ HA2502).mono ?_
      rintro e_ w2503 ⟨rfl, hS⟩
      replace HS : Aside0 (Sep FF w [b7 g2371 g2373 a2381 a2382 a2383 a2384, b6 g2373 A2376 l2375.length n2378 t2501.2, r5 A2376 l2375.length n2378 l2375, b8 g2485 t2482.1 t2482.2.1 t2482.2.2.1] w2503) := ⟨HS.out.call (l := [b7 g2371 g2373 a2381 a2382 a2383 a2384, b6 g2373 A2376 l2375.length n2378 t2497.2, r5 A2376 l2375.length n2378 l2375]) (rest := [b8 g2485 t2482.1 t2482.2.1 t2482.2.2.1]) hS⟩
      clear hS
      go_wp2_with fail
      obtain ⟨t2504, HA2505, H⟩ := bind_some H
      refine (ground_Ground_SetWord.calls l2375 t2501.2 a2381 a2382 a2383 a2384 (wrap64 (t2497.1 - 1)) 5 0 g2371 g2373 A2376 l2375.length n2378 t2504 _ ⟨HS.out.begin (l := [b7 g2371 g2373 a2381 a2382 a2383 a2384, b6 g2373 A2376 l2375.length n2378 t2501.2, r5 A2376 l2375.length n2378 l2375]) (rest := [b8 g2485 t2482.1 t2482.2.1 t2482.2.2.1])⟩ HA2505).mono ?_
      rintro e_ w2506 ⟨rfl, hS⟩
      replace HS : Aside0 (Sep FF w [b7 g2371 g2373 a2381 a2382 a2383 a2384, b6 g2373 A2376 l2375.length n2378 t2504.2.1, r5 A2376 l2375.length n2378 t2504.2.2, b8 g2485 t2482.1 t2482.2.1 t2482.2.2.1] w2506) := ⟨HS.out.call (l := [b7 g2371 g2373 a2381 a2382 a2383 a2384, b6 g2373 A2376 l2375.length n2378 t2501.2, r5 A2376 l2375.length n2378 l2375]) (rest := [b8 g2485 t2482.1 t2482.2.1 t2482.2.2.1]) hS⟩
      clear hS
      have hc2507 : w2506.cell? ⟨g2485, 0, none⟩ = some (.int .i64 t2482.1) := blk_cellv (HS.out.at3) 0 rfl
      go_wp2_with fail
      clear hc2507
      obtain ⟨t2508, HA2509, H⟩ := bind_some H
      refine (ground_Ground_SetReg.calls t2504.2.2 t2504.2.1 a2381 a2382 a2383 a2384 t2482.1 (wrap64 (t2501.1)) g2371 g2373 A2376 l2375.length n2378 t2508 _ ⟨HS.out.begin (l := [b7 g2371 g2373 a2381 a2382 a2383 a2384, b6 g2373 A2376 l2375.length n2378 t2504.2.1, r5 A2376 l2375.length n2378 t2504.2.2]) (rest := [b8 g2485 t2482.1 t2482.2.1 t2482.2.2.1])⟩ HA2509).mono ?_
      rintro e_ w2510 ⟨rfl, hS⟩
      replace HS : Aside0 (Sep FF w [b7 g2371 g2373 a2381 a2382 a2383 a2384, b6 g2373 A2376 l2375.length n2378 t2508.2.1, r5 A2376 l2375.length n2378 t2508.2.2, b8 g2485 t2482.1 t2482.2.1 t2482.2.2.1] w2510) := ⟨HS.out.call (l := [b7 g2371 g2373 a2381 a2382 a2383 a2384, b6 g2373 A2376 l2375.length n2378 t2504.2.1, r5 A2376 l2375.length n2378 t2504.2.2]) (rest := [b8 g2485 t2482.1 t2482.2.1 t2482.2.2.1]) hS⟩
      clear hS
      by_cases c2511 : (wrap64 (t2501.1)) = 0
      · have H := if_yes c2511 H
        have c2511b0 : ((wrap64 (t2501.1)) == 0) = true := beq_iff_eq.mpr c2511
        have c2511b1 : ((wrap64 (t2501.1)) != 0) = false := bne_eq_false_iff_eq.mpr c2511
        clear c2511
        have hc2512 : w2510.cell? ⟨g2485, 1, none⟩ = some (.int .i64 t2482.2.1) := blk_cellv (HS.out.at3) 1 rfl
        go_wp2_with fail
        clear hc2512
        obtain ⟨t2513, HA2514, H⟩ := bind_some H
        refine (ground_Ground_SetReg.calls t2508.2.2 t2508.2.1 a2381 a2382 a2383 a2384 t2482.2.1 0 g2371 g2373 A2376 l2375.length n2378 t2513 _ ⟨HS.out.begin (l := [b7 g2371 g2373 a2381 a2382 a2383 a2384, b6 g2373 A2376 l2375.length n2378 t2508.2.1, r5 A2376 l2375.length n2378 t2508.2.2]) (rest := [b8 g2485 t2482.1 t2482.2.1 t2482.2.2.1])⟩ HA2514).mono ?_
        rintro e_ w2515 ⟨rfl, hS⟩
        replace HS : Aside0 (Sep FF w [b7 g2371 g2373 a2381 a2382 a2383 a2384, b6 g2373 A2376 l2375.length n2378 t2513.2.1, r5 A2376 l2375.length n2378 t2513.2.2, b8 g2485 t2482.1 t2482.2.1 t2482.2.2.1] w2515) := ⟨HS.out.call (l := [b7 g2371 g2373 a2381 a2382 a2383 a2384, b6 g2373 A2376 l2375.length n2378 t2508.2.1, r5 A2376 l2375.length n2378 t2508.2.2]) (rest := [b8 g2485 t2482.1 t2482.2.1 t2482.2.2.1]) hS⟩
        clear hS
        go_wp2_with fail
        refine start_ (n := 9) (S := (fun w' => w'.cell? ⟨g2485, 2, none⟩ = some (.int .i64 t2482.2.2.1))) (ds := []) #[false, false, false, false, false, false, false, false, false] (by kernel_rfl) rfl rfl (blk_cellv ((HS.out.drew).at3) 2 rfl) (fun hHeld => ?_)
        have HS_ := Aside0.mk HS.out.drew
        clear HS
        generalize World.drew _ = w2517 at HS_ hHeld ⊢
        have HS := HS_
        clear HS_
        refine pure_ (i := 0) (N := some 44) (v := ?_) (a' := ?_) #[true, false, false, false, false, false, false, false, false] rfl rfl (by kernel_rfl) (fun _ _ _ h => h) (Or.inl ⟨by rfl, ?_⟩) ?_ ?_
        rotate_left
        · intro w'
          go_simp
          with_reducible rfl
        rotate_left
        · simp only [Act.put, List.setIfInBounds_toArray, List.set_cons_zero, List.set_cons_succ, i64_w, i32_w]
          rfl
        refine pure_ (i := 1) (N := some 45) (v := ?_) (a' := ?_) #[true, true, false, false, false, false, false, false, false] rfl rfl (by kernel_rfl) (fun _ _ _ h => h) (Or.inl ⟨by rfl, ?_⟩) ?_ ?_
        rotate_left
        · intro w'
          go_simp
          with_reducible rfl
        rotate_left
        · simp only [Act.put, List.setIfInBounds_toArray, List.set_cons_zero, List.set_cons_succ, i64_w, i32_w]
          rfl
        refine pure_ (i := 3) (N := some 47) (v := ?_) (a' := ?_) #[true, true, false, true, false, false, false, false, false] rfl rfl (by kernel_rfl) (fun _ _ _ h => h) (Or.inl ⟨by rfl, ?_⟩) ?_ ?_
        rotate_left
        · intro w'
          go_simp
          with_reducible rfl
        rotate_left
        · simp only [Act.put, List.setIfInBounds_toArray, List.set_cons_zero, List.set_cons_succ, i64_w, i32_w]
          rfl
        refine pure_ (i := 4) (N := some 48) (v := ?_) (a' := ?_) #[true, true, false, true, true, false, false, false, false] rfl rfl (by kernel_rfl) (fun _ _ _ h => h) (Or.inl ⟨by rfl, ?_⟩) ?_ ?_
        rotate_left
        · intro w'
          go_simp
          with_reducible rfl
        rotate_left
        · simp only [Act.put, List.setIfInBounds_toArray, List.set_cons_zero, List.set_cons_succ, i64_w, i32_w]
          rfl
        refine take_ (i := 2) (N := some 46) (v := ?_) (a' := ?_) #[true, true, true, true, true, false, false, false, false] rfl rfl (by kernel_rfl) (fun _ _ _ h => h) (Or.inl ⟨by rfl, ?_⟩) hHeld ?_ ?_
        rotate_left
        · rintro w' hS'
          have s0 := hS'
          go_simp
          with_reducible rfl
        rotate_left
        · simp only [Act.put, List.setIfInBounds_toArray, List.set_cons_zero, List.set_cons_succ, i64_w, i32_w]
          rfl
        refine take_ (i := 5) (N := some 49) (v := ?_) (a' := ?_) #[true, true, true, true, true, true, false, false, false] rfl rfl (by kernel_rfl) (fun _ _ _ h => h) (Or.inl ⟨by rfl, ?_⟩) hHeld ?_ ?_
        rotate_left
        · rintro w' hS'
          have s0 := hS'
          go_simp
          with_reducible rfl
        rotate_left
        · simp only [Act.put, List.setIfInBounds_toArray, List.set_cons_zero, List.set_cons_succ, i64_w, i32_w]
          rfl
        refine one_ (i := 6) (N := some 50) #[true, true, true, true, true, true, true, false, false] rfl rfl (by kernel_rfl) (by decide) (fun K hK => ?_)
        obtain ⟨t2518, HA2519, H⟩ := bind_some H
        refine goes_ Try.func36 (by kernel_rfl) rfl #[.pointer (some ⟨g2371, 0, none⟩), .int .i64 t2482.2.2.1] (by rfl) rfl rfl (by (try simp only [List.map_toArray, List.map_cons, List.map_nil]); first | done | rfl) ?_
        refine (ground_Ground_Reg.calls t2513.2.2 t2513.2.1 a2381 a2382 a2383 a2384 t2482.2.2.1 g2371 g2373 A2376 l2375.length n2378 t2518 _ ⟨HS.out.begin (l := [b7 g2371 g2373 a2381 a2382 a2383 a2384, b6 g2373 A2376 l2375.length n2378 t2513.2.1, r5 A2376 l2375.length n2378 t2513.2.2]) (rest := [b8 g2485 t2482.1 t2482.2.1 t2482.2.2.1])⟩ HA2519).mono ?_
        rintro e_ w2520 ⟨rfl, hS⟩
        replace HS : Aside0 (Sep FF w [b7 g2371 g2373 a2381 a2382 a2383 a2384, b6 g2373 A2376 l2375.length n2378 t2518.2, r5 A2376 l2375.length n2378 t2513.2.2, b8 g2485 t2482.1 t2482.2.1 t2482.2.2.1] w2520) := ⟨HS.out.call (l := [b7 g2371 g2373 a2381 a2382 a2383 a2384, b6 g2373 A2376 l2375.length n2378 t2513.2.1, r5 A2376 l2375.length n2378 t2513.2.2]) (rest := [b8 g2485 t2482.1 t2482.2.1 t2482.2.2.1]) hS⟩
        clear hS
        refine ⟨_, rfl, ?_⟩
        refine hK.out _ _ (blk_cellv (HS.out.at3) 2 rfl) (fun hHeld => ?_)
        clear hK K
        refine norm_ (a' := ?_) ?_ ?_
        rotate_left
        · show Act.put _ (some 50) _ = _
          simp only [Act.put, List.setIfInBounds_toArray, List.set_cons_zero, List.set_cons_succ, i64_w, i32_w]
          rfl
        refine pure_ (i := 7) (N := some 51) (v := ?_) (a' := ?_) #[true, true, true, true, true, true, true, true, false] rfl rfl (by kernel_rfl) (fun _ _ _ h => h) (Or.inl ⟨by rfl, ?_⟩) ?_ ?_
        rotate_left
        · intro w'
          go_simp
          with_reducible rfl
        rotate_left
        · simp only [Act.put, List.setIfInBounds_toArray, List.set_cons_zero, List.set_cons_succ, i64_w, i32_w]
          rfl
        refine one_ (i := 8) (N := some 52) #[true, true, true, true, true, true, true, true, true] rfl rfl (by kernel_rfl) (by decide) (fun K hK => ?_)
        obtain ⟨t2521, HA2522, H⟩ := bind_some H
        refine goes_ Try.func42 (by kernel_rfl) rfl #[.pointer (some ⟨g2371, 0, none⟩), .int .i64 t2482.2.2.1, .int .i64 (wrap64 (t2518.1 - 1))] (by rfl) rfl rfl (by (try simp only [List.map_toArray, List.map_cons, List.map_nil]); first | done | rfl) ?_
        refine (ground_Ground_SetReg.calls t2513.2.2 t2518.2 a2381 a2382 a2383 a2384 t2482.2.2.1 (wrap64 (t2518.1 - 1)) g2371 g2373 A2376 l2375.length n2378 t2521 _ ⟨HS.out.begin (l := [b7 g2371 g2373 a2381 a2382 a2383 a2384, b6 g2373 A2376 l2375.length n2378 t2518.2, r5 A2376 l2375.length n2378 t2513.2.2]) (rest := [b8 g2485 t2482.1 t2482.2.1 t2482.2.2.1])⟩ HA2522).mono ?_
        rintro e_ w2523 ⟨rfl, hS⟩
        replace HS : Aside0 (Sep FF w [b7 g2371 g2373 a2381 a2382 a2383 a2384, b6 g2373 A2376 l2375.length n2378 t2521.2.1, r5 A2376 l2375.length n2378 t2521.2.2, b8 g2485 t2482.1 t2482.2.1 t2482.2.2.1] w2523) := ⟨HS.out.call (l := [b7 g2371 g2373 a2381 a2382 a2383 a2384, b6 g2373 A2376 l2375.length n2378 t2518.2, r5 A2376 l2375.length n2378 t2513.2.2]) (rest := [b8 g2485 t2482.1 t2482.2.1 t2482.2.2.1]) hS⟩
        clear hS
        refine ⟨_, rfl, ?_⟩
        refine hK.out _ _ (blk_cellv (HS.out.at3) 2 rfl) (fun hHeld => ?_)
        clear hK K
        refine norm_ (a' := ?_) ?_ ?_
        rotate_left
        · show Act.put _ (some 52) _ = _
          simp only [Act.put, List.setIfInBounds_toArray, List.set_cons_zero, List.set_cons_succ, i64_w, i32_w]
          rfl
        refine done_ (by kernel_rfl) ?_
        replace HS : Aside0 (Sep FF w [b7 g2371 g2373 a2381 a2382 a2383 a2384, b6 g2373 A2376 l2375.length n2378 t2521.2.1, r5 A2376 l2375.length n2378 t2521.2.2] w2523) := ⟨HS.out.sub (.cons_cons _ (.cons_cons _ (.cons_cons _ (.cons _ .slnil))))⟩
        go_wp2_with fail
        go_ret2
        rw [← some_eq H]
        exact ⟨(by first | rfl | (simp [IntKind.wrap_u32]; done)), ((((HS.out).front 2 (by simp)).front 2 (by simp)).front 2 (by simp)).keep (l := [b7 g2371 g2373 a2381 a2382 a2383 a2384, b6 g2373 A2376 l2375.length n2378 t2521.2.1, r5 A2376 l2375.length n2378 t2521.2.2]) (rest := [])⟩
      · have H := if_no c2511 H
        have c2511b0 : ((wrap64 (t2501.1)) == 0) = false := beq_eq_false_iff_ne.mpr c2511
        have c2511b1 : ((wrap64 (t2501.1)) != 0) = true := bne_iff_ne.mpr c2511
        clear c2511
        go_wp2_with fail
        refine start_ (n := 9) (S := (fun w' => w'.cell? ⟨g2485, 2, none⟩ = some (.int .i64 t2482.2.2.1))) (ds := []) #[false, false, false, false, false, false, false, false, false] (by kernel_rfl) rfl rfl (blk_cellv ((HS.out.drew).at3) 2 rfl) (fun hHeld => ?_)
        have HS_ := Aside0.mk HS.out.drew
        clear HS
        generalize World.drew _ = w2525 at HS_ hHeld ⊢
        have HS := HS_
        clear HS_
        refine pure_ (i := 0) (N := some 44) (v := ?_) (a' := ?_) #[true, false, false, false, false, false, false, false, false] rfl rfl (by kernel_rfl) (fun _ _ _ h => h) (Or.inl ⟨by rfl, ?_⟩) ?_ ?_
        rotate_left
        · intro w'
          go_simp
          with_reducible rfl
        rotate_left
        · simp only [Act.put, List.setIfInBounds_toArray, List.set_cons_zero, List.set_cons_succ, i64_w, i32_w]
          rfl
        refine pure_ (i := 1) (N := some 45) (v := ?_) (a' := ?_) #[true, true, false, false, false, false, false, false, false] rfl rfl (by kernel_rfl) (fun _ _ _ h => h) (Or.inl ⟨by rfl, ?_⟩) ?_ ?_
        rotate_left
        · intro w'
          go_simp
          with_reducible rfl
        rotate_left
        · simp only [Act.put, List.setIfInBounds_toArray, List.set_cons_zero, List.set_cons_succ, i64_w, i32_w]
          rfl
        refine pure_ (i := 3) (N := some 47) (v := ?_) (a' := ?_) #[true, true, false, true, false, false, false, false, false] rfl rfl (by kernel_rfl) (fun _ _ _ h => h) (Or.inl ⟨by rfl, ?_⟩) ?_ ?_
        rotate_left
        · intro w'
          go_simp
          with_reducible rfl
        rotate_left
        · simp only [Act.put, List.setIfInBounds_toArray, List.set_cons_zero, List.set_cons_succ, i64_w, i32_w]
          rfl
        refine pure_ (i := 4) (N := some 48) (v := ?_) (a' := ?_) #[true, true, false, true, true, false, false, false, false] rfl rfl (by kernel_rfl) (fun _ _ _ h => h) (Or.inl ⟨by rfl, ?_⟩) ?_ ?_
        rotate_left
        · intro w'
          go_simp
          with_reducible rfl
        rotate_left
        · simp only [Act.put, List.setIfInBounds_toArray, List.set_cons_zero, List.set_cons_succ, i64_w, i32_w]
          rfl
        refine take_ (i := 2) (N := some 46) (v := ?_) (a' := ?_) #[true, true, true, true, true, false, false, false, false] rfl rfl (by kernel_rfl) (fun _ _ _ h => h) (Or.inl ⟨by rfl, ?_⟩) hHeld ?_ ?_
        rotate_left
        · rintro w' hS'
          have s0 := hS'
          go_simp
          with_reducible rfl
        rotate_left
        · simp only [Act.put, List.setIfInBounds_toArray, List.set_cons_zero, List.set_cons_succ, i64_w, i32_w]
          rfl
        refine take_ (i := 5) (N := some 49) (v := ?_) (a' := ?_) #[true, true, true, true, true, true, false, false, false] rfl rfl (by kernel_rfl) (fun _ _ _ h => h) (Or.inl ⟨by rfl, ?_⟩) hHeld ?_ ?_
        rotate_left
        · rintro w' hS'
          have s0 := hS'
          go_simp
          with_reducible rfl
        rotate_left
        · simp only [Act.put, List.setIfInBounds_toArray, List.set_cons_zero, List.set_cons_succ, i64_w, i32_w]
          rfl
        refine one_ (i := 6) (N := some 50) #[true, true, true, true, true, true, true, false, false] rfl rfl (by kernel_rfl) (by decide) (fun K hK => ?_)
        obtain ⟨t2518, HA2526, H⟩ := bind_some H
        refine goes_ Try.func36 (by kernel_rfl) rfl #[.pointer (some ⟨g2371, 0, none⟩), .int .i64 t2482.2.2.1] (by rfl) rfl rfl (by (try simp only [List.map_toArray, List.map_cons, List.map_nil]); first | done | rfl) ?_
        refine (ground_Ground_Reg.calls t2508.2.2 t2508.2.1 a2381 a2382 a2383 a2384 t2482.2.2.1 g2371 g2373 A2376 l2375.length n2378 t2518 _ ⟨HS.out.begin (l := [b7 g2371 g2373 a2381 a2382 a2383 a2384, b6 g2373 A2376 l2375.length n2378 t2508.2.1, r5 A2376 l2375.length n2378 t2508.2.2]) (rest := [b8 g2485 t2482.1 t2482.2.1 t2482.2.2.1])⟩ HA2526).mono ?_
        rintro e_ w2527 ⟨rfl, hS⟩
        replace HS : Aside0 (Sep FF w [b7 g2371 g2373 a2381 a2382 a2383 a2384, b6 g2373 A2376 l2375.length n2378 t2518.2, r5 A2376 l2375.length n2378 t2508.2.2, b8 g2485 t2482.1 t2482.2.1 t2482.2.2.1] w2527) := ⟨HS.out.call (l := [b7 g2371 g2373 a2381 a2382 a2383 a2384, b6 g2373 A2376 l2375.length n2378 t2508.2.1, r5 A2376 l2375.length n2378 t2508.2.2]) (rest := [b8 g2485 t2482.1 t2482.2.1 t2482.2.2.1]) hS⟩
        clear hS
        refine ⟨_, rfl, ?_⟩
        refine hK.out _ _ (blk_cellv (HS.out.at3) 2 rfl) (fun hHeld => ?_)
        clear hK K
        refine norm_ (a' := ?_) ?_ ?_
        rotate_left
        · show Act.put _ (some 50) _ = _
          simp only [Act.put, List.setIfInBounds_toArray, List.set_cons_zero, List.set_cons_succ, i64_w, i32_w]
          rfl
        refine pure_ (i := 7) (N := some 51) (v := ?_) (a' := ?_) #[true, true, true, true, true, true, true, true, false] rfl rfl (by kernel_rfl) (fun _ _ _ h => h) (Or.inl ⟨by rfl, ?_⟩) ?_ ?_
        rotate_left
        · intro w'
          go_simp
          with_reducible rfl
        rotate_left
        · simp only [Act.put, List.setIfInBounds_toArray, List.set_cons_zero, List.set_cons_succ, i64_w, i32_w]
          rfl
        refine one_ (i := 8) (N := some 52) #[true, true, true, true, true, true, true, true, true] rfl rfl (by kernel_rfl) (by decide) (fun K hK => ?_)
        obtain ⟨t2521, HA2528, H⟩ := bind_some H
        refine goes_ Try.func42 (by kernel_rfl) rfl #[.pointer (some ⟨g2371, 0, none⟩), .int .i64 t2482.2.2.1, .int .i64 (wrap64 (t2518.1 - 1))] (by rfl) rfl rfl (by (try simp only [List.map_toArray, List.map_cons, List.map_nil]); first | done | rfl) ?_
        refine (ground_Ground_SetReg.calls t2508.2.2 t2518.2 a2381 a2382 a2383 a2384 t2482.2.2.1 (wrap64 (t2518.1 - 1)) g2371 g2373 A2376 l2375.length n2378 t2521 _ ⟨HS.out.begin (l := [b7 g2371 g2373 a2381 a2382 a2383 a2384, b6 g2373 A2376 l2375.length n2378 t2518.2, r5 A2376 l2375.length n2378 t2508.2.2]) (rest := [b8 g2485 t2482.1 t2482.2.1 t2482.2.2.1])⟩ HA2528).mono ?_
        rintro e_ w2529 ⟨rfl, hS⟩
        replace HS : Aside0 (Sep FF w [b7 g2371 g2373 a2381 a2382 a2383 a2384, b6 g2373 A2376 l2375.length n2378 t2521.2.1, r5 A2376 l2375.length n2378 t2521.2.2, b8 g2485 t2482.1 t2482.2.1 t2482.2.2.1] w2529) := ⟨HS.out.call (l := [b7 g2371 g2373 a2381 a2382 a2383 a2384, b6 g2373 A2376 l2375.length n2378 t2518.2, r5 A2376 l2375.length n2378 t2508.2.2]) (rest := [b8 g2485 t2482.1 t2482.2.1 t2482.2.2.1]) hS⟩
        clear hS
        refine ⟨_, rfl, ?_⟩
        refine hK.out _ _ (blk_cellv (HS.out.at3) 2 rfl) (fun hHeld => ?_)
        clear hK K
        refine norm_ (a' := ?_) ?_ ?_
        rotate_left
        · show Act.put _ (some 52) _ = _
          simp only [Act.put, List.setIfInBounds_toArray, List.set_cons_zero, List.set_cons_succ, i64_w, i32_w]
          rfl
        refine done_ (by kernel_rfl) ?_
        replace HS : Aside0 (Sep FF w [b7 g2371 g2373 a2381 a2382 a2383 a2384, b6 g2373 A2376 l2375.length n2378 t2521.2.1, r5 A2376 l2375.length n2378 t2521.2.2] w2529) := ⟨HS.out.sub (.cons_cons _ (.cons_cons _ (.cons_cons _ (.cons _ .slnil))))⟩
        go_wp2_with fail
        go_ret2
        rw [← some_eq H]
        exact ⟨(by first | rfl | (simp [IntKind.wrap_u32]; done)), ((((HS.out).front 2 (by simp)).front 2 (by simp)).front 2 (by simp)).keep (l := [b7 g2371 g2373 a2381 a2382 a2383 a2384, b6 g2373 A2376 l2375.length n2378 t2521.2.1, r5 A2376 l2375.length n2378 t2521.2.2]) (rest := [])⟩
  · have H := if_no c2495 H
    have c2495b0 : t2482.2.2.2 = false := by simpa using c2495
    have c2495b1 : (!t2482.2.2.2) = true := by rw [c2495b0]; rfl
    try rw [c2495b1]
    clear c2495
    go_wp2_with (first | ((with_reducible refine gate_dst (N := 6) rfl ?_); refine box_on ?hg (N := 6) ?hd (cs := #[.int .i64 0, .int .i64 0, .int .i64 0]) (t := 134) ?hr ?_; (case hd => rfl); (case hg => rfl); (case hr => first | (go_simp; done) | (go_simp; rfl)); intro g2485 hg w2486 hbox hb; replace HS : Aside0 (Sep FF w [b7 g2371 g2373 a2381 a2382 a2383 a2384, b6 g2373 A2376 l2375.length n2378 a2380, r5 A2376 l2375.length n2378 l2375, b8 g2485 0 0 0] w2486) := ⟨HS.out.box hg hbox hb⟩; clear hg hbox hb; have hc2488 : w2486.cell? ⟨g2485, 0, none⟩ = some (.int .i64 0) := blk_cellv (HS.out.at3) 0 rfl; have hz2489 : w2486.frozen? ⟨g2485, 0, none⟩ = false := blk_fz (HS.out.at3) 0; have hc2490 : w2486.cell? ⟨g2485, 1, none⟩ = some (.int .i64 0) := blk_cellv (HS.out.at3) 1 rfl; have hz2491 : w2486.frozen? ⟨g2485, 1, none⟩ = false := blk_fz (HS.out.at3) 1; have hc2492 : w2486.cell? ⟨g2485, 2, none⟩ = some (.int .i64 0) := blk_cellv (HS.out.at3) 2 rfl; have hz2493 : w2486.frozen? ⟨g2485, 2, none⟩ = false := blk_fz (HS.out.at3) 2) | ((with_reducible refine gate_store (t := 134) (p := 6) rfl ?_); refine store_event (w1 := (World.setCell (World.setCell (World.setCell w2486 ⟨g2485, 0, none⟩ (.int .i64 t2482.1)) ⟨g2485, 1, none⟩ (.int .i64 t2482.2.1)) ⟨g2485, 2, none⟩ (.int .i64 t2482.2.2.1))) rfl (t := 134) (p := 6) rfl rfl ?hr ?_; (case hr => first | (go_simp; done) | (go_simp; rfl)); intro w2494 hst; clear hc2488 hz2489 hc2490 hz2491 hc2492 hz2493; replace HS : Aside0 (Sep FF w [b7 g2371 g2373 a2381 a2382 a2383 a2384, b6 g2373 A2376 l2375.length n2378 a2380, r5 A2376 l2375.length n2378 l2375, b8 g2485 t2482.1 t2482.2.1 t2482.2.2.1] w2494) := ⟨by rw [hst]; exact HS.out.setAll (l1 := [b7 g2371 g2373 a2381 a2382 a2383 a2384, b6 g2373 A2376 l2375.length n2378 a2380, r5 A2376 l2375.length n2378 l2375]) (l2 := []) [.int .i64 t2482.1, .int .i64 t2482.2.1, .int .i64 t2482.2.2.1] rfl⟩; clear hst; replace HS : Aside0 (Sep FF w [b7 g2371 g2373 a2381 a2382 a2383 a2384, b6 g2373 A2376 l2375.length n2378 a2380, r5 A2376 l2375.length n2378 l2375] w2494) := ⟨HS.out.sub (.cons_cons _ (.cons_cons _ (.cons_cons _ (.cons _ .slnil))))⟩))
    go_ret2
    rw [← some_eq H]
    exact ⟨(by first | rfl | (simp [IntKind.wrap_u32]; done)), ((((HS.out).front 2 (by simp)).front 2 (by simp)).front 2 (by simp)).keep (l := [b7 g2371 g2373 a2381 a2382 a2383 a2384, b6 g2373 A2376 l2375.length n2378 a2380, r5 A2376 l2375.length n2378 l2375]) (rest := [])⟩

set_option maxHeartbeats 30000000 in
set_option maxRecDepth 100000 in
theorem chain_First.calls (l2538 : List Int) (a2543 : Int) (a2544 : Int) (a2545 : Int) (a2546 : Int) (a2547 : Int) (a2548 : Int) (g2534 : Nat) (g2536 : Nat) (A2539 : Option Addr) (m2540 : Nat) (n2541 : Nat) (r : Int × Bool × Int) (w : World)   (HS : Aside0 (Sep (fps [b7 g2534 g2536 a2544 a2545 a2546 a2547, b6 g2536 A2539 m2540 n2541 a2543, r5 A2539 m2540 n2541 l2538]) w [b7 g2534 g2536 a2544 a2545 a2546 a2547, b6 g2536 A2539 m2540 n2541 a2543, r5 A2539 m2540 n2541 l2538] w)) (H : Aside0 (chain_First.f l2538 a2543 a2544 a2545 a2546 a2547 a2548 = some r)) :
    Calls Try.prog 57 #[.pointer (some ⟨g2534, 0, none⟩), .int .i64 a2548] w fun e w' => e = .returned (.tuple #[.int .i64 r.1, .bool r.2.1]) ∧ Sep (fps [b7 g2534 g2536 a2544 a2545 a2546 a2547, b6 g2536 A2539 m2540 n2541 a2543, r5 A2539 m2540 n2541 l2538]) w [b7 g2534 g2536 a2544 a2545 a2546 a2547, b6 g2536 A2539 m2540 n2541 r.2.2, r5 A2539 m2540 n2541 l2538] w' := by
  generalize (fps [b7 g2534 g2536 a2544 a2545 a2546 a2547, b6 g2536 A2539 m2540 n2541 a2543, r5 A2539 m2540 n2541 l2538]) = FF at HS ⊢
  obtain rfl := (row_len (HS.out.at2)).symm
  unfold chain_First.f at H
  go_enter Try.func57, Try.ntmps57
  go_wp2_with fail
  obtain ⟨t2568, HA2569, H⟩ := bind_some H
  refine (chain_of.calls l2538 a2543 a2544 a2545 a2546 a2547 a2548 g2534 g2536 A2539 l2538.length n2541 t2568 _ ⟨HS.out.begin (l := [b7 g2534 g2536 a2544 a2545 a2546 a2547, b6 g2536 A2539 l2538.length n2541 a2543, r5 A2539 l2538.length n2541 l2538]) (rest := [])⟩ HA2569).mono ?_
  rintro e_ w2570 ⟨rfl, hS⟩
  replace HS : Aside0 (Sep FF w [b7 g2534 g2536 a2544 a2545 a2546 a2547, b6 g2536 A2539 l2538.length n2541 a2543, r5 A2539 l2538.length n2541 l2538] w2570) := ⟨HS.out.call (l := [b7 g2534 g2536 a2544 a2545 a2546 a2547, b6 g2536 A2539 l2538.length n2541 a2543, r5 A2539 l2538.length n2541 l2538]) (rest := []) hS⟩
  clear hS
  by_cases c2581 : t2568.2.2.2 = true
  · have H := if_yes c2581 H
    have c2581b0 : t2568.2.2.2 = true := c2581
    have c2581b1 : (!t2568.2.2.2) = false := by rw [c2581b0]; rfl
    try rw [c2581b1]
    clear c2581
    go_wp2_with (first | ((with_reducible refine gate_dst (N := 6) rfl ?_); refine box_on ?hg (N := 6) ?hd (cs := #[.int .i64 0, .int .i64 0, .int .i64 0]) (t := 134) ?hr ?_; (case hd => rfl); (case hg => rfl); (case hr => first | (go_simp; done) | (go_simp; rfl)); intro g2571 hg w2572 hbox hb; replace HS : Aside0 (Sep FF w [b7 g2534 g2536 a2544 a2545 a2546 a2547, b6 g2536 A2539 l2538.length n2541 a2543, r5 A2539 l2538.length n2541 l2538, b8 g2571 0 0 0] w2572) := ⟨HS.out.box hg hbox hb⟩; clear hg hbox hb; have hc2574 : w2572.cell? ⟨g2571, 0, none⟩ = some (.int .i64 0) := blk_cellv (HS.out.at3) 0 rfl; have hz2575 : w2572.frozen? ⟨g2571, 0, none⟩ = false := blk_fz (HS.out.at3) 0; have hc2576 : w2572.cell? ⟨g2571, 1, none⟩ = some (.int .i64 0) := blk_cellv (HS.out.at3) 1 rfl; have hz2577 : w2572.frozen? ⟨g2571, 1, none⟩ = false := blk_fz (HS.out.at3) 1; have hc2578 : w2572.cell? ⟨g2571, 2, none⟩ = some (.int .i64 0) := blk_cellv (HS.out.at3) 2 rfl; have hz2579 : w2572.frozen? ⟨g2571, 2, none⟩ = false := blk_fz (HS.out.at3) 2) | ((with_reducible refine gate_store (t := 134) (p := 6) rfl ?_); refine store_event (w1 := (World.setCell (World.setCell (World.setCell w2572 ⟨g2571, 0, none⟩ (.int .i64 t2568.1)) ⟨g2571, 1, none⟩ (.int .i64 t2568.2.1)) ⟨g2571, 2, none⟩ (.int .i64 t2568.2.2.1))) rfl (t := 134) (p := 6) rfl rfl ?hr ?_; (case hr => first | (go_simp; done) | (go_simp; rfl)); intro w2580 hst; clear hc2574 hz2575 hc2576 hz2577 hc2578 hz2579; replace HS : Aside0 (Sep FF w [b7 g2534 g2536 a2544 a2545 a2546 a2547, b6 g2536 A2539 l2538.length n2541 a2543, r5 A2539 l2538.length n2541 l2538, b8 g2571 t2568.1 t2568.2.1 t2568.2.2.1] w2580) := ⟨by rw [hst]; exact HS.out.setAll (l1 := [b7 g2534 g2536 a2544 a2545 a2546 a2547, b6 g2536 A2539 l2538.length n2541 a2543, r5 A2539 l2538.length n2541 l2538]) (l2 := []) [.int .i64 t2568.1, .int .i64 t2568.2.1, .int .i64 t2568.2.2.1] rfl⟩; clear hst; have hc2582 : w2580.cell? ⟨g2571, 0, none⟩ = some (.int .i64 t2568.1) := blk_cellv (HS.out.at3) 0 rfl))
    clear hc2582
    obtain ⟨t2583, HA2584, H⟩ := bind_some H
    refine (ground_Ground_Reg.calls l2538 a2543 a2544 a2545 a2546 a2547 t2568.1 g2534 g2536 A2539 l2538.length n2541 t2583 _ ⟨HS.out.begin (l := [b7 g2534 g2536 a2544 a2545 a2546 a2547, b6 g2536 A2539 l2538.length n2541 a2543, r5 A2539 l2538.length n2541 l2538]) (rest := [b8 g2571 t2568.1 t2568.2.1 t2568.2.2.1])⟩ HA2584).mono ?_
    rintro e_ w2585 ⟨rfl, hS⟩
    replace HS : Aside0 (Sep FF w [b7 g2534 g2536 a2544 a2545 a2546 a2547, b6 g2536 A2539 l2538.length n2541 t2583.2, r5 A2539 l2538.length n2541 l2538, b8 g2571 t2568.1 t2568.2.1 t2568.2.2.1] w2585) := ⟨HS.out.call (l := [b7 g2534 g2536 a2544 a2545 a2546 a2547, b6 g2536 A2539 l2538.length n2541 a2543, r5 A2539 l2538.length n2541 l2538]) (rest := [b8 g2571 t2568.1 t2568.2.1 t2568.2.2.1]) hS⟩
    clear hS
    by_cases c2586 : (wrap64 (t2583.1 - 1)) < 0
    · have H := if_yes c2586 H
      have c2586b0 : decide ((wrap64 (t2583.1 - 1)) < 0) = true := decide_eq_true c2586
      replace HS : Aside0 (Sep FF w [b7 g2534 g2536 a2544 a2545 a2546 a2547, b6 g2536 A2539 l2538.length n2541 t2583.2, r5 A2539 l2538.length n2541 l2538] w2585) := ⟨HS.out.sub (.cons_cons _ (.cons_cons _ (.cons_cons _ (.cons _ .slnil))))⟩
      skip
      go_wp2_with fail
      clear c2586
      go_ret2
      rw [← some_eq H]
      exact ⟨(by first | rfl | (simp [IntKind.wrap_u32]; done)), ((((HS.out).front 2 (by simp)).front 2 (by simp)).front 2 (by simp)).keep (l := [b7 g2534 g2536 a2544 a2545 a2546 a2547, b6 g2536 A2539 l2538.length n2541 t2583.2, r5 A2539 l2538.length n2541 l2538]) (rest := [])⟩
    · have H := if_no c2586 H
      have c2586b0 : decide ((wrap64 (t2583.1 - 1)) < 0) = false := decide_eq_false c2586
      replace HS : Aside0 (Sep FF w [b7 g2534 g2536 a2544 a2545 a2546 a2547, b6 g2536 A2539 l2538.length n2541 t2583.2, r5 A2539 l2538.length n2541 l2538] w2585) := ⟨HS.out.sub (.cons_cons _ (.cons_cons _ (.cons_cons _ (.cons _ .slnil))))⟩
      skip
      go_wp2_with fail
      clear c2586
      go_ret2
      rw [← some_eq H]
      exact ⟨(by first | rfl | (simp [IntKind.wrap_u32]; done)), ((((HS.out).front 2 (by simp)).front 2 (by simp)).front 2 (by simp)).keep (l := [b7 g2534 g2536 a2544 a2545 a2546 a2547, b6 g2536 A2539 l2538.length n2541 t2583.2, r5 A2539 l2538.length n2541 l2538]) (rest := [])⟩
  · have H := if_no c2581 H
    have c2581b0 : t2568.2.2.2 = false := by simpa using c2581
    have c2581b1 : (!t2568.2.2.2) = true := by rw [c2581b0]; rfl
    try rw [c2581b1]
    clear c2581
    go_wp2_with (first | ((with_reducible refine gate_dst (N := 6) rfl ?_); refine box_on ?hg (N := 6) ?hd (cs := #[.int .i64 0, .int .i64 0, .int .i64 0]) (t := 134) ?hr ?_; (case hd => rfl); (case hg => rfl); (case hr => first | (go_simp; done) | (go_simp; rfl)); intro g2571 hg w2572 hbox hb; replace HS : Aside0 (Sep FF w [b7 g2534 g2536 a2544 a2545 a2546 a2547, b6 g2536 A2539 l2538.length n2541 a2543, r5 A2539 l2538.length n2541 l2538, b8 g2571 0 0 0] w2572) := ⟨HS.out.box hg hbox hb⟩; clear hg hbox hb; have hc2574 : w2572.cell? ⟨g2571, 0, none⟩ = some (.int .i64 0) := blk_cellv (HS.out.at3) 0 rfl; have hz2575 : w2572.frozen? ⟨g2571, 0, none⟩ = false := blk_fz (HS.out.at3) 0; have hc2576 : w2572.cell? ⟨g2571, 1, none⟩ = some (.int .i64 0) := blk_cellv (HS.out.at3) 1 rfl; have hz2577 : w2572.frozen? ⟨g2571, 1, none⟩ = false := blk_fz (HS.out.at3) 1; have hc2578 : w2572.cell? ⟨g2571, 2, none⟩ = some (.int .i64 0) := blk_cellv (HS.out.at3) 2 rfl; have hz2579 : w2572.frozen? ⟨g2571, 2, none⟩ = false := blk_fz (HS.out.at3) 2) | ((with_reducible refine gate_store (t := 134) (p := 6) rfl ?_); refine store_event (w1 := (World.setCell (World.setCell (World.setCell w2572 ⟨g2571, 0, none⟩ (.int .i64 t2568.1)) ⟨g2571, 1, none⟩ (.int .i64 t2568.2.1)) ⟨g2571, 2, none⟩ (.int .i64 t2568.2.2.1))) rfl (t := 134) (p := 6) rfl rfl ?hr ?_; (case hr => first | (go_simp; done) | (go_simp; rfl)); intro w2580 hst; clear hc2574 hz2575 hc2576 hz2577 hc2578 hz2579; replace HS : Aside0 (Sep FF w [b7 g2534 g2536 a2544 a2545 a2546 a2547, b6 g2536 A2539 l2538.length n2541 a2543, r5 A2539 l2538.length n2541 l2538, b8 g2571 t2568.1 t2568.2.1 t2568.2.2.1] w2580) := ⟨by rw [hst]; exact HS.out.setAll (l1 := [b7 g2534 g2536 a2544 a2545 a2546 a2547, b6 g2536 A2539 l2538.length n2541 a2543, r5 A2539 l2538.length n2541 l2538]) (l2 := []) [.int .i64 t2568.1, .int .i64 t2568.2.1, .int .i64 t2568.2.2.1] rfl⟩; clear hst; replace HS : Aside0 (Sep FF w [b7 g2534 g2536 a2544 a2545 a2546 a2547, b6 g2536 A2539 l2538.length n2541 a2543, r5 A2539 l2538.length n2541 l2538] w2580) := ⟨HS.out.sub (.cons_cons _ (.cons_cons _ (.cons_cons _ (.cons _ .slnil))))⟩))
    go_ret2
    rw [← some_eq H]
    exact ⟨(by first | rfl | (simp [IntKind.wrap_u32]; done)), ((((HS.out).front 2 (by simp)).front 2 (by simp)).front 2 (by simp)).keep (l := [b7 g2534 g2536 a2544 a2545 a2546 a2547, b6 g2536 A2539 l2538.length n2541 a2543, r5 A2539 l2538.length n2541 l2538]) (rest := [])⟩

set_option maxHeartbeats 30000000 in
set_option maxRecDepth 100000 in
theorem chain_Len.calls (l2605 : List Int) (a2610 : Int) (a2611 : Int) (a2612 : Int) (a2613 : Int) (a2614 : Int) (a2615 : Int) (g2601 : Nat) (g2603 : Nat) (A2606 : Option Addr) (m2607 : Nat) (n2608 : Nat) (r : Int × Int) (w : World)   (HS : Aside0 (Sep (fps [b7 g2601 g2603 a2611 a2612 a2613 a2614, b6 g2603 A2606 m2607 n2608 a2610, r5 A2606 m2607 n2608 l2605]) w [b7 g2601 g2603 a2611 a2612 a2613 a2614, b6 g2603 A2606 m2607 n2608 a2610, r5 A2606 m2607 n2608 l2605] w)) (H : Aside0 (chain_Len.f l2605 a2610 a2611 a2612 a2613 a2614 a2615 = some r)) :
    Calls Try.prog 55 #[.pointer (some ⟨g2601, 0, none⟩), .int .i64 a2615] w fun e w' => e = .returned (.int .i64 r.1) ∧ Sep (fps [b7 g2601 g2603 a2611 a2612 a2613 a2614, b6 g2603 A2606 m2607 n2608 a2610, r5 A2606 m2607 n2608 l2605]) w [b7 g2601 g2603 a2611 a2612 a2613 a2614, b6 g2603 A2606 m2607 n2608 r.2, r5 A2606 m2607 n2608 l2605] w' := by
  generalize (fps [b7 g2601 g2603 a2611 a2612 a2613 a2614, b6 g2603 A2606 m2607 n2608 a2610, r5 A2606 m2607 n2608 l2605]) = FF at HS ⊢
  obtain rfl := (row_len (HS.out.at2)).symm
  unfold chain_Len.f at H
  go_enter Try.func55, Try.ntmps55
  go_wp2_with fail
  obtain ⟨t2634, HA2635, H⟩ := bind_some H
  refine (chain_of.calls l2605 a2610 a2611 a2612 a2613 a2614 a2615 g2601 g2603 A2606 l2605.length n2608 t2634 _ ⟨HS.out.begin (l := [b7 g2601 g2603 a2611 a2612 a2613 a2614, b6 g2603 A2606 l2605.length n2608 a2610, r5 A2606 l2605.length n2608 l2605]) (rest := [])⟩ HA2635).mono ?_
  rintro e_ w2636 ⟨rfl, hS⟩
  replace HS : Aside0 (Sep FF w [b7 g2601 g2603 a2611 a2612 a2613 a2614, b6 g2603 A2606 l2605.length n2608 a2610, r5 A2606 l2605.length n2608 l2605] w2636) := ⟨HS.out.call (l := [b7 g2601 g2603 a2611 a2612 a2613 a2614, b6 g2603 A2606 l2605.length n2608 a2610, r5 A2606 l2605.length n2608 l2605]) (rest := []) hS⟩
  clear hS
  by_cases c2647 : t2634.2.2.2 = true
  · have H := if_yes c2647 H
    have c2647b0 : t2634.2.2.2 = true := c2647
    have c2647b1 : (!t2634.2.2.2) = false := by rw [c2647b0]; rfl
    try rw [c2647b1]
    clear c2647
    go_wp2_with (first | ((with_reducible refine gate_dst (N := 5) rfl ?_); refine box_on ?hg (N := 5) ?hd (cs := #[.int .i64 0, .int .i64 0, .int .i64 0]) (t := 134) ?hr ?_; (case hd => rfl); (case hg => rfl); (case hr => first | (go_simp; done) | (go_simp; rfl)); intro g2637 hg w2638 hbox hb; replace HS : Aside0 (Sep FF w [b7 g2601 g2603 a2611 a2612 a2613 a2614, b6 g2603 A2606 l2605.length n2608 a2610, r5 A2606 l2605.length n2608 l2605, b8 g2637 0 0 0] w2638) := ⟨HS.out.box hg hbox hb⟩; clear hg hbox hb; have hc2640 : w2638.cell? ⟨g2637, 0, none⟩ = some (.int .i64 0) := blk_cellv (HS.out.at3) 0 rfl; have hz2641 : w2638.frozen? ⟨g2637, 0, none⟩ = false := blk_fz (HS.out.at3) 0; have hc2642 : w2638.cell? ⟨g2637, 1, none⟩ = some (.int .i64 0) := blk_cellv (HS.out.at3) 1 rfl; have hz2643 : w2638.frozen? ⟨g2637, 1, none⟩ = false := blk_fz (HS.out.at3) 1; have hc2644 : w2638.cell? ⟨g2637, 2, none⟩ = some (.int .i64 0) := blk_cellv (HS.out.at3) 2 rfl; have hz2645 : w2638.frozen? ⟨g2637, 2, none⟩ = false := blk_fz (HS.out.at3) 2) | ((with_reducible refine gate_store (t := 134) (p := 5) rfl ?_); refine store_event (w1 := (World.setCell (World.setCell (World.setCell w2638 ⟨g2637, 0, none⟩ (.int .i64 t2634.1)) ⟨g2637, 1, none⟩ (.int .i64 t2634.2.1)) ⟨g2637, 2, none⟩ (.int .i64 t2634.2.2.1))) rfl (t := 134) (p := 5) rfl rfl ?hr ?_; (case hr => first | (go_simp; done) | (go_simp; rfl)); intro w2646 hst; clear hc2640 hz2641 hc2642 hz2643 hc2644 hz2645; replace HS : Aside0 (Sep FF w [b7 g2601 g2603 a2611 a2612 a2613 a2614, b6 g2603 A2606 l2605.length n2608 a2610, r5 A2606 l2605.length n2608 l2605, b8 g2637 t2634.1 t2634.2.1 t2634.2.2.1] w2646) := ⟨by rw [hst]; exact HS.out.setAll (l1 := [b7 g2601 g2603 a2611 a2612 a2613 a2614, b6 g2603 A2606 l2605.length n2608 a2610, r5 A2606 l2605.length n2608 l2605]) (l2 := []) [.int .i64 t2634.1, .int .i64 t2634.2.1, .int .i64 t2634.2.2.1] rfl⟩; clear hst; have hc2648 : w2646.cell? ⟨g2637, 2, none⟩ = some (.int .i64 t2634.2.2.1) := blk_cellv (HS.out.at3) 2 rfl))
    clear hc2648
    obtain ⟨t2649, HA2650, H⟩ := bind_some H
    refine (ground_Ground_Reg.calls l2605 a2610 a2611 a2612 a2613 a2614 t2634.2.2.1 g2601 g2603 A2606 l2605.length n2608 t2649 _ ⟨HS.out.begin (l := [b7 g2601 g2603 a2611 a2612 a2613 a2614, b6 g2603 A2606 l2605.length n2608 a2610, r5 A2606 l2605.length n2608 l2605]) (rest := [b8 g2637 t2634.1 t2634.2.1 t2634.2.2.1])⟩ HA2650).mono ?_
    rintro e_ w2651 ⟨rfl, hS⟩
    replace HS : Aside0 (Sep FF w [b7 g2601 g2603 a2611 a2612 a2613 a2614, b6 g2603 A2606 l2605.length n2608 t2649.2, r5 A2606 l2605.length n2608 l2605, b8 g2637 t2634.1 t2634.2.1 t2634.2.2.1] w2651) := ⟨HS.out.call (l := [b7 g2601 g2603 a2611 a2612 a2613 a2614, b6 g2603 A2606 l2605.length n2608 a2610, r5 A2606 l2605.length n2608 l2605]) (rest := [b8 g2637 t2634.1 t2634.2.1 t2634.2.2.1]) hS⟩
    clear hS
    replace HS : Aside0 (Sep FF w [b7 g2601 g2603 a2611 a2612 a2613 a2614, b6 g2603 A2606 l2605.length n2608 t2649.2, r5 A2606 l2605.length n2608 l2605] w2651) := ⟨HS.out.sub (.cons_cons _ (.cons_cons _ (.cons_cons _ (.cons _ .slnil))))⟩
    go_wp2_with fail
    go_ret
    rw [← some_eq H]
    exact ⟨(by first | rfl | (simp [IntKind.wrap_u32]; done)), ((((HS.out).front 2 (by simp)).front 2 (by simp)).front 2 (by simp)).keep (l := [b7 g2601 g2603 a2611 a2612 a2613 a2614, b6 g2603 A2606 l2605.length n2608 t2649.2, r5 A2606 l2605.length n2608 l2605]) (rest := [])⟩
  · have H := if_no c2647 H
    have c2647b0 : t2634.2.2.2 = false := by simpa using c2647
    have c2647b1 : (!t2634.2.2.2) = true := by rw [c2647b0]; rfl
    try rw [c2647b1]
    clear c2647
    go_wp2_with (first | ((with_reducible refine gate_dst (N := 5) rfl ?_); refine box_on ?hg (N := 5) ?hd (cs := #[.int .i64 0, .int .i64 0, .int .i64 0]) (t := 134) ?hr ?_; (case hd => rfl); (case hg => rfl); (case hr => first | (go_simp; done) | (go_simp; rfl)); intro g2637 hg w2638 hbox hb; replace HS : Aside0 (Sep FF w [b7 g2601 g2603 a2611 a2612 a2613 a2614, b6 g2603 A2606 l2605.length n2608 a2610, r5 A2606 l2605.length n2608 l2605, b8 g2637 0 0 0] w2638) := ⟨HS.out.box hg hbox hb⟩; clear hg hbox hb; have hc2640 : w2638.cell? ⟨g2637, 0, none⟩ = some (.int .i64 0) := blk_cellv (HS.out.at3) 0 rfl; have hz2641 : w2638.frozen? ⟨g2637, 0, none⟩ = false := blk_fz (HS.out.at3) 0; have hc2642 : w2638.cell? ⟨g2637, 1, none⟩ = some (.int .i64 0) := blk_cellv (HS.out.at3) 1 rfl; have hz2643 : w2638.frozen? ⟨g2637, 1, none⟩ = false := blk_fz (HS.out.at3) 1; have hc2644 : w2638.cell? ⟨g2637, 2, none⟩ = some (.int .i64 0) := blk_cellv (HS.out.at3) 2 rfl; have hz2645 : w2638.frozen? ⟨g2637, 2, none⟩ = false := blk_fz (HS.out.at3) 2) | ((with_reducible refine gate_store (t := 134) (p := 5) rfl ?_); refine store_event (w1 := (World.setCell (World.setCell (World.setCell w2638 ⟨g2637, 0, none⟩ (.int .i64 t2634.1)) ⟨g2637, 1, none⟩ (.int .i64 t2634.2.1)) ⟨g2637, 2, none⟩ (.int .i64 t2634.2.2.1))) rfl (t := 134) (p := 5) rfl rfl ?hr ?_; (case hr => first | (go_simp; done) | (go_simp; rfl)); intro w2646 hst; clear hc2640 hz2641 hc2642 hz2643 hc2644 hz2645; replace HS : Aside0 (Sep FF w [b7 g2601 g2603 a2611 a2612 a2613 a2614, b6 g2603 A2606 l2605.length n2608 a2610, r5 A2606 l2605.length n2608 l2605, b8 g2637 t2634.1 t2634.2.1 t2634.2.2.1] w2646) := ⟨by rw [hst]; exact HS.out.setAll (l1 := [b7 g2601 g2603 a2611 a2612 a2613 a2614, b6 g2603 A2606 l2605.length n2608 a2610, r5 A2606 l2605.length n2608 l2605]) (l2 := []) [.int .i64 t2634.1, .int .i64 t2634.2.1, .int .i64 t2634.2.2.1] rfl⟩; clear hst; replace HS : Aside0 (Sep FF w [b7 g2601 g2603 a2611 a2612 a2613 a2614, b6 g2603 A2606 l2605.length n2608 a2610, r5 A2606 l2605.length n2608 l2605] w2646) := ⟨HS.out.sub (.cons_cons _ (.cons_cons _ (.cons_cons _ (.cons _ .slnil))))⟩))
    go_ret
    rw [← some_eq H]
    exact ⟨(by first | rfl | (simp [IntKind.wrap_u32]; done)), ((((HS.out).front 2 (by simp)).front 2 (by simp)).front 2 (by simp)).keep (l := [b7 g2601 g2603 a2611 a2612 a2613 a2614, b6 g2603 A2606 l2605.length n2608 a2610, r5 A2606 l2605.length n2608 l2605]) (rest := [])⟩

set_option maxHeartbeats 30000000 in
set_option maxRecDepth 100000 in
theorem quitrentlaw08_ChainNobody.calls (k : Nat) (a1 : Int) (a2 : Int) (r : Bool) (w : World)   (HS : Aside0 (Sep (fps []) w [] w)) (H : Aside0 (quitrentlaw08_ChainNobody.f k a1 a2 = some r)) :
    Calls Try.prog 12 #[.int .i64 a1, .int .i64 a2] w fun e w' => e = .returned (.bool r) ∧ Sep (fps []) w [] w' := by
  unfold quitrentlaw08_ChainNobody.f at H
  go_enter Try.func12, Try.ntmps12
  go_wp2_with fail
  obtain ⟨t766, HA767, H⟩ := bind_some H
  rcases t766 with t768 | (t769 | t770)
  · have H := sum_l H
    refine (ground_New.calls _ 3 16 1 1 (.inl t768) _ ⟨HS.out.begin (l := []) (rest := [])⟩ HA767).mono ?_
    rintro e_ w771 ⟨rfl, hS⟩
    replace HS : Aside0 (Sep (fps []) w [] w771) := ⟨HS.out.call (l := []) (rest := []) hS⟩
    clear hS
    go_wp2_with fail
    go_ret
    rw [← some_eq H]
    exact ⟨(by first | rfl | (simp [IntKind.wrap_u32]; done)), (HS.out).keep (l := []) (rest := [])⟩
  · have H := sum_r H
    have H := sum_l H
    refine (ground_New.calls _ 3 16 1 1 (.inr (.inl t769)) _ ⟨HS.out.begin (l := []) (rest := [])⟩ HA767).mono ?_
    rintro e_ w772 ⟨g776, g777, A778, m779, n780, rfl, hS⟩
    replace HS : Aside0 (Sep (fps []) w [b7 g776 g777 t769.1 t769.2.1 t769.2.2.1 t769.2.2.2.1, b6 g777 A778 m779 n780 0, r5 A778 m779 n780 t769.2.2.2.2] w772) := ⟨HS.out.call (l := []) (rest := []) hS⟩
    clear hS
    obtain rfl := (row_len (HS.out.at2)).symm
    go_wp2_with fail
    obtain ⟨t960, HA961, H⟩ := bind_some H
    refine (chain_Take_nil.calls a1 t960 _ ⟨HS.out.begin (l := []) (rest := [b7 g776 g777 t769.1 t769.2.1 t769.2.2.1 t769.2.2.2.1, b6 g777 A778 ((t769.2.2.2.2).length) n780 0, r5 A778 ((t769.2.2.2.2).length) n780 t769.2.2.2.2])⟩ HA961).mono ?_
    rintro e_ w962 ⟨rfl, hS⟩
    replace HS : Aside0 (Sep (fps []) w [b7 g776 g777 t769.1 t769.2.1 t769.2.2.1 t769.2.2.2.1, b6 g777 A778 ((t769.2.2.2.2).length) n780 0, r5 A778 ((t769.2.2.2.2).length) n780 t769.2.2.2.2] w962) := ⟨HS.out.call (l := []) (rest := [b7 g776 g777 t769.1 t769.2.1 t769.2.2.1 t769.2.2.2.1, b6 g777 A778 ((t769.2.2.2.2).length) n780 0, r5 A778 ((t769.2.2.2.2).length) n780 t769.2.2.2.2]) hS⟩
    clear hS
    go_wp2_with fail
    obtain ⟨t983, HA984, H⟩ := bind_some H
    refine (chain_First_nil.calls a1 t983 _ ⟨HS.out.begin (l := []) (rest := [b7 g776 g777 t769.1 t769.2.1 t769.2.2.1 t769.2.2.2.1, b6 g777 A778 ((t769.2.2.2.2).length) n780 0, r5 A778 ((t769.2.2.2.2).length) n780 t769.2.2.2.2])⟩ HA984).mono ?_
    rintro e_ w985 ⟨rfl, hS⟩
    replace HS : Aside0 (Sep (fps []) w [b7 g776 g777 t769.1 t769.2.1 t769.2.2.1 t769.2.2.2.1, b6 g777 A778 ((t769.2.2.2.2).length) n780 0, r5 A778 ((t769.2.2.2.2).length) n780 t769.2.2.2.2] w985) := ⟨HS.out.call (l := []) (rest := [b7 g776 g777 t769.1 t769.2.1 t769.2.2.1 t769.2.2.2.1, b6 g777 A778 ((t769.2.2.2.2).length) n780 0, r5 A778 ((t769.2.2.2.2).length) n780 t769.2.2.2.2]) hS⟩
    clear hS
    go_wp2_with fail
    obtain ⟨t1072, HA1073, H⟩ := bind_some H
    refine (chain_Push_nil.calls a1 a2 t1072 _ ⟨HS.out.begin (l := []) (rest := [b7 g776 g777 t769.1 t769.2.1 t769.2.2.1 t769.2.2.2.1, b6 g777 A778 ((t769.2.2.2.2).length) n780 0, r5 A778 ((t769.2.2.2.2).length) n780 t769.2.2.2.2])⟩ HA1073).mono ?_
    rintro e_ w1074 ⟨rfl, hS⟩
    replace HS : Aside0 (Sep (fps []) w [b7 g776 g777 t769.1 t769.2.1 t769.2.2.1 t769.2.2.2.1, b6 g777 A778 ((t769.2.2.2.2).length) n780 0, r5 A778 ((t769.2.2.2.2).length) n780 t769.2.2.2.2] w1074) := ⟨HS.out.call (l := []) (rest := [b7 g776 g777 t769.1 t769.2.1 t769.2.2.1 t769.2.2.2.1, b6 g777 A778 ((t769.2.2.2.2).length) n780 0, r5 A778 ((t769.2.2.2.2).length) n780 t769.2.2.2.2]) hS⟩
    clear hS
    by_cases c1075 : t1072 = true
    · have H := if_yes c1075 H
      have c1075b0 : t1072 = true := c1075
      have c1075b1 : (!t1072) = false := by rw [c1075b0]; rfl
      clear c1075
      replace HS : Aside0 (Sep (fps []) w [] w1074) := ⟨HS.out.sub (.cons _ (.cons _ (.cons _ .slnil)))⟩
      go_wp2_with fail
      go_ret
      rw [← some_eq H]
      exact ⟨(by first | rfl | (simp [IntKind.wrap_u32]; done)), (HS.out).keep (l := []) (rest := [])⟩
    · have H := if_no c1075 H
      have c1075b0 : t1072 = false := by simpa using c1075
      have c1075b1 : (!t1072) = true := by rw [c1075b0]; rfl
      clear c1075
      go_wp2_with fail
      obtain ⟨t1171, HA1172, H⟩ := bind_some H
      refine (chain_Add_nil.calls a1 a2 t1171 _ ⟨HS.out.begin (l := []) (rest := [b7 g776 g777 t769.1 t769.2.1 t769.2.2.1 t769.2.2.2.1, b6 g777 A778 ((t769.2.2.2.2).length) n780 0, r5 A778 ((t769.2.2.2.2).length) n780 t769.2.2.2.2])⟩ HA1172).mono ?_
      rintro e_ w1173 ⟨rfl, hS⟩
      replace HS : Aside0 (Sep (fps []) w [b7 g776 g777 t769.1 t769.2.1 t769.2.2.1 t769.2.2.2.1, b6 g777 A778 ((t769.2.2.2.2).length) n780 0, r5 A778 ((t769.2.2.2.2).length) n780 t769.2.2.2.2] w1173) := ⟨HS.out.call (l := []) (rest := [b7 g776 g777 t769.1 t769.2.1 t769.2.2.1 t769.2.2.2.1, b6 g777 A778 ((t769.2.2.2.2).length) n780 0, r5 A778 ((t769.2.2.2.2).length) n780 t769.2.2.2.2]) hS⟩
      clear hS
      by_cases c1174 : t1171 = true
      · have H := if_yes c1174 H
        have c1174b0 : t1171 = true := c1174
        have c1174b1 : (!t1171) = false := by rw [c1174b0]; rfl
        clear c1174
        replace HS : Aside0 (Sep (fps []) w [] w1173) := ⟨HS.out.sub (.cons _ (.cons _ (.cons _ .slnil)))⟩
        go_wp2_with fail
        go_ret
        rw [← some_eq H]
        exact ⟨(by first | rfl | (simp [IntKind.wrap_u32]; done)), (HS.out).keep (l := []) (rest := [])⟩
      · have H := if_no c1174 H
        have c1174b0 : t1171 = false := by simpa using c1174
        have c1174b1 : (!t1171) = true := by rw [c1174b0]; rfl
        clear c1174
        by_cases c1175 : t960.1 = 0
        · have H := if_yes c1175 H
          have c1175b0 : (t960.1 == 0) = true := beq_iff_eq.mpr c1175
          have c1175b1 : (t960.1 != 0) = false := bne_eq_false_iff_eq.mpr c1175
          clear c1175
          by_cases c1176 : t960.2 = true
          · have H := if_yes c1176 H
            have c1176b0 : t960.2 = true := c1176
            have c1176b1 : (!t960.2) = false := by rw [c1176b0]; rfl
            clear c1176
            replace HS : Aside0 (Sep (fps []) w [] w1173) := ⟨HS.out.sub (.cons _ (.cons _ (.cons _ .slnil)))⟩
            go_wp2_with fail
            go_ret
            rw [← some_eq H]
            exact ⟨(by first | rfl | (simp [IntKind.wrap_u32]; done)), (HS.out).keep (l := []) (rest := [])⟩
          · have H := if_no c1176 H
            have c1176b0 : t960.2 = false := by simpa using c1176
            have c1176b1 : (!t960.2) = true := by rw [c1176b0]; rfl
            clear c1176
            by_cases c1177 : t983.1 = 0
            · have H := if_yes c1177 H
              have c1177b0 : (t983.1 == 0) = true := beq_iff_eq.mpr c1177
              have c1177b1 : (t983.1 != 0) = false := bne_eq_false_iff_eq.mpr c1177
              clear c1177
              by_cases c1178 : t983.2 = true
              · have H := if_yes c1178 H
                have c1178b0 : t983.2 = true := c1178
                have c1178b1 : (!t983.2) = false := by rw [c1178b0]; rfl
                clear c1178
                replace HS : Aside0 (Sep (fps []) w [] w1173) := ⟨HS.out.sub (.cons _ (.cons _ (.cons _ .slnil)))⟩
                go_wp2_with fail
                go_ret
                rw [← some_eq H]
                exact ⟨(by first | rfl | (simp [IntKind.wrap_u32]; done)), (HS.out).keep (l := []) (rest := [])⟩
              · have H := if_no c1178 H
                have c1178b0 : t983.2 = false := by simpa using c1178
                have c1178b1 : (!t983.2) = true := by rw [c1178b0]; rfl
                clear c1178
                go_wp2_with fail
                obtain ⟨t1198, HA1199, H⟩ := bind_some H
                refine (chain_Len_nil.calls a1 t1198 _ ⟨HS.out.begin (l := []) (rest := [b7 g776 g777 t769.1 t769.2.1 t769.2.2.1 t769.2.2.2.1, b6 g777 A778 ((t769.2.2.2.2).length) n780 0, r5 A778 ((t769.2.2.2.2).length) n780 t769.2.2.2.2])⟩ HA1199).mono ?_
                rintro e_ w1200 ⟨rfl, hS⟩
                replace HS : Aside0 (Sep (fps []) w [b7 g776 g777 t769.1 t769.2.1 t769.2.2.1 t769.2.2.2.1, b6 g777 A778 ((t769.2.2.2.2).length) n780 0, r5 A778 ((t769.2.2.2.2).length) n780 t769.2.2.2.2] w1200) := ⟨HS.out.call (l := []) (rest := [b7 g776 g777 t769.1 t769.2.1 t769.2.2.1 t769.2.2.2.1, b6 g777 A778 ((t769.2.2.2.2).length) n780 0, r5 A778 ((t769.2.2.2.2).length) n780 t769.2.2.2.2]) hS⟩
                clear hS
                by_cases c1201 : t1198 = 0
                · have H := if_yes c1201 H
                  have c1201b0 : (t1198 == 0) = true := beq_iff_eq.mpr c1201
                  have c1201b1 : (t1198 != 0) = false := bne_eq_false_iff_eq.mpr c1201
                  clear c1201
                  go_wp2_with fail
                  obtain ⟨t1290, HA1291, H⟩ := bind_some H
                  refine (chain_List_nil.calls _ a1 t1290 _ ⟨HS.out.begin (l := []) (rest := [b7 g776 g777 t769.1 t769.2.1 t769.2.2.1 t769.2.2.2.1, b6 g777 A778 ((t769.2.2.2.2).length) n780 0, r5 A778 ((t769.2.2.2.2).length) n780 t769.2.2.2.2])⟩ HA1291).mono ?_
                  rintro e_ w1292 ⟨A1294, m1295, n1296, rfl, hS⟩
                  replace HS : Aside0 (Sep (fps []) w [r11 A1294 m1295 n1296 t1290, b7 g776 g777 t769.1 t769.2.1 t769.2.2.1 t769.2.2.2.1, b6 g777 A778 ((t769.2.2.2.2).length) n780 0, r5 A778 ((t769.2.2.2.2).length) n780 t769.2.2.2.2] w1292) := ⟨HS.out.call (l := []) (rest := [b7 g776 g777 t769.1 t769.2.1 t769.2.2.1 t769.2.2.2.1, b6 g777 A778 ((t769.2.2.2.2).length) n780 0, r5 A778 ((t769.2.2.2.2).length) n780 t769.2.2.2.2]) hS⟩
                  clear hS
                  obtain rfl := (row_len (HS.out.at0)).symm
                  by_cases c1298 : (t1290.length : Int) = 0
                  · have H := if_yes c1298 H
                    have c1298b0 : ((t1290.length : Int) == 0) = true := beq_iff_eq.mpr c1298
                    have c1298b1 : ((t1290.length : Int) != 0) = false := bne_eq_false_iff_eq.mpr c1298
                    clear c1298
                    by_cases c1299 : a1 = 0
                    · have H := if_yes c1299 H
                      have c1299b0 : (a1 == 0) = true := beq_iff_eq.mpr c1299
                      have c1299b1 : (a1 != 0) = false := bne_eq_false_iff_eq.mpr c1299
                      clear c1299
                      replace HS : Aside0 (Sep (fps []) w [b7 g776 g777 t769.1 t769.2.1 t769.2.2.1 t769.2.2.2.1, b6 g777 A778 ((t769.2.2.2.2).length) n780 0, r5 A778 ((t769.2.2.2.2).length) n780 t769.2.2.2.2] w1292) := ⟨HS.out.sub (.cons _ (.cons_cons _ (.cons_cons _ (.cons_cons _ .slnil))))⟩
                      go_wp2_with fail
                      obtain ⟨t2364, HA2365, H⟩ := bind_some H
                      refine (quitrentlaw08_begun.calls _ t2364 _ ⟨HS.out.begin (l := []) (rest := [b7 g776 g777 t769.1 t769.2.1 t769.2.2.1 t769.2.2.2.1, b6 g777 A778 ((t769.2.2.2.2).length) n780 0, r5 A778 ((t769.2.2.2.2).length) n780 t769.2.2.2.2])⟩ HA2365).mono ?_
                      rintro e_ w2366 ⟨rfl, hS⟩
                      replace HS : Aside0 (Sep (fps []) w [b7 g776 g777 t769.1 t769.2.1 t769.2.2.1 t769.2.2.2.1, b6 g777 A778 ((t769.2.2.2.2).length) n780 0, r5 A778 ((t769.2.2.2.2).length) n780 t769.2.2.2.2] w2366) := ⟨HS.out.call (l := []) (rest := [b7 g776 g777 t769.1 t769.2.1 t769.2.2.1 t769.2.2.2.1, b6 g777 A778 ((t769.2.2.2.2).length) n780 0, r5 A778 ((t769.2.2.2.2).length) n780 t769.2.2.2.2]) hS⟩
                      clear hS
                      replace HS : Aside0 (Sep (fps []) w [] w2366) := ⟨HS.out.sub (.cons _ (.cons _ (.cons _ .slnil)))⟩
                      go_wp2_with fail
                      go_ret
                      rw [← some_eq H]
                      exact ⟨(by first | rfl | (simp [IntKind.wrap_u32]; done)), (HS.out).keep (l := []) (rest := [])⟩
                    · have H := if_no c1299 H
                      have c1299b0 : (a1 == 0) = false := beq_eq_false_iff_ne.mpr c1299
                      have c1299b1 : (a1 != 0) = true := bne_iff_ne.mpr c1299
                      clear c1299
                      by_cases c2367 : a1 = 1
                      · have H := if_yes c2367 H
                        have c2367b0 : (a1 == 1) = true := beq_iff_eq.mpr c2367
                        have c2367b1 : (a1 != 1) = false := bne_eq_false_iff_eq.mpr c2367
                        clear c2367
                        replace HS : Aside0 (Sep (fps []) w [b7 g776 g777 t769.1 t769.2.1 t769.2.2.1 t769.2.2.2.1, b6 g777 A778 ((t769.2.2.2.2).length) n780 0, r5 A778 ((t769.2.2.2.2).length) n780 t769.2.2.2.2] w1292) := ⟨HS.out.sub (.cons _ (.cons_cons _ (.cons_cons _ (.cons_cons _ .slnil))))⟩
                        go_wp2_with fail
                        obtain ⟨t2364, HA2368, H⟩ := bind_some H
                        refine (quitrentlaw08_begun.calls _ t2364 _ ⟨HS.out.begin (l := []) (rest := [b7 g776 g777 t769.1 t769.2.1 t769.2.2.1 t769.2.2.2.1, b6 g777 A778 ((t769.2.2.2.2).length) n780 0, r5 A778 ((t769.2.2.2.2).length) n780 t769.2.2.2.2])⟩ HA2368).mono ?_
                        rintro e_ w2369 ⟨rfl, hS⟩
                        replace HS : Aside0 (Sep (fps []) w [b7 g776 g777 t769.1 t769.2.1 t769.2.2.1 t769.2.2.2.1, b6 g777 A778 ((t769.2.2.2.2).length) n780 0, r5 A778 ((t769.2.2.2.2).length) n780 t769.2.2.2.2] w2369) := ⟨HS.out.call (l := []) (rest := [b7 g776 g777 t769.1 t769.2.1 t769.2.2.1 t769.2.2.2.1, b6 g777 A778 ((t769.2.2.2.2).length) n780 0, r5 A778 ((t769.2.2.2.2).length) n780 t769.2.2.2.2]) hS⟩
                        clear hS
                        replace HS : Aside0 (Sep (fps []) w [] w2369) := ⟨HS.out.sub (.cons _ (.cons _ (.cons _ .slnil)))⟩
                        go_wp2_with fail
                        go_ret
                        rw [← some_eq H]
                        exact ⟨(by first | rfl | (simp [IntKind.wrap_u32]; done)), (HS.out).keep (l := []) (rest := [])⟩
                      · have H := if_no c2367 H
                        have c2367b0 : (a1 == 1) = false := beq_eq_false_iff_ne.mpr c2367
                        have c2367b1 : (a1 != 1) = true := bne_iff_ne.mpr c2367
                        clear c2367
                        replace HS : Aside0 (Sep (fps []) w [b7 g776 g777 t769.1 t769.2.1 t769.2.2.1 t769.2.2.2.1, b6 g777 A778 ((t769.2.2.2.2).length) n780 0, r5 A778 ((t769.2.2.2.2).length) n780 t769.2.2.2.2] w1292) := ⟨HS.out.sub (.cons _ (.cons_cons _ (.cons_cons _ (.cons_cons _ .slnil))))⟩
                        go_wp2_with fail
                        obtain ⟨t2530, HA2531, H⟩ := bind_some H
                        refine (chain_Take.calls t769.2.2.2.2 0 t769.1 t769.2.1 t769.2.2.1 t769.2.2.2.1 a1 g776 g777 A778 ((t769.2.2.2.2).length) n780 t2530 _ ⟨HS.out.begin (l := [b7 g776 g777 t769.1 t769.2.1 t769.2.2.1 t769.2.2.2.1, b6 g777 A778 ((t769.2.2.2.2).length) n780 0, r5 A778 ((t769.2.2.2.2).length) n780 t769.2.2.2.2]) (rest := [])⟩ HA2531).mono ?_
                        rintro e_ w2532 ⟨rfl, hS⟩
                        replace HS : Aside0 (Sep (fps []) w [b7 g776 g777 t769.1 t769.2.1 t769.2.2.1 t769.2.2.2.1, b6 g777 A778 ((t769.2.2.2.2).length) n780 t2530.2.2.1, r5 A778 ((t769.2.2.2.2).length) n780 t2530.2.2.2] w2532) := ⟨HS.out.call (l := [b7 g776 g777 t769.1 t769.2.1 t769.2.2.1 t769.2.2.2.1, b6 g777 A778 ((t769.2.2.2.2).length) n780 0, r5 A778 ((t769.2.2.2.2).length) n780 t769.2.2.2.2]) (rest := []) hS⟩
                        clear hS
                        go_wp2_with fail
                        obtain ⟨t2587, HA2588, H⟩ := bind_some H
                        refine (chain_First.calls t2530.2.2.2 t2530.2.2.1 t769.1 t769.2.1 t769.2.2.1 t769.2.2.2.1 a1 g776 g777 A778 ((t769.2.2.2.2).length) n780 t2587 _ ⟨HS.out.begin (l := [b7 g776 g777 t769.1 t769.2.1 t769.2.2.1 t769.2.2.2.1, b6 g777 A778 ((t769.2.2.2.2).length) n780 t2530.2.2.1, r5 A778 ((t769.2.2.2.2).length) n780 t2530.2.2.2]) (rest := [])⟩ HA2588).mono ?_
                        rintro e_ w2589 ⟨rfl, hS⟩
                        replace HS : Aside0 (Sep (fps []) w [b7 g776 g777 t769.1 t769.2.1 t769.2.2.1 t769.2.2.2.1, b6 g777 A778 ((t769.2.2.2.2).length) n780 t2587.2.2, r5 A778 ((t769.2.2.2.2).length) n780 t2530.2.2.2] w2589) := ⟨HS.out.call (l := [b7 g776 g777 t769.1 t769.2.1 t769.2.2.1 t769.2.2.2.1, b6 g777 A778 ((t769.2.2.2.2).length) n780 t2530.2.2.1, r5 A778 ((t769.2.2.2.2).length) n780 t2530.2.2.2]) (rest := []) hS⟩
                        clear hS
                        go_wp2_with fail
                        obtain ⟨t2590, HA2591, H⟩ := bind_some H
                        refine (chain_Push.calls t2530.2.2.2 t2587.2.2 t769.1 t769.2.1 t769.2.2.1 t769.2.2.2.1 a1 a2 g776 g777 A778 ((t769.2.2.2.2).length) n780 t2590 _ ⟨HS.out.begin (l := [b7 g776 g777 t769.1 t769.2.1 t769.2.2.1 t769.2.2.2.1, b6 g777 A778 ((t769.2.2.2.2).length) n780 t2587.2.2, r5 A778 ((t769.2.2.2.2).length) n780 t2530.2.2.2]) (rest := [])⟩ HA2591).mono ?_
                        rintro e_ w2592 ⟨rfl, hS⟩
                        replace HS : Aside0 (Sep (fps []) w [b7 g776 g777 t769.1 t769.2.1 t769.2.2.1 t769.2.2.2.1, b6 g777 A778 ((t769.2.2.2.2).length) n780 t2590.2.1, r5 A778 ((t769.2.2.2.2).length) n780 t2590.2.2] w2592) := ⟨HS.out.call (l := [b7 g776 g777 t769.1 t769.2.1 t769.2.2.1 t769.2.2.2.1, b6 g777 A778 ((t769.2.2.2.2).length) n780 t2587.2.2, r5 A778 ((t769.2.2.2.2).length) n780 t2530.2.2.2]) (rest := []) hS⟩
                        clear hS
                        by_cases c2593 : t2590.1 = true
                        · have H := if_yes c2593 H
                          have c2593b0 : t2590.1 = true := c2593
                          have c2593b1 : (!t2590.1) = false := by rw [c2593b0]; rfl
                          try rw [c2593b1]
                          clear c2593
                          replace HS : Aside0 (Sep (fps []) w [] w2592) := ⟨HS.out.sub (.cons _ (.cons _ (.cons _ .slnil)))⟩
                          go_wp2_with fail
                          go_ret
                          rw [← some_eq H]
                          exact ⟨(by first | rfl | (simp [IntKind.wrap_u32]; done)), (HS.out).keep (l := []) (rest := [])⟩
                        · have H := if_no c2593 H
                          have c2593b0 : t2590.1 = false := by simpa using c2593
                          have c2593b1 : (!t2590.1) = true := by rw [c2593b0]; rfl
                          try rw [c2593b1]
                          clear c2593
                          go_wp2_with fail
                          obtain ⟨t2594, HA2595, H⟩ := bind_some H
                          refine (chain_Add.calls t2590.2.2 t2590.2.1 t769.1 t769.2.1 t769.2.2.1 t769.2.2.2.1 a1 a2 g776 g777 A778 ((t769.2.2.2.2).length) n780 t2594 _ ⟨HS.out.begin (l := [b7 g776 g777 t769.1 t769.2.1 t769.2.2.1 t769.2.2.2.1, b6 g777 A778 ((t769.2.2.2.2).length) n780 t2590.2.1, r5 A778 ((t769.2.2.2.2).length) n780 t2590.2.2]) (rest := [])⟩ HA2595).mono ?_
                          rintro e_ w2596 ⟨rfl, hS⟩
                          replace HS : Aside0 (Sep (fps []) w [b7 g776 g777 t769.1 t769.2.1 t769.2.2.1 t769.2.2.2.1, b6 g777 A778 ((t769.2.2.2.2).length) n780 t2594.2.1, r5 A778 ((t769.2.2.2.2).length) n780 t2594.2.2] w2596) := ⟨HS.out.call (l := [b7 g776 g777 t769.1 t769.2.1 t769.2.2.1 t769.2.2.2.1, b6 g777 A778 ((t769.2.2.2.2).length) n780 t2590.2.1, r5 A778 ((t769.2.2.2.2).length) n780 t2590.2.2]) (rest := []) hS⟩
                          clear hS
                          by_cases c2597 : t2594.1 = true
                          · have H := if_yes c2597 H
                            have c2597b0 : t2594.1 = true := c2597
                            have c2597b1 : (!t2594.1) = false := by rw [c2597b0]; rfl
                            try rw [c2597b1]
                            clear c2597
                            replace HS : Aside0 (Sep (fps []) w [] w2596) := ⟨HS.out.sub (.cons _ (.cons _ (.cons _ .slnil)))⟩
                            go_wp2_with fail
                            go_ret
                            rw [← some_eq H]
                            exact ⟨(by first | rfl | (simp [IntKind.wrap_u32]; done)), (HS.out).keep (l := []) (rest := [])⟩
                          · have H := if_no c2597 H
                            have c2597b0 : t2594.1 = false := by simpa using c2597
                            have c2597b1 : (!t2594.1) = true := by rw [c2597b0]; rfl
                            try rw [c2597b1]
                            clear c2597
                            by_cases c2598 : t2530.2.1 = true
                            · have H := if_yes c2598 H
                              have c2598b0 : t2530.2.1 = true := c2598
                              have c2598b1 : (!t2530.2.1) = false := by rw [c2598b0]; rfl
                              try rw [c2598b1]
                              clear c2598
                              replace HS : Aside0 (Sep (fps []) w [] w2596) := ⟨HS.out.sub (.cons _ (.cons _ (.cons _ .slnil)))⟩
                              go_wp2_with fail
                              go_ret
                              rw [← some_eq H]
                              exact ⟨(by first | rfl | (simp [IntKind.wrap_u32]; done)), (HS.out).keep (l := []) (rest := [])⟩
                            · have H := if_no c2598 H
                              have c2598b0 : t2530.2.1 = false := by simpa using c2598
                              have c2598b1 : (!t2530.2.1) = true := by rw [c2598b0]; rfl
                              try rw [c2598b1]
                              clear c2598
                              by_cases c2599 : t2587.2.1 = true
                              · have H := if_yes c2599 H
                                have c2599b0 : t2587.2.1 = true := c2599
                                have c2599b1 : (!t2587.2.1) = false := by rw [c2599b0]; rfl
                                try rw [c2599b1]
                                clear c2599
                                replace HS : Aside0 (Sep (fps []) w [] w2596) := ⟨HS.out.sub (.cons _ (.cons _ (.cons _ .slnil)))⟩
                                go_wp2_with fail
                                go_ret
                                rw [← some_eq H]
                                exact ⟨(by first | rfl | (simp [IntKind.wrap_u32]; done)), (HS.out).keep (l := []) (rest := [])⟩
                              · have H := if_no c2599 H
                                have c2599b0 : t2587.2.1 = false := by simpa using c2599
                                have c2599b1 : (!t2587.2.1) = true := by rw [c2599b0]; rfl
                                try rw [c2599b1]
                                clear c2599
                                go_wp2_with fail
                                obtain ⟨t2652, HA2653, H⟩ := bind_some H
                                refine (chain_Len.calls t2594.2.2 t2594.2.1 t769.1 t769.2.1 t769.2.2.1 t769.2.2.2.1 a1 g776 g777 A778 ((t769.2.2.2.2).length) n780 t2652 _ ⟨HS.out.begin (l := [b7 g776 g777 t769.1 t769.2.1 t769.2.2.1 t769.2.2.2.1, b6 g777 A778 ((t769.2.2.2.2).length) n780 t2594.2.1, r5 A778 ((t769.2.2.2.2).length) n780 t2594.2.2]) (rest := [])⟩ HA2653).mono ?_
                                rintro e_ w2654 ⟨rfl, hS⟩
                                replace HS : Aside0 (Sep (fps []) w [b7 g776 g777 t769.1 t769.2.1 t769.2.2.1 t769.2.2.2.1, b6 g777 A778 ((t769.2.2.2.2).length) n780 t2652.2, r5 A778 ((t769.2.2.2.2).length) n780 t2594.2.2] w2654) := ⟨HS.out.call (l := [b7 g776 g777 t769.1 t769.2.1 t769.2.2.1 t769.2.2.2.1, b6 g777 A778 ((t769.2.2.2.2).length) n780 t2594.2.1, r5 A778 ((t769.2.2.2.2).length) n780 t2594.2.2]) (rest := []) hS⟩
                                clear hS
                                by_cases c2655 : t2652.1 = 0
                                · have H := if_yes c2655 H
                                  have c2655b0 : (t2652.1 == 0) = true := beq_iff_eq.mpr c2655
                                  have c2655b1 : (t2652.1 != 0) = false := bne_eq_false_iff_eq.mpr c2655
                                  clear c2655
                                  go_wp2_with fail
                                  obtain ⟨t2656, HA2657, H⟩ := bind_some H
                                  refine (chain_List.calls _ t2594.2.2 t2652.2 t769.1 t769.2.1 t769.2.2.1 t769.2.2.2.1 a1 g776 g777 A778 ((t769.2.2.2.2).length) n780 t2656 _ ⟨HS.out.begin (l := [b7 g776 g777 t769.1 t769.2.1 t769.2.2.1 t769.2.2.2.1, b6 g777 A778 ((t769.2.2.2.2).length) n780 t2652.2, r5 A778 ((t769.2.2.2.2).length) n780 t2594.2.2]) (rest := [])⟩ HA2657).mono ?_
                                  rintro e_ w2658 ⟨A2660, m2661, n2662, rfl, hS⟩
                                  replace HS : Aside0 (Sep (fps []) w [b7 g776 g777 t769.1 t769.2.1 t769.2.2.1 t769.2.2.2.1, b6 g777 A778 ((t769.2.2.2.2).length) n780 t2652.2, r5 A778 ((t769.2.2.2.2).length) n780 t2594.2.2, r11 A2660 m2661 n2662 t2656] w2658) := ⟨HS.out.call (l := [b7 g776 g777 t769.1 t769.2.1 t769.2.2.1 t769.2.2.2.1, b6 g777 A778 ((t769.2.2.2.2).length) n780 t2652.2, r5 A778 ((t769.2.2.2.2).length) n780 t2594.2.2]) (rest := []) hS⟩
                                  clear hS
                                  obtain rfl := (row_len (HS.out.at3)).symm
                                  by_cases c2664 : (t2656.length : Int) = 0
                                  · have H := if_yes c2664 H
                                    have c2664b0 : ((t2656.length : Int) == 0) = true := beq_iff_eq.mpr c2664
                                    have c2664b1 : ((t2656.length : Int) != 0) = false := bne_eq_false_iff_eq.mpr c2664
                                    clear c2664
                                    go_wp2_with fail
                                    obtain ⟨t2665, HA2666, H⟩ := bind_some H
                                    refine (quitrentlaw08_begun.calls _ t2665 _ ⟨HS.out.begin (l := []) (rest := [b7 g776 g777 t769.1 t769.2.1 t769.2.2.1 t769.2.2.2.1, b6 g777 A778 ((t769.2.2.2.2).length) n780 t2652.2, r5 A778 ((t769.2.2.2.2).length) n780 t2594.2.2, r11 A2660 t2656.length n2662 t2656])⟩ HA2666).mono ?_
                                    rintro e_ w2667 ⟨rfl, hS⟩
                                    replace HS : Aside0 (Sep (fps []) w [b7 g776 g777 t769.1 t769.2.1 t769.2.2.1 t769.2.2.2.1, b6 g777 A778 ((t769.2.2.2.2).length) n780 t2652.2, r5 A778 ((t769.2.2.2.2).length) n780 t2594.2.2, r11 A2660 t2656.length n2662 t2656] w2667) := ⟨HS.out.call (l := []) (rest := [b7 g776 g777 t769.1 t769.2.1 t769.2.2.1 t769.2.2.2.1, b6 g777 A778 ((t769.2.2.2.2).length) n780 t2652.2, r5 A778 ((t769.2.2.2.2).length) n780 t2594.2.2, r11 A2660 t2656.length n2662 t2656]) hS⟩
                                    clear hS
                                    replace HS : Aside0 (Sep (fps []) w [] w2667) := ⟨HS.out.sub (.cons _ (.cons _ (.cons _ (.cons _ .slnil))))⟩
                                    go_wp2_with fail
                                    go_ret
                                    rw [← some_eq H]
                                    exact ⟨(by first | rfl | (simp [IntKind.wrap_u32]; done)), (HS.out).keep (l := []) (rest := [])⟩
                                  · have H := if_no c2664 H
                                    have c2664b0 : ((t2656.length : Int) == 0) = false := beq_eq_false_iff_ne.mpr c2664
                                    have c2664b1 : ((t2656.length : Int) != 0) = true := bne_iff_ne.mpr c2664
                                    clear c2664
                                    replace HS : Aside0 (Sep (fps []) w [] w2658) := ⟨HS.out.sub (.cons _ (.cons _ (.cons _ (.cons _ .slnil))))⟩
                                    go_wp2_with fail
                                    go_ret
                                    rw [← some_eq H]
                                    exact ⟨(by first | rfl | (simp [IntKind.wrap_u32]; done)), (HS.out).keep (l := []) (rest := [])⟩
                                · have H := if_no c2655 H
                                  have c2655b0 : (t2652.1 == 0) = false := beq_eq_false_iff_ne.mpr c2655
                                  have c2655b1 : (t2652.1 != 0) = true := bne_iff_ne.mpr c2655
                                  clear c2655
                                  replace HS : Aside0 (Sep (fps []) w [] w2654) := ⟨HS.out.sub (.cons _ (.cons _ (.cons _ .slnil)))⟩
                                  go_wp2_with fail
                                  go_ret
                                  rw [← some_eq H]
                                  exact ⟨(by first | rfl | (simp [IntKind.wrap_u32]; done)), (HS.out).keep (l := []) (rest := [])⟩
                  · have H := if_no c1298 H
                    have c1298b0 : ((t1290.length : Int) == 0) = false := beq_eq_false_iff_ne.mpr c1298
                    have c1298b1 : ((t1290.length : Int) != 0) = true := bne_iff_ne.mpr c1298
                    clear c1298
                    replace HS : Aside0 (Sep (fps []) w [b7 g776 g777 t769.1 t769.2.1 t769.2.2.1 t769.2.2.2.1, b6 g777 A778 ((t769.2.2.2.2).length) n780 0, r5 A778 ((t769.2.2.2.2).length) n780 t769.2.2.2.2] w1292) := ⟨HS.out.sub (.cons _ (.cons_cons _ (.cons_cons _ (.cons_cons _ .slnil))))⟩
                    replace HS : Aside0 (Sep (fps []) w [] w1292) := ⟨HS.out.sub (.cons _ (.cons _ (.cons _ .slnil)))⟩
                    go_wp2_with fail
                    go_ret
                    rw [← some_eq H]
                    exact ⟨(by first | rfl | (simp [IntKind.wrap_u32]; done)), (HS.out).keep (l := []) (rest := [])⟩
                · have H := if_no c1201 H
                  have c1201b0 : (t1198 == 0) = false := beq_eq_false_iff_ne.mpr c1201
                  have c1201b1 : (t1198 != 0) = true := bne_iff_ne.mpr c1201
                  clear c1201
                  replace HS : Aside0 (Sep (fps []) w [] w1200) := ⟨HS.out.sub (.cons _ (.cons _ (.cons _ .slnil)))⟩
                  go_wp2_with fail
                  go_ret
                  rw [← some_eq H]
                  exact ⟨(by first | rfl | (simp [IntKind.wrap_u32]; done)), (HS.out).keep (l := []) (rest := [])⟩
            · have H := if_no c1177 H
              have c1177b0 : (t983.1 == 0) = false := beq_eq_false_iff_ne.mpr c1177
              have c1177b1 : (t983.1 != 0) = true := bne_iff_ne.mpr c1177
              clear c1177
              replace HS : Aside0 (Sep (fps []) w [] w1173) := ⟨HS.out.sub (.cons _ (.cons _ (.cons _ .slnil)))⟩
              go_wp2_with fail
              go_ret
              rw [← some_eq H]
              exact ⟨(by first | rfl | (simp [IntKind.wrap_u32]; done)), (HS.out).keep (l := []) (rest := [])⟩
        · have H := if_no c1175 H
          have c1175b0 : (t960.1 == 0) = false := beq_eq_false_iff_ne.mpr c1175
          have c1175b1 : (t960.1 != 0) = true := bne_iff_ne.mpr c1175
          clear c1175
          replace HS : Aside0 (Sep (fps []) w [] w1173) := ⟨HS.out.sub (.cons _ (.cons _ (.cons _ .slnil)))⟩
          go_wp2_with fail
          go_ret
          rw [← some_eq H]
          exact ⟨(by first | rfl | (simp [IntKind.wrap_u32]; done)), (HS.out).keep (l := []) (rest := [])⟩
  · have H := sum_r H
    have H := sum_r H
    refine (ground_New.calls _ 3 16 1 1 (.inr (.inr t770)) _ ⟨HS.out.begin (l := []) (rest := [])⟩ HA767).mono ?_
    rintro e_ w2668 ⟨rfl, hS⟩
    replace HS : Aside0 (Sep (fps []) w [] w2668) := ⟨HS.out.call (l := []) (rest := []) hS⟩
    clear hS
    by_cases c2669 : t770 = 0
    · have H := if_yes c2669 H
      have c2669b0 : (t770 == 0) = true := beq_iff_eq.mpr c2669
      have c2669b1 : (t770 != 0) = false := bne_eq_false_iff_eq.mpr c2669
      clear c2669
      go_wp2_with fail
      obtain ⟨t960, HA2670, H⟩ := bind_some H
      refine (chain_Take_nil.calls a1 t960 _ ⟨HS.out.begin (l := []) (rest := [])⟩ HA2670).mono ?_
      rintro e_ w2671 ⟨rfl, hS⟩
      replace HS : Aside0 (Sep (fps []) w [] w2671) := ⟨HS.out.call (l := []) (rest := []) hS⟩
      clear hS
      go_wp2_with fail
      obtain ⟨t983, HA2672, H⟩ := bind_some H
      refine (chain_First_nil.calls a1 t983 _ ⟨HS.out.begin (l := []) (rest := [])⟩ HA2672).mono ?_
      rintro e_ w2673 ⟨rfl, hS⟩
      replace HS : Aside0 (Sep (fps []) w [] w2673) := ⟨HS.out.call (l := []) (rest := []) hS⟩
      clear hS
      go_wp2_with fail
      obtain ⟨t1072, HA2674, H⟩ := bind_some H
      refine (chain_Push_nil.calls a1 a2 t1072 _ ⟨HS.out.begin (l := []) (rest := [])⟩ HA2674).mono ?_
      rintro e_ w2675 ⟨rfl, hS⟩
      replace HS : Aside0 (Sep (fps []) w [] w2675) := ⟨HS.out.call (l := []) (rest := []) hS⟩
      clear hS
      by_cases c2676 : t1072 = true
      · have H := if_yes c2676 H
        have c2676b0 : t1072 = true := c2676
        have c2676b1 : (!t1072) = false := by rw [c2676b0]; rfl
        clear c2676
        go_wp2_with fail
        go_ret
        rw [← some_eq H]
        exact ⟨(by first | rfl | (simp [IntKind.wrap_u32]; done)), (HS.out).keep (l := []) (rest := [])⟩
      · have H := if_no c2676 H
        have c2676b0 : t1072 = false := by simpa using c2676
        have c2676b1 : (!t1072) = true := by rw [c2676b0]; rfl
        clear c2676
        go_wp2_with fail
        obtain ⟨t1171, HA2677, H⟩ := bind_some H
        refine (chain_Add_nil.calls a1 a2 t1171 _ ⟨HS.out.begin (l := []) (rest := [])⟩ HA2677).mono ?_
        rintro e_ w2678 ⟨rfl, hS⟩
        replace HS : Aside0 (Sep (fps []) w [] w2678) := ⟨HS.out.call (l := []) (rest := []) hS⟩
        clear hS
        by_cases c2679 : t1171 = true
        · have H := if_yes c2679 H
          have c2679b0 : t1171 = true := c2679
          have c2679b1 : (!t1171) = false := by rw [c2679b0]; rfl
          clear c2679
          go_wp2_with fail
          go_ret
          rw [← some_eq H]
          exact ⟨(by first | rfl | (simp [IntKind.wrap_u32]; done)), (HS.out).keep (l := []) (rest := [])⟩
        · have H := if_no c2679 H
          have c2679b0 : t1171 = false := by simpa using c2679
          have c2679b1 : (!t1171) = true := by rw [c2679b0]; rfl
          clear c2679
          by_cases c2680 : t960.1 = 0
          · have H := if_yes c2680 H
            have c2680b0 : (t960.1 == 0) = true := beq_iff_eq.mpr c2680
            have c2680b1 : (t960.1 != 0) = false := bne_eq_false_iff_eq.mpr c2680
            clear c2680
            by_cases c2681 : t960.2 = true
            · have H := if_yes c2681 H
              have c2681b0 : t960.2 = true := c2681
              have c2681b1 : (!t960.2) = false := by rw [c2681b0]; rfl
              clear c2681
              go_wp2_with fail
              go_ret
              rw [← some_eq H]
              exact ⟨(by first | rfl | (simp [IntKind.wrap_u32]; done)), (HS.out).keep (l := []) (rest := [])⟩
            · have H := if_no c2681 H
              have c2681b0 : t960.2 = false := by simpa using c2681
              have c2681b1 : (!t960.2) = true := by rw [c2681b0]; rfl
              clear c2681
              by_cases c2682 : t983.1 = 0
              · have H := if_yes c2682 H
                have c2682b0 : (t983.1 == 0) = true := beq_iff_eq.mpr c2682
                have c2682b1 : (t983.1 != 0) = false := bne_eq_false_iff_eq.mpr c2682
                clear c2682
                by_cases c2683 : t983.2 = true
                · have H := if_yes c2683 H
                  have c2683b0 : t983.2 = true := c2683
                  have c2683b1 : (!t983.2) = false := by rw [c2683b0]; rfl
                  clear c2683
                  go_wp2_with fail
                  go_ret
                  rw [← some_eq H]
                  exact ⟨(by first | rfl | (simp [IntKind.wrap_u32]; done)), (HS.out).keep (l := []) (rest := [])⟩
                · have H := if_no c2683 H
                  have c2683b0 : t983.2 = false := by simpa using c2683
                  have c2683b1 : (!t983.2) = true := by rw [c2683b0]; rfl
                  clear c2683
                  go_wp2_with fail
                  obtain ⟨t1198, HA2684, H⟩ := bind_some H
                  refine (chain_Len_nil.calls a1 t1198 _ ⟨HS.out.begin (l := []) (rest := [])⟩ HA2684).mono ?_
                  rintro e_ w2685 ⟨rfl, hS⟩
                  replace HS : Aside0 (Sep (fps []) w [] w2685) := ⟨HS.out.call (l := []) (rest := []) hS⟩
                  clear hS
                  by_cases c2686 : t1198 = 0
                  · have H := if_yes c2686 H
                    have c2686b0 : (t1198 == 0) = true := beq_iff_eq.mpr c2686
                    have c2686b1 : (t1198 != 0) = false := bne_eq_false_iff_eq.mpr c2686
                    clear c2686
                    go_wp2_with fail
                    obtain ⟨t1290, HA2687, H⟩ := bind_some H
                    refine (chain_List_nil.calls _ a1 t1290 _ ⟨HS.out.begin (l := []) (rest := [])⟩ HA2687).mono ?_
                    rintro e_ w2688 ⟨A2690, m2691, n2692, rfl, hS⟩
                    replace HS : Aside0 (Sep (fps []) w [r11 A2690 m2691 n2692 t1290] w2688) := ⟨HS.out.call (l := []) (rest := []) hS⟩
                    clear hS
                    obtain rfl := (row_len (HS.out.at0)).symm
                    by_cases c2694 : (t1290.length : Int) = 0
                    · have H := if_yes c2694 H
                      have c2694b0 : ((t1290.length : Int) == 0) = true := beq_iff_eq.mpr c2694
                      have c2694b1 : ((t1290.length : Int) != 0) = false := bne_eq_false_iff_eq.mpr c2694
                      clear c2694
                      by_cases c2695 : a1 = 0
                      · have H := if_yes c2695 H
                        have c2695b0 : (a1 == 0) = true := beq_iff_eq.mpr c2695
                        have c2695b1 : (a1 != 0) = false := bne_eq_false_iff_eq.mpr c2695
                        clear c2695
                        replace HS : Aside0 (Sep (fps []) w [] w2688) := ⟨HS.out.sub (.cons _ .slnil)⟩
                        go_wp2_with fail
                        obtain ⟨t2364, HA2696, H⟩ := bind_some H
                        refine (quitrentlaw08_begun.calls _ t2364 _ ⟨HS.out.begin (l := []) (rest := [])⟩ HA2696).mono ?_
                        rintro e_ w2697 ⟨rfl, hS⟩
                        replace HS : Aside0 (Sep (fps []) w [] w2697) := ⟨HS.out.call (l := []) (rest := []) hS⟩
                        clear hS
                        go_wp2_with fail
                        go_ret
                        rw [← some_eq H]
                        exact ⟨(by first | rfl | (simp [IntKind.wrap_u32]; done)), (HS.out).keep (l := []) (rest := [])⟩
                      · have H := if_no c2695 H
                        have c2695b0 : (a1 == 0) = false := beq_eq_false_iff_ne.mpr c2695
                        have c2695b1 : (a1 != 0) = true := bne_iff_ne.mpr c2695
                        clear c2695
                        by_cases c2698 : a1 = 1
                        · have H := if_yes c2698 H
                          have c2698b0 : (a1 == 1) = true := beq_iff_eq.mpr c2698
                          have c2698b1 : (a1 != 1) = false := bne_eq_false_iff_eq.mpr c2698
                          clear c2698
                          replace HS : Aside0 (Sep (fps []) w [] w2688) := ⟨HS.out.sub (.cons _ .slnil)⟩
                          go_wp2_with fail
                          obtain ⟨t2364, HA2699, H⟩ := bind_some H
                          refine (quitrentlaw08_begun.calls _ t2364 _ ⟨HS.out.begin (l := []) (rest := [])⟩ HA2699).mono ?_
                          rintro e_ w2700 ⟨rfl, hS⟩
                          replace HS : Aside0 (Sep (fps []) w [] w2700) := ⟨HS.out.call (l := []) (rest := []) hS⟩
                          clear hS
                          go_wp2_with fail
                          go_ret
                          rw [← some_eq H]
                          exact ⟨(by first | rfl | (simp [IntKind.wrap_u32]; done)), (HS.out).keep (l := []) (rest := [])⟩
                        · have H := if_no c2698 H
                          have c2698b0 : (a1 == 1) = false := beq_eq_false_iff_ne.mpr c2698
                          have c2698b1 : (a1 != 1) = true := bne_iff_ne.mpr c2698
                          clear c2698
                          replace HS : Aside0 (Sep (fps []) w [] w2688) := ⟨HS.out.sub (.cons _ .slnil)⟩
                          go_wp2_with fail
                          obtain ⟨t2530, HA2701, H⟩ := bind_some H
                          refine (chain_Take_nil.calls a1 t2530 _ ⟨HS.out.begin (l := []) (rest := [])⟩ HA2701).mono ?_
                          rintro e_ w2702 ⟨rfl, hS⟩
                          replace HS : Aside0 (Sep (fps []) w [] w2702) := ⟨HS.out.call (l := []) (rest := []) hS⟩
                          clear hS
                          go_wp2_with fail
                          obtain ⟨t2587, HA2703, H⟩ := bind_some H
                          refine (chain_First_nil.calls a1 t2587 _ ⟨HS.out.begin (l := []) (rest := [])⟩ HA2703).mono ?_
                          rintro e_ w2704 ⟨rfl, hS⟩
                          replace HS : Aside0 (Sep (fps []) w [] w2704) := ⟨HS.out.call (l := []) (rest := []) hS⟩
                          clear hS
                          go_wp2_with fail
                          obtain ⟨t2590, HA2705, H⟩ := bind_some H
                          refine (chain_Push_nil.calls a1 a2 t2590 _ ⟨HS.out.begin (l := []) (rest := [])⟩ HA2705).mono ?_
                          rintro e_ w2706 ⟨rfl, hS⟩
                          replace HS : Aside0 (Sep (fps []) w [] w2706) := ⟨HS.out.call (l := []) (rest := []) hS⟩
                          clear hS
                          by_cases c2707 : t2590 = true
                          · have H := if_yes c2707 H
                            have c2707b0 : t2590 = true := c2707
                            have c2707b1 : (!t2590) = false := by rw [c2707b0]; rfl
                            try rw [c2707b1]
                            clear c2707
                            go_wp2_with fail
                            go_ret
                            rw [← some_eq H]
                            exact ⟨(by first | rfl | (simp [IntKind.wrap_u32]; done)), (HS.out).keep (l := []) (rest := [])⟩
                          · have H := if_no c2707 H
                            have c2707b0 : t2590 = false := by simpa using c2707
                            have c2707b1 : (!t2590) = true := by rw [c2707b0]; rfl
                            try rw [c2707b1]
                            clear c2707
                            go_wp2_with fail
                            obtain ⟨t2594, HA2708, H⟩ := bind_some H
                            refine (chain_Add_nil.calls a1 a2 t2594 _ ⟨HS.out.begin (l := []) (rest := [])⟩ HA2708).mono ?_
                            rintro e_ w2709 ⟨rfl, hS⟩
                            replace HS : Aside0 (Sep (fps []) w [] w2709) := ⟨HS.out.call (l := []) (rest := []) hS⟩
                            clear hS
                            by_cases c2710 : t2594 = true
                            · have H := if_yes c2710 H
                              have c2710b0 : t2594 = true := c2710
                              have c2710b1 : (!t2594) = false := by rw [c2710b0]; rfl
                              try rw [c2710b1]
                              clear c2710
                              go_wp2_with fail
                              go_ret
                              rw [← some_eq H]
                              exact ⟨(by first | rfl | (simp [IntKind.wrap_u32]; done)), (HS.out).keep (l := []) (rest := [])⟩
                            · have H := if_no c2710 H
                              have c2710b0 : t2594 = false := by simpa using c2710
                              have c2710b1 : (!t2594) = true := by rw [c2710b0]; rfl
                              try rw [c2710b1]
                              clear c2710
                              by_cases c2711 : t2530.2 = true
                              · have H := if_yes c2711 H
                                have c2711b0 : t2530.2 = true := c2711
                                have c2711b1 : (!t2530.2) = false := by rw [c2711b0]; rfl
                                try rw [c2711b1]
                                clear c2711
                                go_wp2_with fail
                                go_ret
                                rw [← some_eq H]
                                exact ⟨(by first | rfl | (simp [IntKind.wrap_u32]; done)), (HS.out).keep (l := []) (rest := [])⟩
                              · have H := if_no c2711 H
                                have c2711b0 : t2530.2 = false := by simpa using c2711
                                have c2711b1 : (!t2530.2) = true := by rw [c2711b0]; rfl
                                try rw [c2711b1]
                                clear c2711
                                by_cases c2712 : t2587.2 = true
                                · have H := if_yes c2712 H
                                  have c2712b0 : t2587.2 = true := c2712
                                  have c2712b1 : (!t2587.2) = false := by rw [c2712b0]; rfl
                                  try rw [c2712b1]
                                  clear c2712
                                  go_wp2_with fail
                                  go_ret
                                  rw [← some_eq H]
                                  exact ⟨(by first | rfl | (simp [IntKind.wrap_u32]; done)), (HS.out).keep (l := []) (rest := [])⟩
                                · have H := if_no c2712 H
                                  have c2712b0 : t2587.2 = false := by simpa using c2712
                                  have c2712b1 : (!t2587.2) = true := by rw [c2712b0]; rfl
                                  try rw [c2712b1]
                                  clear c2712
                                  go_wp2_with fail
                                  obtain ⟨t2652, HA2713, H⟩ := bind_some H
                                  refine (chain_Len_nil.calls a1 t2652 _ ⟨HS.out.begin (l := []) (rest := [])⟩ HA2713).mono ?_
                                  rintro e_ w2714 ⟨rfl, hS⟩
                                  replace HS : Aside0 (Sep (fps []) w [] w2714) := ⟨HS.out.call (l := []) (rest := []) hS⟩
                                  clear hS
                                  by_cases c2715 : t2652 = 0
                                  · have H := if_yes c2715 H
                                    have c2715b0 : (t2652 == 0) = true := beq_iff_eq.mpr c2715
                                    have c2715b1 : (t2652 != 0) = false := bne_eq_false_iff_eq.mpr c2715
                                    clear c2715
                                    go_wp2_with fail
                                    obtain ⟨t2656, HA2716, H⟩ := bind_some H
                                    refine (chain_List_nil.calls _ a1 t2656 _ ⟨HS.out.begin (l := []) (rest := [])⟩ HA2716).mono ?_
                                    rintro e_ w2717 ⟨A2719, m2720, n2721, rfl, hS⟩
                                    replace HS : Aside0 (Sep (fps []) w [r11 A2719 m2720 n2721 t2656] w2717) := ⟨HS.out.call (l := []) (rest := []) hS⟩
                                    clear hS
                                    obtain rfl := (row_len (HS.out.at0)).symm
                                    by_cases c2723 : (t2656.length : Int) = 0
                                    · have H := if_yes c2723 H
                                      have c2723b0 : ((t2656.length : Int) == 0) = true := beq_iff_eq.mpr c2723
                                      have c2723b1 : ((t2656.length : Int) != 0) = false := bne_eq_false_iff_eq.mpr c2723
                                      clear c2723
                                      go_wp2_with fail
                                      obtain ⟨t2665, HA2724, H⟩ := bind_some H
                                      refine (quitrentlaw08_begun.calls _ t2665 _ ⟨HS.out.begin (l := []) (rest := [r11 A2719 t2656.length n2721 t2656])⟩ HA2724).mono ?_
                                      rintro e_ w2725 ⟨rfl, hS⟩
                                      replace HS : Aside0 (Sep (fps []) w [r11 A2719 t2656.length n2721 t2656] w2725) := ⟨HS.out.call (l := []) (rest := [r11 A2719 t2656.length n2721 t2656]) hS⟩
                                      clear hS
                                      replace HS : Aside0 (Sep (fps []) w [] w2725) := ⟨HS.out.sub (.cons _ .slnil)⟩
                                      go_wp2_with fail
                                      go_ret
                                      rw [← some_eq H]
                                      exact ⟨(by first | rfl | (simp [IntKind.wrap_u32]; done)), (HS.out).keep (l := []) (rest := [])⟩
                                    · have H := if_no c2723 H
                                      have c2723b0 : ((t2656.length : Int) == 0) = false := beq_eq_false_iff_ne.mpr c2723
                                      have c2723b1 : ((t2656.length : Int) != 0) = true := bne_iff_ne.mpr c2723
                                      clear c2723
                                      replace HS : Aside0 (Sep (fps []) w [] w2717) := ⟨HS.out.sub (.cons _ .slnil)⟩
                                      go_wp2_with fail
                                      go_ret
                                      rw [← some_eq H]
                                      exact ⟨(by first | rfl | (simp [IntKind.wrap_u32]; done)), (HS.out).keep (l := []) (rest := [])⟩
                                  · have H := if_no c2715 H
                                    have c2715b0 : (t2652 == 0) = false := beq_eq_false_iff_ne.mpr c2715
                                    have c2715b1 : (t2652 != 0) = true := bne_iff_ne.mpr c2715
                                    clear c2715
                                    go_wp2_with fail
                                    go_ret
                                    rw [← some_eq H]
                                    exact ⟨(by first | rfl | (simp [IntKind.wrap_u32]; done)), (HS.out).keep (l := []) (rest := [])⟩
                    · have H := if_no c2694 H
                      have c2694b0 : ((t1290.length : Int) == 0) = false := beq_eq_false_iff_ne.mpr c2694
                      have c2694b1 : ((t1290.length : Int) != 0) = true := bne_iff_ne.mpr c2694
                      clear c2694
                      replace HS : Aside0 (Sep (fps []) w [] w2688) := ⟨HS.out.sub (.cons _ .slnil)⟩
                      go_wp2_with fail
                      go_ret
                      rw [← some_eq H]
                      exact ⟨(by first | rfl | (simp [IntKind.wrap_u32]; done)), (HS.out).keep (l := []) (rest := [])⟩
                  · have H := if_no c2686 H
                    have c2686b0 : (t1198 == 0) = false := beq_eq_false_iff_ne.mpr c2686
                    have c2686b1 : (t1198 != 0) = true := bne_iff_ne.mpr c2686
                    clear c2686
                    go_wp2_with fail
                    go_ret
                    rw [← some_eq H]
                    exact ⟨(by first | rfl | (simp [IntKind.wrap_u32]; done)), (HS.out).keep (l := []) (rest := [])⟩
              · have H := if_no c2682 H
                have c2682b0 : (t983.1 == 0) = false := beq_eq_false_iff_ne.mpr c2682
                have c2682b1 : (t983.1 != 0) = true := bne_iff_ne.mpr c2682
                clear c2682
                go_wp2_with fail
                go_ret
                rw [← some_eq H]
                exact ⟨(by first | rfl | (simp [IntKind.wrap_u32]; done)), (HS.out).keep (l := []) (rest := [])⟩
          · have H := if_no c2680 H
            have c2680b0 : (t960.1 == 0) = false := beq_eq_false_iff_ne.mpr c2680
            have c2680b1 : (t960.1 != 0) = true := bne_iff_ne.mpr c2680
            clear c2680
            go_wp2_with fail
            go_ret
            rw [← some_eq H]
            exact ⟨(by first | rfl | (simp [IntKind.wrap_u32]; done)), (HS.out).keep (l := []) (rest := [])⟩
    · have H := if_no c2669 H
      have c2669b0 : (t770 == 0) = false := beq_eq_false_iff_ne.mpr c2669
      have c2669b1 : (t770 != 0) = true := bne_iff_ne.mpr c2669
      clear c2669
      go_wp2_with fail
      go_ret
      rw [← some_eq H]
      exact ⟨(by first | rfl | (simp [IntKind.wrap_u32]; done)), (HS.out).keep (l := []) (rest := [])⟩

set_option maxHeartbeats 30000000 in
set_option maxRecDepth 100000 in
theorem quitrentlaw08_ChainOrder.calls (k : Nat) (a2726 : Int) (a2727 : Int) (a2728 : Bool) (r : Bool) (w : World)   (HS : Aside0 (Sep (fps []) w [] w)) (H : Aside0 (quitrentlaw08_ChainOrder.f k a2726 a2727 a2728 = some r)) :
    Calls Try.prog 11 #[.int .u8 a2726, .int .u8 a2727, .bool a2728] w fun e w' => e = .returned (.bool r) ∧ Sep (fps []) w [] w' := by
  unfold quitrentlaw08_ChainOrder.f at H
  go_enter Try.func11, Try.ntmps11
  by_cases c2729 : a2726 < 1
  · have H := if_yes c2729 H
    have c2729b0 : decide (a2726 < 1) = true := decide_eq_true c2729
    clear c2729
    go_wp2_with fail
    obtain ⟨t2730, HA2731, H⟩ := bind_some H
    refine (quitrentlaw08_begun.calls _ t2730 _ ⟨HS.out.begin (l := []) (rest := [])⟩ HA2731).mono ?_
    rintro e_ w2732 ⟨rfl, hS⟩
    replace HS : Aside0 (Sep (fps []) w [] w2732) := ⟨HS.out.call (l := []) (rest := []) hS⟩
    clear hS
    go_wp2_with fail
    go_ret
    rw [← some_eq H]
    exact ⟨(by first | rfl | (simp [IntKind.wrap_u32]; done)), (HS.out).keep (l := []) (rest := [])⟩
  · have H := if_no c2729 H
    have c2729b0 : decide (a2726 < 1) = false := decide_eq_false c2729
    clear c2729
    by_cases c2733 : a2726 > 100
    · have H := if_yes c2733 H
      have c2733b0 : decide (100 < a2726) = true := decide_eq_true c2733
      clear c2733
      go_wp2_with fail
      obtain ⟨t2730, HA2734, H⟩ := bind_some H
      refine (quitrentlaw08_begun.calls _ t2730 _ ⟨HS.out.begin (l := []) (rest := [])⟩ HA2734).mono ?_
      rintro e_ w2735 ⟨rfl, hS⟩
      replace HS : Aside0 (Sep (fps []) w [] w2735) := ⟨HS.out.call (l := []) (rest := []) hS⟩
      clear hS
      go_wp2_with fail
      go_ret
      rw [← some_eq H]
      exact ⟨(by first | rfl | (simp [IntKind.wrap_u32]; done)), (HS.out).keep (l := []) (rest := [])⟩
    · have H := if_no c2733 H
      have c2733b0 : decide (100 < a2726) = false := decide_eq_false c2733
      clear c2733
      go_wp2_with fail
      obtain ⟨t2736, HA2737, H⟩ := bind_some H
      rcases t2736 with t2738 | (t2739 | t2740)
      · have H := sum_l H
        refine (ground_New.calls _ (wrap64 (a2726)) 16 1 1 (.inl t2738) _ ⟨HS.out.begin (l := []) (rest := [])⟩ HA2737).mono ?_
        rintro e_ w2741 ⟨rfl, hS⟩
        replace HS : Aside0 (Sep (fps []) w [] w2741) := ⟨HS.out.call (l := []) (rest := []) hS⟩
        clear hS
        go_wp2_with fail
        go_ret
        rw [← some_eq H]
        exact ⟨(by first | rfl | (simp [IntKind.wrap_u32]; done)), (HS.out).keep (l := []) (rest := [])⟩
      · have H := sum_r H
        have H := sum_l H
        refine (ground_New.calls _ (wrap64 (a2726)) 16 1 1 (.inr (.inl t2739)) _ ⟨HS.out.begin (l := []) (rest := [])⟩ HA2737).mono ?_
        rintro e_ w2742 ⟨g2746, g2747, A2748, m2749, n2750, rfl, hS⟩
        replace HS : Aside0 (Sep (fps []) w [b7 g2746 g2747 t2739.1 t2739.2.1 t2739.2.2.1 t2739.2.2.2.1, b6 g2747 A2748 m2749 n2750 0, r5 A2748 m2749 n2750 t2739.2.2.2.2] w2742) := ⟨HS.out.call (l := []) (rest := []) hS⟩
        clear hS
        obtain rfl := (row_len (HS.out.at2)).symm
        by_cases c2752 : a2728 = true
        · have H := if_yes c2752 H
          have c2752b0 : a2728 = true := c2752
          have c2752b1 : (!a2728) = false := by rw [c2752b0]; rfl
          clear c2752
          by_cases c2753 : (wrap64 (a2726)) = 0
          · have H := if_yes c2753 H
            have c2753b0 : ((wrap64 (a2726)) == 0) = true := beq_iff_eq.mpr c2753
            have c2753b1 : ((wrap64 (a2726)) != 0) = false := bne_eq_false_iff_eq.mpr c2753
            exact (none_no H).elim
          · have H := if_no c2753 H
            have c2753b0 : ((wrap64 (a2726)) == 0) = false := beq_eq_false_iff_ne.mpr c2753
            have c2753b1 : ((wrap64 (a2726)) != 0) = true := bne_iff_ne.mpr c2753
            skip
            go_wp2_with fail
            clear c2753
            obtain ⟨o2776, AL2777, H⟩ := bind_some H
            go_loopg [12] k (fun kq v12 wc => ∃ (x2780 : Int) (x2781 : List Int) (x2782 : Int), v12 = .int .i64 x2780 ∧ Aside0 (quitrentlaw08_ChainOrder.lo0 kq a2726 t2739 x2780 x2781 x2782 = some o2776) ∧ Aside0 (Sep (fps []) w [b7 g2746 g2747 t2739.1 t2739.2.1 t2739.2.2.1 t2739.2.2.2.1, b6 g2747 A2748 ((t2739.2.2.2.2).length) n2750 x2782, r5 A2748 ((t2739.2.2.2.2).length) n2750 x2781] wc))
            case atStart => exact ⟨(Int.tmod (wrap64 (a2727)) (wrap64 (a2726))), (t2739.2.2.2.2), (0), (by first | rfl | (simp [IntKind.wrap_u32]; done)), AL2777, ⟨HS.out⟩⟩
            case round =>
              clear AL2777 HS
              obtain ⟨x2780, x2781, x2782, rfl, AL2777, HS⟩ := hrel
              obtain ⟨w2778, rfl⟩ : ∃ x : World, x = wr := ⟨_, rfl⟩
              cases gk with
              | zero => exact absurd AL2777.out (by simp [quitrentlaw08_ChainOrder.lo0])
              | succ k2779 =>
                have AL0 := AL2777.out
                rw [quitrentlaw08_ChainOrder.lo0] at AL0
                clear AL2777
                have AL2777 := Aside0.mk AL0
                clear AL0
                by_cases c2783 : x2780 < (wrap64 (a2726))
                · have AL2777 := if_yes c2783 AL2777
                  have c2783b0 : decide (x2780 < (wrap64 (a2726))) = true := decide_eq_true c2783
                  clear c2783
                  go_wp2_with fail
                  obtain ⟨t2761, HA2784, AL2777⟩ := bind_some AL2777
                  refine (chain_Add.calls x2781 x2782 t2739.1 t2739.2.1 t2739.2.2.1 t2739.2.2.2.1 1 x2780 g2746 g2747 A2748 ((t2739.2.2.2.2).length) n2750 t2761 _ ⟨HS.out.begin (l := [b7 g2746 g2747 t2739.1 t2739.2.1 t2739.2.2.1 t2739.2.2.2.1, b6 g2747 A2748 ((t2739.2.2.2.2).length) n2750 x2782, r5 A2748 ((t2739.2.2.2.2).length) n2750 x2781]) (rest := [])⟩ HA2784).mono ?_
                  rintro e_ w2785 ⟨rfl, hS⟩
                  replace HS : Aside0 (Sep (fps []) w [b7 g2746 g2747 t2739.1 t2739.2.1 t2739.2.2.1 t2739.2.2.2.1, b6 g2747 A2748 ((t2739.2.2.2.2).length) n2750 t2761.2.1, r5 A2748 ((t2739.2.2.2.2).length) n2750 t2761.2.2] w2785) := ⟨HS.out.call (l := [b7 g2746 g2747 t2739.1 t2739.2.1 t2739.2.2.1 t2739.2.2.2.1, b6 g2747 A2748 ((t2739.2.2.2.2).length) n2750 x2782, r5 A2748 ((t2739.2.2.2.2).length) n2750 x2781]) (rest := []) hS⟩
                  clear hS
                  by_cases c2786 : t2761.1 = true
                  · have AL2777 := if_yes c2786 AL2777
                    have c2786b0 : t2761.1 = true := c2786
                    have c2786b1 : (!t2761.1) = false := by rw [c2786b0]; rfl
                    try rw [c2786b1]
                    clear c2786
                    go_wp2_with fail
                    go_roundg k2779
                    case measure => exact Nat.lt_succ_self _
                    case rel => exact ⟨(wrap64 (x2780 + 1)), (t2761.2.2), (t2761.2.1), (by first | rfl | (simp [IntKind.wrap_u32]; done)), Aside0.mk AL2777.out, ⟨((((HS.out).front 2 (by simp)).front 2 (by simp)).front 2 (by simp)).keep (l := [b7 g2746 g2747 t2739.1 t2739.2.1 t2739.2.2.1 t2739.2.2.2.1, b6 g2747 A2748 ((t2739.2.2.2.2).length) n2750 t2761.2.1, r5 A2748 ((t2739.2.2.2.2).length) n2750 t2761.2.2]) (rest := [])⟩⟩
                  · have AL2777 := if_no c2786 AL2777
                    have c2786b0 : t2761.1 = false := by simpa using c2786
                    have c2786b1 : (!t2761.1) = true := by rw [c2786b0]; rfl
                    try rw [c2786b1]
                    clear c2786
                    go_wp2_with fail
                    have ho := some_eq AL2777
                    subst ho
                    have H := lp_ret H
                    go_ret
                    rw [← some_eq H]
                    exact ⟨(by first | rfl | (simp [IntKind.wrap_u32]; done)), (HS.out).keep (l := []) (rest := [b7 g2746 g2747 t2739.1 t2739.2.1 t2739.2.2.1 t2739.2.2.2.1, b6 g2747 A2748 ((t2739.2.2.2.2).length) n2750 t2761.2.1, r5 A2748 ((t2739.2.2.2.2).length) n2750 t2761.2.2])⟩
                · have AL2777 := if_no c2783 AL2777
                  have c2783b0 : decide (x2780 < (wrap64 (a2726))) = false := decide_eq_false c2783
                  clear c2783
                  have ho := some_eq AL2777
                  subst ho
                  clear AL2777
                  have H := lp_out H
                  go_wp2_with fail
                  obtain ⟨o2809, AL2810, H⟩ := bind_some H
                  go_loopg [13] k (fun kq v13 wc => ∃ (x2813 : Int) (x2814 : List Int) (x2815 : Int), v13 = .int .i64 x2813 ∧ Aside0 (quitrentlaw08_ChainOrder.lo1 kq t2739 x2813 x2814 x2815 = some o2809) ∧ Aside0 (Sep (fps []) w [b7 g2746 g2747 t2739.1 t2739.2.1 t2739.2.2.1 t2739.2.2.2.1, b6 g2747 A2748 ((t2739.2.2.2.2).length) n2750 x2815, r5 A2748 ((t2739.2.2.2.2).length) n2750 x2814] wc))
                  case atStart => exact ⟨(wrap64 ((Int.tmod (wrap64 (a2727)) (wrap64 (a2726))) - 1)), (x2781), (x2782), (by first | rfl | (simp [IntKind.wrap_u32]; done)), AL2810, ⟨HS.out⟩⟩
                  case round =>
                    clear AL2810 HS
                    obtain ⟨x2813, x2814, x2815, rfl, AL2810, HS⟩ := hrel
                    obtain ⟨w2811, rfl⟩ : ∃ x : World, x = wr := ⟨_, rfl⟩
                    cases gk with
                    | zero => exact absurd AL2810.out (by simp [quitrentlaw08_ChainOrder.lo1])
                    | succ k2812 =>
                      have AL0 := AL2810.out
                      rw [quitrentlaw08_ChainOrder.lo1] at AL0
                      clear AL2810
                      have AL2810 := Aside0.mk AL0
                      clear AL0
                      by_cases c2816 : x2813 ≥ 0
                      · have AL2810 := if_yes c2816 AL2810
                        have c2816b0 : decide (0 ≤ x2813) = true := decide_eq_true c2816
                        clear c2816
                        go_wp2_with fail
                        obtain ⟨t2794, HA2817, AL2810⟩ := bind_some AL2810
                        refine (chain_Push.calls x2814 x2815 t2739.1 t2739.2.1 t2739.2.2.1 t2739.2.2.2.1 1 x2813 g2746 g2747 A2748 ((t2739.2.2.2.2).length) n2750 t2794 _ ⟨HS.out.begin (l := [b7 g2746 g2747 t2739.1 t2739.2.1 t2739.2.2.1 t2739.2.2.2.1, b6 g2747 A2748 ((t2739.2.2.2.2).length) n2750 x2815, r5 A2748 ((t2739.2.2.2.2).length) n2750 x2814]) (rest := [])⟩ HA2817).mono ?_
                        rintro e_ w2818 ⟨rfl, hS⟩
                        replace HS : Aside0 (Sep (fps []) w [b7 g2746 g2747 t2739.1 t2739.2.1 t2739.2.2.1 t2739.2.2.2.1, b6 g2747 A2748 ((t2739.2.2.2.2).length) n2750 t2794.2.1, r5 A2748 ((t2739.2.2.2.2).length) n2750 t2794.2.2] w2818) := ⟨HS.out.call (l := [b7 g2746 g2747 t2739.1 t2739.2.1 t2739.2.2.1 t2739.2.2.2.1, b6 g2747 A2748 ((t2739.2.2.2.2).length) n2750 x2815, r5 A2748 ((t2739.2.2.2.2).length) n2750 x2814]) (rest := []) hS⟩
                        clear hS
                        by_cases c2819 : t2794.1 = true
                        · have AL2810 := if_yes c2819 AL2810
                          have c2819b0 : t2794.1 = true := c2819
                          have c2819b1 : (!t2794.1) = false := by rw [c2819b0]; rfl
                          try rw [c2819b1]
                          clear c2819
                          go_wp2_with fail
                          go_roundg k2812
                          case measure => exact Nat.lt_succ_self _
                          case rel => exact ⟨(wrap64 (x2813 - 1)), (t2794.2.2), (t2794.2.1), (by first | rfl | (simp [IntKind.wrap_u32]; done)), Aside0.mk AL2810.out, ⟨((((HS.out).front 2 (by simp)).front 2 (by simp)).front 2 (by simp)).keep (l := [b7 g2746 g2747 t2739.1 t2739.2.1 t2739.2.2.1 t2739.2.2.2.1, b6 g2747 A2748 ((t2739.2.2.2.2).length) n2750 t2794.2.1, r5 A2748 ((t2739.2.2.2.2).length) n2750 t2794.2.2]) (rest := [])⟩⟩
                        · have AL2810 := if_no c2819 AL2810
                          have c2819b0 : t2794.1 = false := by simpa using c2819
                          have c2819b1 : (!t2794.1) = true := by rw [c2819b0]; rfl
                          try rw [c2819b1]
                          clear c2819
                          go_wp2_with fail
                          have ho := some_eq AL2810
                          subst ho
                          have H := lp_ret H
                          go_ret
                          rw [← some_eq H]
                          exact ⟨(by first | rfl | (simp [IntKind.wrap_u32]; done)), (HS.out).keep (l := []) (rest := [b7 g2746 g2747 t2739.1 t2739.2.1 t2739.2.2.1 t2739.2.2.2.1, b6 g2747 A2748 ((t2739.2.2.2.2).length) n2750 t2794.2.1, r5 A2748 ((t2739.2.2.2.2).length) n2750 t2794.2.2])⟩
                      · have AL2810 := if_no c2816 AL2810
                        have c2816b0 : decide (0 ≤ x2813) = false := decide_eq_false c2816
                        clear c2816
                        have ho := some_eq AL2810
                        subst ho
                        clear AL2810
                        have H := lp_out H
                        go_wp2_with fail
                        obtain ⟨o2863, AL2864, H⟩ := bind_some H
                        go_loopg [14] k (fun kq v14 wc => ∃ (x2867 : Int) (x2868 : List Int) (x2869 : Int), v14 = .int .i64 x2867 ∧ Aside0 (quitrentlaw08_ChainOrder.lo2 kq a2726 t2739 x2867 x2868 x2869 = some o2863) ∧ Aside0 (Sep (fps []) w [b7 g2746 g2747 t2739.1 t2739.2.1 t2739.2.2.1 t2739.2.2.2.1, b6 g2747 A2748 ((t2739.2.2.2.2).length) n2750 x2869, r5 A2748 ((t2739.2.2.2.2).length) n2750 x2868] wc))
                        case atStart => exact ⟨(0), (x2814), (x2815), (by first | rfl | (simp [IntKind.wrap_u32]; done)), AL2864, ⟨HS.out⟩⟩
                        case round =>
                          clear AL2864 HS
                          obtain ⟨x2867, x2868, x2869, rfl, AL2864, HS⟩ := hrel
                          obtain ⟨w2865, rfl⟩ : ∃ x : World, x = wr := ⟨_, rfl⟩
                          cases gk with
                          | zero => exact absurd AL2864.out (by simp [quitrentlaw08_ChainOrder.lo2])
                          | succ k2866 =>
                            have AL0 := AL2864.out
                            rw [quitrentlaw08_ChainOrder.lo2] at AL0
                            clear AL2864
                            have AL2864 := Aside0.mk AL0
                            clear AL0
                            by_cases c2870 : x2867 < (wrap64 (a2726))
                            · have AL2864 := if_yes c2870 AL2864
                              have c2870b0 : decide (x2867 < (wrap64 (a2726))) = true := decide_eq_true c2870
                              clear c2870
                              go_wp2_with fail
                              obtain ⟨t2827, HA2871, AL2864⟩ := bind_some AL2864
                              refine (chain_Take.calls x2868 x2869 t2739.1 t2739.2.1 t2739.2.2.1 t2739.2.2.2.1 1 g2746 g2747 A2748 ((t2739.2.2.2.2).length) n2750 t2827 _ ⟨HS.out.begin (l := [b7 g2746 g2747 t2739.1 t2739.2.1 t2739.2.2.1 t2739.2.2.2.1, b6 g2747 A2748 ((t2739.2.2.2.2).length) n2750 x2869, r5 A2748 ((t2739.2.2.2.2).length) n2750 x2868]) (rest := [])⟩ HA2871).mono ?_
                              rintro e_ w2872 ⟨rfl, hS⟩
                              replace HS : Aside0 (Sep (fps []) w [b7 g2746 g2747 t2739.1 t2739.2.1 t2739.2.2.1 t2739.2.2.2.1, b6 g2747 A2748 ((t2739.2.2.2.2).length) n2750 t2827.2.2.1, r5 A2748 ((t2739.2.2.2.2).length) n2750 t2827.2.2.2] w2872) := ⟨HS.out.call (l := [b7 g2746 g2747 t2739.1 t2739.2.1 t2739.2.2.1 t2739.2.2.2.1, b6 g2747 A2748 ((t2739.2.2.2.2).length) n2750 x2869, r5 A2748 ((t2739.2.2.2.2).length) n2750 x2868]) (rest := []) hS⟩
                              clear hS
                              by_cases c2873 : t2827.1 = x2867
                              · have AL2864 := if_yes c2873 AL2864
                                have c2873b0 : (t2827.1 == x2867) = true := beq_iff_eq.mpr c2873
                                have c2873b1 : (t2827.1 != x2867) = false := bne_eq_false_iff_eq.mpr c2873
                                clear c2873
                                by_cases c2874 : t2827.2.1 = true
                                · have AL2864 := if_yes c2874 AL2864
                                  have c2874b0 : t2827.2.1 = true := c2874
                                  have c2874b1 : (!t2827.2.1) = false := by rw [c2874b0]; rfl
                                  try rw [c2874b1]
                                  clear c2874
                                  go_wp2_with fail
                                  obtain ⟨t2832, HA2875, AL2864⟩ := bind_some AL2864
                                  refine (chain_Add.calls t2827.2.2.2 t2827.2.2.1 t2739.1 t2739.2.1 t2739.2.2.1 t2739.2.2.2.1 0 t2827.1 g2746 g2747 A2748 ((t2739.2.2.2.2).length) n2750 t2832 _ ⟨HS.out.begin (l := [b7 g2746 g2747 t2739.1 t2739.2.1 t2739.2.2.1 t2739.2.2.2.1, b6 g2747 A2748 ((t2739.2.2.2.2).length) n2750 t2827.2.2.1, r5 A2748 ((t2739.2.2.2.2).length) n2750 t2827.2.2.2]) (rest := [])⟩ HA2875).mono ?_
                                  rintro e_ w2876 ⟨rfl, hS⟩
                                  replace HS : Aside0 (Sep (fps []) w [b7 g2746 g2747 t2739.1 t2739.2.1 t2739.2.2.1 t2739.2.2.2.1, b6 g2747 A2748 ((t2739.2.2.2.2).length) n2750 t2832.2.1, r5 A2748 ((t2739.2.2.2.2).length) n2750 t2832.2.2] w2876) := ⟨HS.out.call (l := [b7 g2746 g2747 t2739.1 t2739.2.1 t2739.2.2.1 t2739.2.2.2.1, b6 g2747 A2748 ((t2739.2.2.2.2).length) n2750 t2827.2.2.1, r5 A2748 ((t2739.2.2.2.2).length) n2750 t2827.2.2.2]) (rest := []) hS⟩
                                  clear hS
                                  by_cases c2877 : t2832.1 = true
                                  · have AL2864 := if_yes c2877 AL2864
                                    have c2877b0 : t2832.1 = true := c2877
                                    have c2877b1 : (!t2832.1) = false := by rw [c2877b0]; rfl
                                    try rw [c2877b1]
                                    clear c2877
                                    go_wp2_with fail
                                    obtain ⟨t2836, HA2878, AL2864⟩ := bind_some AL2864
                                    refine (chain_Len.calls t2832.2.2 t2832.2.1 t2739.1 t2739.2.1 t2739.2.2.1 t2739.2.2.2.1 1 g2746 g2747 A2748 ((t2739.2.2.2.2).length) n2750 t2836 _ ⟨HS.out.begin (l := [b7 g2746 g2747 t2739.1 t2739.2.1 t2739.2.2.1 t2739.2.2.2.1, b6 g2747 A2748 ((t2739.2.2.2.2).length) n2750 t2832.2.1, r5 A2748 ((t2739.2.2.2.2).length) n2750 t2832.2.2]) (rest := [])⟩ HA2878).mono ?_
                                    rintro e_ w2879 ⟨rfl, hS⟩
                                    replace HS : Aside0 (Sep (fps []) w [b7 g2746 g2747 t2739.1 t2739.2.1 t2739.2.2.1 t2739.2.2.2.1, b6 g2747 A2748 ((t2739.2.2.2.2).length) n2750 t2836.2, r5 A2748 ((t2739.2.2.2.2).length) n2750 t2832.2.2] w2879) := ⟨HS.out.call (l := [b7 g2746 g2747 t2739.1 t2739.2.1 t2739.2.2.1 t2739.2.2.2.1, b6 g2747 A2748 ((t2739.2.2.2.2).length) n2750 t2832.2.1, r5 A2748 ((t2739.2.2.2.2).length) n2750 t2832.2.2]) (rest := []) hS⟩
                                    clear hS
                                    go_wp2_with fail
                                    obtain ⟨t2839, HA2880, AL2864⟩ := bind_some AL2864
                                    refine (chain_Len.calls t2832.2.2 t2836.2 t2739.1 t2739.2.1 t2739.2.2.1 t2739.2.2.2.1 0 g2746 g2747 A2748 ((t2739.2.2.2.2).length) n2750 t2839 _ ⟨HS.out.begin (l := [b7 g2746 g2747 t2739.1 t2739.2.1 t2739.2.2.1 t2739.2.2.2.1, b6 g2747 A2748 ((t2739.2.2.2.2).length) n2750 t2836.2, r5 A2748 ((t2739.2.2.2.2).length) n2750 t2832.2.2]) (rest := [])⟩ HA2880).mono ?_
                                    rintro e_ w2881 ⟨rfl, hS⟩
                                    replace HS : Aside0 (Sep (fps []) w [b7 g2746 g2747 t2739.1 t2739.2.1 t2739.2.2.1 t2739.2.2.2.1, b6 g2747 A2748 ((t2739.2.2.2.2).length) n2750 t2839.2, r5 A2748 ((t2739.2.2.2.2).length) n2750 t2832.2.2] w2881) := ⟨HS.out.call (l := [b7 g2746 g2747 t2739.1 t2739.2.1 t2739.2.2.1 t2739.2.2.2.1, b6 g2747 A2748 ((t2739.2.2.2.2).length) n2750 t2836.2, r5 A2748 ((t2739.2.2.2.2).length) n2750 t2832.2.2]) (rest := []) hS⟩
                                    clear hS
                                    by_cases c2882 : (wrap64 (t2836.1 + t2839.1)) = (wrap64 (a2726))
                                    · have AL2864 := if_yes c2882 AL2864
                                      have c2882b0 : ((wrap64 (t2836.1 + t2839.1)) == (wrap64 (a2726))) = true := beq_iff_eq.mpr c2882
                                      have c2882b1 : ((wrap64 (t2836.1 + t2839.1)) != (wrap64 (a2726))) = false := bne_eq_false_iff_eq.mpr c2882
                                      clear c2882
                                      go_wp2_with fail
                                      go_roundg k2866
                                      case measure => exact Nat.lt_succ_self _
                                      case rel => exact ⟨(wrap64 (x2867 + 1)), (t2832.2.2), (t2839.2), (by first | rfl | (simp [IntKind.wrap_u32]; done)), Aside0.mk AL2864.out, ⟨((((HS.out).front 2 (by simp)).front 2 (by simp)).front 2 (by simp)).keep (l := [b7 g2746 g2747 t2739.1 t2739.2.1 t2739.2.2.1 t2739.2.2.2.1, b6 g2747 A2748 ((t2739.2.2.2.2).length) n2750 t2839.2, r5 A2748 ((t2739.2.2.2.2).length) n2750 t2832.2.2]) (rest := [])⟩⟩
                                    · have AL2864 := if_no c2882 AL2864
                                      have c2882b0 : ((wrap64 (t2836.1 + t2839.1)) == (wrap64 (a2726))) = false := beq_eq_false_iff_ne.mpr c2882
                                      have c2882b1 : ((wrap64 (t2836.1 + t2839.1)) != (wrap64 (a2726))) = true := bne_iff_ne.mpr c2882
                                      clear c2882
                                      go_wp2_with fail
                                      have ho := some_eq AL2864
                                      subst ho
                                      have H := lp_ret H
                                      go_ret
                                      rw [← some_eq H]
                                      exact ⟨(by first | rfl | (simp [IntKind.wrap_u32]; done)), (HS.out).keep (l := []) (rest := [b7 g2746 g2747 t2739.1 t2739.2.1 t2739.2.2.1 t2739.2.2.2.1, b6 g2747 A2748 ((t2739.2.2.2.2).length) n2750 t2839.2, r5 A2748 ((t2739.2.2.2.2).length) n2750 t2832.2.2])⟩
                                  · have AL2864 := if_no c2877 AL2864
                                    have c2877b0 : t2832.1 = false := by simpa using c2877
                                    have c2877b1 : (!t2832.1) = true := by rw [c2877b0]; rfl
                                    try rw [c2877b1]
                                    clear c2877
                                    go_wp2_with fail
                                    have ho := some_eq AL2864
                                    subst ho
                                    have H := lp_ret H
                                    go_ret
                                    rw [← some_eq H]
                                    exact ⟨(by first | rfl | (simp [IntKind.wrap_u32]; done)), (HS.out).keep (l := []) (rest := [b7 g2746 g2747 t2739.1 t2739.2.1 t2739.2.2.1 t2739.2.2.2.1, b6 g2747 A2748 ((t2739.2.2.2.2).length) n2750 t2832.2.1, r5 A2748 ((t2739.2.2.2.2).length) n2750 t2832.2.2])⟩
                                · have AL2864 := if_no c2874 AL2864
                                  have c2874b0 : t2827.2.1 = false := by simpa using c2874
                                  have c2874b1 : (!t2827.2.1) = true := by rw [c2874b0]; rfl
                                  try rw [c2874b1]
                                  clear c2874
                                  go_wp2_with fail
                                  have ho := some_eq AL2864
                                  subst ho
                                  have H := lp_ret H
                                  go_ret
                                  rw [← some_eq H]
                                  exact ⟨(by first | rfl | (simp [IntKind.wrap_u32]; done)), (HS.out).keep (l := []) (rest := [b7 g2746 g2747 t2739.1 t2739.2.1 t2739.2.2.1 t2739.2.2.2.1, b6 g2747 A2748 ((t2739.2.2.2.2).length) n2750 t2827.2.2.1, r5 A2748 ((t2739.2.2.2.2).length) n2750 t2827.2.2.2])⟩
                              · have AL2864 := if_no c2873 AL2864
                                have c2873b0 : (t2827.1 == x2867) = false := beq_eq_false_iff_ne.mpr c2873
                                have c2873b1 : (t2827.1 != x2867) = true := bne_iff_ne.mpr c2873
                                clear c2873
                                go_wp2_with fail
                                have ho := some_eq AL2864
                                subst ho
                                have H := lp_ret H
                                go_ret
                                rw [← some_eq H]
                                exact ⟨(by first | rfl | (simp [IntKind.wrap_u32]; done)), (HS.out).keep (l := []) (rest := [b7 g2746 g2747 t2739.1 t2739.2.1 t2739.2.2.1 t2739.2.2.2.1, b6 g2747 A2748 ((t2739.2.2.2.2).length) n2750 t2827.2.2.1, r5 A2748 ((t2739.2.2.2.2).length) n2750 t2827.2.2.2])⟩
                            · have AL2864 := if_no c2870 AL2864
                              have c2870b0 : decide (x2867 < (wrap64 (a2726))) = false := decide_eq_false c2870
                              clear c2870
                              have ho := some_eq AL2864
                              subst ho
                              clear AL2864
                              have H := lp_out H
                              go_wp2_with fail
                              obtain ⟨t2883, HA2884, H⟩ := bind_some H
                              refine (chain_Take.calls x2868 x2869 t2739.1 t2739.2.1 t2739.2.2.1 t2739.2.2.2.1 1 g2746 g2747 A2748 ((t2739.2.2.2.2).length) n2750 t2883 _ ⟨HS.out.begin (l := [b7 g2746 g2747 t2739.1 t2739.2.1 t2739.2.2.1 t2739.2.2.2.1, b6 g2747 A2748 ((t2739.2.2.2.2).length) n2750 x2869, r5 A2748 ((t2739.2.2.2.2).length) n2750 x2868]) (rest := [])⟩ HA2884).mono ?_
                              rintro e_ w2885 ⟨rfl, hS⟩
                              replace HS : Aside0 (Sep (fps []) w [b7 g2746 g2747 t2739.1 t2739.2.1 t2739.2.2.1 t2739.2.2.2.1, b6 g2747 A2748 ((t2739.2.2.2.2).length) n2750 t2883.2.2.1, r5 A2748 ((t2739.2.2.2.2).length) n2750 t2883.2.2.2] w2885) := ⟨HS.out.call (l := [b7 g2746 g2747 t2739.1 t2739.2.1 t2739.2.2.1 t2739.2.2.2.1, b6 g2747 A2748 ((t2739.2.2.2.2).length) n2750 x2869, r5 A2748 ((t2739.2.2.2.2).length) n2750 x2868]) (rest := []) hS⟩
                              clear hS
                              by_cases c2886 : t2883.2.1 = true
                              · have H := if_yes c2886 H
                                have c2886b0 : t2883.2.1 = true := c2886
                                have c2886b1 : (!t2883.2.1) = false := by rw [c2886b0]; rfl
                                try rw [c2886b1]
                                clear c2886
                                replace HS : Aside0 (Sep (fps []) w [] w2885) := ⟨HS.out.sub (.cons _ (.cons _ (.cons _ .slnil)))⟩
                                go_wp2_with fail
                                go_ret
                                rw [← some_eq H]
                                exact ⟨(by first | rfl | (simp [IntKind.wrap_u32]; done)), (HS.out).keep (l := []) (rest := [])⟩
                              · have H := if_no c2886 H
                                have c2886b0 : t2883.2.1 = false := by simpa using c2886
                                have c2886b1 : (!t2883.2.1) = true := by rw [c2886b0]; rfl
                                try rw [c2886b1]
                                clear c2886
                                go_wp2_with fail
                                obtain ⟨t2887, HA2888, H⟩ := bind_some H
                                refine (chain_List.calls _ t2883.2.2.2 t2883.2.2.1 t2739.1 t2739.2.1 t2739.2.2.1 t2739.2.2.2.1 0 g2746 g2747 A2748 ((t2739.2.2.2.2).length) n2750 t2887 _ ⟨HS.out.begin (l := [b7 g2746 g2747 t2739.1 t2739.2.1 t2739.2.2.1 t2739.2.2.2.1, b6 g2747 A2748 ((t2739.2.2.2.2).length) n2750 t2883.2.2.1, r5 A2748 ((t2739.2.2.2.2).length) n2750 t2883.2.2.2]) (rest := [])⟩ HA2888).mono ?_
                                rintro e_ w2889 ⟨A2891, m2892, n2893, rfl, hS⟩
                                replace HS : Aside0 (Sep (fps []) w [b7 g2746 g2747 t2739.1 t2739.2.1 t2739.2.2.1 t2739.2.2.2.1, b6 g2747 A2748 ((t2739.2.2.2.2).length) n2750 t2883.2.2.1, r5 A2748 ((t2739.2.2.2.2).length) n2750 t2883.2.2.2, r11 A2891 m2892 n2893 t2887] w2889) := ⟨HS.out.call (l := [b7 g2746 g2747 t2739.1 t2739.2.1 t2739.2.2.1 t2739.2.2.2.1, b6 g2747 A2748 ((t2739.2.2.2.2).length) n2750 t2883.2.2.1, r5 A2748 ((t2739.2.2.2.2).length) n2750 t2883.2.2.2]) (rest := []) hS⟩
                                clear hS
                                obtain rfl := (row_len (HS.out.at3)).symm
                                by_cases c2895 : (t2887.length : Int) = (wrap64 (a2726))
                                · have H := if_yes c2895 H
                                  have c2895b0 : ((t2887.length : Int) == (wrap64 (a2726))) = true := beq_iff_eq.mpr c2895
                                  have c2895b1 : ((t2887.length : Int) != (wrap64 (a2726))) = false := bne_eq_false_iff_eq.mpr c2895
                                  clear c2895
                                  go_wp2_with fail
                                  obtain ⟨t2896, HA2897, H⟩ := bind_some H
                                  refine (quitrentlaw08_begun.calls _ t2896 _ ⟨HS.out.begin (l := []) (rest := [b7 g2746 g2747 t2739.1 t2739.2.1 t2739.2.2.1 t2739.2.2.2.1, b6 g2747 A2748 ((t2739.2.2.2.2).length) n2750 t2883.2.2.1, r5 A2748 ((t2739.2.2.2.2).length) n2750 t2883.2.2.2, r11 A2891 t2887.length n2893 t2887])⟩ HA2897).mono ?_
                                  rintro e_ w2898 ⟨rfl, hS⟩
                                  replace HS : Aside0 (Sep (fps []) w [b7 g2746 g2747 t2739.1 t2739.2.1 t2739.2.2.1 t2739.2.2.2.1, b6 g2747 A2748 ((t2739.2.2.2.2).length) n2750 t2883.2.2.1, r5 A2748 ((t2739.2.2.2.2).length) n2750 t2883.2.2.2, r11 A2891 t2887.length n2893 t2887] w2898) := ⟨HS.out.call (l := []) (rest := [b7 g2746 g2747 t2739.1 t2739.2.1 t2739.2.2.1 t2739.2.2.2.1, b6 g2747 A2748 ((t2739.2.2.2.2).length) n2750 t2883.2.2.1, r5 A2748 ((t2739.2.2.2.2).length) n2750 t2883.2.2.2, r11 A2891 t2887.length n2893 t2887]) hS⟩
                                  clear hS
                                  replace HS : Aside0 (Sep (fps []) w [] w2898) := ⟨HS.out.sub (.cons _ (.cons _ (.cons _ (.cons _ .slnil))))⟩
                                  go_wp2_with fail
                                  go_ret
                                  rw [← some_eq H]
                                  exact ⟨(by first | rfl | (simp [IntKind.wrap_u32]; done)), (HS.out).keep (l := []) (rest := [])⟩
                                · have H := if_no c2895 H
                                  have c2895b0 : ((t2887.length : Int) == (wrap64 (a2726))) = false := beq_eq_false_iff_ne.mpr c2895
                                  have c2895b1 : ((t2887.length : Int) != (wrap64 (a2726))) = true := bne_iff_ne.mpr c2895
                                  clear c2895
                                  replace HS : Aside0 (Sep (fps []) w [] w2889) := ⟨HS.out.sub (.cons _ (.cons _ (.cons _ (.cons _ .slnil))))⟩
                                  go_wp2_with fail
                                  go_ret
                                  rw [← some_eq H]
                                  exact ⟨(by first | rfl | (simp [IntKind.wrap_u32]; done)), (HS.out).keep (l := []) (rest := [])⟩
        · have H := if_no c2752 H
          have c2752b0 : a2728 = false := by simpa using c2752
          have c2752b1 : (!a2728) = true := by rw [c2752b0]; rfl
          clear c2752
          by_cases c3068 : (wrap64 (a2726)) = 0
          · have H := if_yes c3068 H
            have c3068b0 : ((wrap64 (a2726)) == 0) = true := beq_iff_eq.mpr c3068
            have c3068b1 : ((wrap64 (a2726)) != 0) = false := bne_eq_false_iff_eq.mpr c3068
            exact (none_no H).elim
          · have H := if_no c3068 H
            have c3068b0 : ((wrap64 (a2726)) == 0) = false := beq_eq_false_iff_ne.mpr c3068
            have c3068b1 : ((wrap64 (a2726)) != 0) = true := bne_iff_ne.mpr c3068
            skip
            go_wp2_with fail
            clear c3068
            obtain ⟨o3090, AL3091, H⟩ := bind_some H
            go_loopg [12] k (fun kq v12 wc => ∃ (x3094 : Int) (x3095 : List Int) (x3096 : Int), v12 = .int .i64 x3094 ∧ Aside0 (quitrentlaw08_ChainOrder.lo3 kq a2726 t2739 x3094 x3095 x3096 = some o3090) ∧ Aside0 (Sep (fps []) w [b7 g2746 g2747 t2739.1 t2739.2.1 t2739.2.2.1 t2739.2.2.2.1, b6 g2747 A2748 ((t2739.2.2.2.2).length) n2750 x3096, r5 A2748 ((t2739.2.2.2.2).length) n2750 x3095] wc))
            case atStart => exact ⟨(Int.tmod (wrap64 (a2727)) (wrap64 (a2726))), (t2739.2.2.2.2), (0), (by first | rfl | (simp [IntKind.wrap_u32]; done)), AL3091, ⟨HS.out⟩⟩
            case round =>
              clear AL3091 HS
              obtain ⟨x3094, x3095, x3096, rfl, AL3091, HS⟩ := hrel
              obtain ⟨w3092, rfl⟩ : ∃ x : World, x = wr := ⟨_, rfl⟩
              cases gk with
              | zero => exact absurd AL3091.out (by simp [quitrentlaw08_ChainOrder.lo3])
              | succ k3093 =>
                have AL0 := AL3091.out
                rw [quitrentlaw08_ChainOrder.lo3] at AL0
                clear AL3091
                have AL3091 := Aside0.mk AL0
                clear AL0
                by_cases c3097 : x3094 < (wrap64 (a2726))
                · have AL3091 := if_yes c3097 AL3091
                  have c3097b0 : decide (x3094 < (wrap64 (a2726))) = true := decide_eq_true c3097
                  clear c3097
                  go_wp2_with fail
                  obtain ⟨t2761, HA3098, AL3091⟩ := bind_some AL3091
                  refine (chain_Add.calls x3095 x3096 t2739.1 t2739.2.1 t2739.2.2.1 t2739.2.2.2.1 0 x3094 g2746 g2747 A2748 ((t2739.2.2.2.2).length) n2750 t2761 _ ⟨HS.out.begin (l := [b7 g2746 g2747 t2739.1 t2739.2.1 t2739.2.2.1 t2739.2.2.2.1, b6 g2747 A2748 ((t2739.2.2.2.2).length) n2750 x3096, r5 A2748 ((t2739.2.2.2.2).length) n2750 x3095]) (rest := [])⟩ HA3098).mono ?_
                  rintro e_ w3099 ⟨rfl, hS⟩
                  replace HS : Aside0 (Sep (fps []) w [b7 g2746 g2747 t2739.1 t2739.2.1 t2739.2.2.1 t2739.2.2.2.1, b6 g2747 A2748 ((t2739.2.2.2.2).length) n2750 t2761.2.1, r5 A2748 ((t2739.2.2.2.2).length) n2750 t2761.2.2] w3099) := ⟨HS.out.call (l := [b7 g2746 g2747 t2739.1 t2739.2.1 t2739.2.2.1 t2739.2.2.2.1, b6 g2747 A2748 ((t2739.2.2.2.2).length) n2750 x3096, r5 A2748 ((t2739.2.2.2.2).length) n2750 x3095]) (rest := []) hS⟩
                  clear hS
                  by_cases c3100 : t2761.1 = true
                  · have AL3091 := if_yes c3100 AL3091
                    have c3100b0 : t2761.1 = true := c3100
                    have c3100b1 : (!t2761.1) = false := by rw [c3100b0]; rfl
                    try rw [c3100b1]
                    clear c3100
                    go_wp2_with fail
                    go_roundg k3093
                    case measure => exact Nat.lt_succ_self _
                    case rel => exact ⟨(wrap64 (x3094 + 1)), (t2761.2.2), (t2761.2.1), (by first | rfl | (simp [IntKind.wrap_u32]; done)), Aside0.mk AL3091.out, ⟨((((HS.out).front 2 (by simp)).front 2 (by simp)).front 2 (by simp)).keep (l := [b7 g2746 g2747 t2739.1 t2739.2.1 t2739.2.2.1 t2739.2.2.2.1, b6 g2747 A2748 ((t2739.2.2.2.2).length) n2750 t2761.2.1, r5 A2748 ((t2739.2.2.2.2).length) n2750 t2761.2.2]) (rest := [])⟩⟩
                  · have AL3091 := if_no c3100 AL3091
                    have c3100b0 : t2761.1 = false := by simpa using c3100
                    have c3100b1 : (!t2761.1) = true := by rw [c3100b0]; rfl
                    try rw [c3100b1]
                    clear c3100
                    go_wp2_with fail
                    have ho := some_eq AL3091
                    subst ho
                    have H := lp_ret H
                    go_ret
                    rw [← some_eq H]
                    exact ⟨(by first | rfl | (simp [IntKind.wrap_u32]; done)), (HS.out).keep (l := []) (rest := [b7 g2746 g2747 t2739.1 t2739.2.1 t2739.2.2.1 t2739.2.2.2.1, b6 g2747 A2748 ((t2739.2.2.2.2).length) n2750 t2761.2.1, r5 A2748 ((t2739.2.2.2.2).length) n2750 t2761.2.2])⟩
                · have AL3091 := if_no c3097 AL3091
                  have c3097b0 : decide (x3094 < (wrap64 (a2726))) = false := decide_eq_false c3097
                  clear c3097
                  have ho := some_eq AL3091
                  subst ho
                  clear AL3091
                  have H := lp_out H
                  go_wp2_with fail
                  obtain ⟨o3122, AL3123, H⟩ := bind_some H
                  go_loopg [13] k (fun kq v13 wc => ∃ (x3126 : Int) (x3127 : List Int) (x3128 : Int), v13 = .int .i64 x3126 ∧ Aside0 (quitrentlaw08_ChainOrder.lo4 kq t2739 x3126 x3127 x3128 = some o3122) ∧ Aside0 (Sep (fps []) w [b7 g2746 g2747 t2739.1 t2739.2.1 t2739.2.2.1 t2739.2.2.2.1, b6 g2747 A2748 ((t2739.2.2.2.2).length) n2750 x3128, r5 A2748 ((t2739.2.2.2.2).length) n2750 x3127] wc))
                  case atStart => exact ⟨(wrap64 ((Int.tmod (wrap64 (a2727)) (wrap64 (a2726))) - 1)), (x3095), (x3096), (by first | rfl | (simp [IntKind.wrap_u32]; done)), AL3123, ⟨HS.out⟩⟩
                  case round =>
                    clear AL3123 HS
                    obtain ⟨x3126, x3127, x3128, rfl, AL3123, HS⟩ := hrel
                    obtain ⟨w3124, rfl⟩ : ∃ x : World, x = wr := ⟨_, rfl⟩
                    cases gk with
                    | zero => exact absurd AL3123.out (by simp [quitrentlaw08_ChainOrder.lo4])
                    | succ k3125 =>
                      have AL0 := AL3123.out
                      rw [quitrentlaw08_ChainOrder.lo4] at AL0
                      clear AL3123
                      have AL3123 := Aside0.mk AL0
                      clear AL0
                      by_cases c3129 : x3126 ≥ 0
                      · have AL3123 := if_yes c3129 AL3123
                        have c3129b0 : decide (0 ≤ x3126) = true := decide_eq_true c3129
                        clear c3129
                        go_wp2_with fail
                        obtain ⟨t2794, HA3130, AL3123⟩ := bind_some AL3123
                        refine (chain_Push.calls x3127 x3128 t2739.1 t2739.2.1 t2739.2.2.1 t2739.2.2.2.1 0 x3126 g2746 g2747 A2748 ((t2739.2.2.2.2).length) n2750 t2794 _ ⟨HS.out.begin (l := [b7 g2746 g2747 t2739.1 t2739.2.1 t2739.2.2.1 t2739.2.2.2.1, b6 g2747 A2748 ((t2739.2.2.2.2).length) n2750 x3128, r5 A2748 ((t2739.2.2.2.2).length) n2750 x3127]) (rest := [])⟩ HA3130).mono ?_
                        rintro e_ w3131 ⟨rfl, hS⟩
                        replace HS : Aside0 (Sep (fps []) w [b7 g2746 g2747 t2739.1 t2739.2.1 t2739.2.2.1 t2739.2.2.2.1, b6 g2747 A2748 ((t2739.2.2.2.2).length) n2750 t2794.2.1, r5 A2748 ((t2739.2.2.2.2).length) n2750 t2794.2.2] w3131) := ⟨HS.out.call (l := [b7 g2746 g2747 t2739.1 t2739.2.1 t2739.2.2.1 t2739.2.2.2.1, b6 g2747 A2748 ((t2739.2.2.2.2).length) n2750 x3128, r5 A2748 ((t2739.2.2.2.2).length) n2750 x3127]) (rest := []) hS⟩
                        clear hS
                        by_cases c3132 : t2794.1 = true
                        · have AL3123 := if_yes c3132 AL3123
                          have c3132b0 : t2794.1 = true := c3132
                          have c3132b1 : (!t2794.1) = false := by rw [c3132b0]; rfl
                          try rw [c3132b1]
                          clear c3132
                          go_wp2_with fail
                          go_roundg k3125
                          case measure => exact Nat.lt_succ_self _
                          case rel => exact ⟨(wrap64 (x3126 - 1)), (t2794.2.2), (t2794.2.1), (by first | rfl | (simp [IntKind.wrap_u32]; done)), Aside0.mk AL3123.out, ⟨((((HS.out).front 2 (by simp)).front 2 (by simp)).front 2 (by simp)).keep (l := [b7 g2746 g2747 t2739.1 t2739.2.1 t2739.2.2.1 t2739.2.2.2.1, b6 g2747 A2748 ((t2739.2.2.2.2).length) n2750 t2794.2.1, r5 A2748 ((t2739.2.2.2.2).length) n2750 t2794.2.2]) (rest := [])⟩⟩
                        · have AL3123 := if_no c3132 AL3123
                          have c3132b0 : t2794.1 = false := by simpa using c3132
                          have c3132b1 : (!t2794.1) = true := by rw [c3132b0]; rfl
                          try rw [c3132b1]
                          clear c3132
                          go_wp2_with fail
                          have ho := some_eq AL3123
                          subst ho
                          have H := lp_ret H
                          go_ret
                          rw [← some_eq H]
                          exact ⟨(by first | rfl | (simp [IntKind.wrap_u32]; done)), (HS.out).keep (l := []) (rest := [b7 g2746 g2747 t2739.1 t2739.2.1 t2739.2.2.1 t2739.2.2.2.1, b6 g2747 A2748 ((t2739.2.2.2.2).length) n2750 t2794.2.1, r5 A2748 ((t2739.2.2.2.2).length) n2750 t2794.2.2])⟩
                      · have AL3123 := if_no c3129 AL3123
                        have c3129b0 : decide (0 ≤ x3126) = false := decide_eq_false c3129
                        clear c3129
                        have ho := some_eq AL3123
                        subst ho
                        clear AL3123
                        have H := lp_out H
                        go_wp2_with fail
                        obtain ⟨o3172, AL3173, H⟩ := bind_some H
                        go_loopg [14] k (fun kq v14 wc => ∃ (x3176 : Int) (x3177 : List Int) (x3178 : Int), v14 = .int .i64 x3176 ∧ Aside0 (quitrentlaw08_ChainOrder.lo5 kq a2726 t2739 x3176 x3177 x3178 = some o3172) ∧ Aside0 (Sep (fps []) w [b7 g2746 g2747 t2739.1 t2739.2.1 t2739.2.2.1 t2739.2.2.2.1, b6 g2747 A2748 ((t2739.2.2.2.2).length) n2750 x3178, r5 A2748 ((t2739.2.2.2.2).length) n2750 x3177] wc))
                        case atStart => exact ⟨(0), (x3127), (x3128), (by first | rfl | (simp [IntKind.wrap_u32]; done)), AL3173, ⟨HS.out⟩⟩
                        case round =>
                          clear AL3173 HS
                          obtain ⟨x3176, x3177, x3178, rfl, AL3173, HS⟩ := hrel
                          obtain ⟨w3174, rfl⟩ : ∃ x : World, x = wr := ⟨_, rfl⟩
                          cases gk with
                          | zero => exact absurd AL3173.out (by simp [quitrentlaw08_ChainOrder.lo5])
                          | succ k3175 =>
                            have AL0 := AL3173.out
                            rw [quitrentlaw08_ChainOrder.lo5] at AL0
                            clear AL3173
                            have AL3173 := Aside0.mk AL0
                            clear AL0
                            by_cases c3179 : x3176 < (wrap64 (a2726))
                            · have AL3173 := if_yes c3179 AL3173
                              have c3179b0 : decide (x3176 < (wrap64 (a2726))) = true := decide_eq_true c3179
                              clear c3179
                              go_wp2_with fail
                              obtain ⟨t2827, HA3180, AL3173⟩ := bind_some AL3173
                              refine (chain_Take.calls x3177 x3178 t2739.1 t2739.2.1 t2739.2.2.1 t2739.2.2.2.1 0 g2746 g2747 A2748 ((t2739.2.2.2.2).length) n2750 t2827 _ ⟨HS.out.begin (l := [b7 g2746 g2747 t2739.1 t2739.2.1 t2739.2.2.1 t2739.2.2.2.1, b6 g2747 A2748 ((t2739.2.2.2.2).length) n2750 x3178, r5 A2748 ((t2739.2.2.2.2).length) n2750 x3177]) (rest := [])⟩ HA3180).mono ?_
                              rintro e_ w3181 ⟨rfl, hS⟩
                              replace HS : Aside0 (Sep (fps []) w [b7 g2746 g2747 t2739.1 t2739.2.1 t2739.2.2.1 t2739.2.2.2.1, b6 g2747 A2748 ((t2739.2.2.2.2).length) n2750 t2827.2.2.1, r5 A2748 ((t2739.2.2.2.2).length) n2750 t2827.2.2.2] w3181) := ⟨HS.out.call (l := [b7 g2746 g2747 t2739.1 t2739.2.1 t2739.2.2.1 t2739.2.2.2.1, b6 g2747 A2748 ((t2739.2.2.2.2).length) n2750 x3178, r5 A2748 ((t2739.2.2.2.2).length) n2750 x3177]) (rest := []) hS⟩
                              clear hS
                              by_cases c3182 : t2827.1 = x3176
                              · have AL3173 := if_yes c3182 AL3173
                                have c3182b0 : (t2827.1 == x3176) = true := beq_iff_eq.mpr c3182
                                have c3182b1 : (t2827.1 != x3176) = false := bne_eq_false_iff_eq.mpr c3182
                                clear c3182
                                by_cases c3183 : t2827.2.1 = true
                                · have AL3173 := if_yes c3183 AL3173
                                  have c3183b0 : t2827.2.1 = true := c3183
                                  have c3183b1 : (!t2827.2.1) = false := by rw [c3183b0]; rfl
                                  try rw [c3183b1]
                                  clear c3183
                                  go_wp2_with fail
                                  obtain ⟨t2832, HA3184, AL3173⟩ := bind_some AL3173
                                  refine (chain_Add.calls t2827.2.2.2 t2827.2.2.1 t2739.1 t2739.2.1 t2739.2.2.1 t2739.2.2.2.1 1 t2827.1 g2746 g2747 A2748 ((t2739.2.2.2.2).length) n2750 t2832 _ ⟨HS.out.begin (l := [b7 g2746 g2747 t2739.1 t2739.2.1 t2739.2.2.1 t2739.2.2.2.1, b6 g2747 A2748 ((t2739.2.2.2.2).length) n2750 t2827.2.2.1, r5 A2748 ((t2739.2.2.2.2).length) n2750 t2827.2.2.2]) (rest := [])⟩ HA3184).mono ?_
                                  rintro e_ w3185 ⟨rfl, hS⟩
                                  replace HS : Aside0 (Sep (fps []) w [b7 g2746 g2747 t2739.1 t2739.2.1 t2739.2.2.1 t2739.2.2.2.1, b6 g2747 A2748 ((t2739.2.2.2.2).length) n2750 t2832.2.1, r5 A2748 ((t2739.2.2.2.2).length) n2750 t2832.2.2] w3185) := ⟨HS.out.call (l := [b7 g2746 g2747 t2739.1 t2739.2.1 t2739.2.2.1 t2739.2.2.2.1, b6 g2747 A2748 ((t2739.2.2.2.2).length) n2750 t2827.2.2.1, r5 A2748 ((t2739.2.2.2.2).length) n2750 t2827.2.2.2]) (rest := []) hS⟩
                                  clear hS
                                  by_cases c3186 : t2832.1 = true
                                  · have AL3173 := if_yes c3186 AL3173
                                    have c3186b0 : t2832.1 = true := c3186
                                    have c3186b1 : (!t2832.1) = false := by rw [c3186b0]; rfl
                                    try rw [c3186b1]
                                    clear c3186
                                    go_wp2_with fail
                                    obtain ⟨t2836, HA3187, AL3173⟩ := bind_some AL3173
                                    refine (chain_Len.calls t2832.2.2 t2832.2.1 t2739.1 t2739.2.1 t2739.2.2.1 t2739.2.2.2.1 0 g2746 g2747 A2748 ((t2739.2.2.2.2).length) n2750 t2836 _ ⟨HS.out.begin (l := [b7 g2746 g2747 t2739.1 t2739.2.1 t2739.2.2.1 t2739.2.2.2.1, b6 g2747 A2748 ((t2739.2.2.2.2).length) n2750 t2832.2.1, r5 A2748 ((t2739.2.2.2.2).length) n2750 t2832.2.2]) (rest := [])⟩ HA3187).mono ?_
                                    rintro e_ w3188 ⟨rfl, hS⟩
                                    replace HS : Aside0 (Sep (fps []) w [b7 g2746 g2747 t2739.1 t2739.2.1 t2739.2.2.1 t2739.2.2.2.1, b6 g2747 A2748 ((t2739.2.2.2.2).length) n2750 t2836.2, r5 A2748 ((t2739.2.2.2.2).length) n2750 t2832.2.2] w3188) := ⟨HS.out.call (l := [b7 g2746 g2747 t2739.1 t2739.2.1 t2739.2.2.1 t2739.2.2.2.1, b6 g2747 A2748 ((t2739.2.2.2.2).length) n2750 t2832.2.1, r5 A2748 ((t2739.2.2.2.2).length) n2750 t2832.2.2]) (rest := []) hS⟩
                                    clear hS
                                    go_wp2_with fail
                                    obtain ⟨t2839, HA3189, AL3173⟩ := bind_some AL3173
                                    refine (chain_Len.calls t2832.2.2 t2836.2 t2739.1 t2739.2.1 t2739.2.2.1 t2739.2.2.2.1 1 g2746 g2747 A2748 ((t2739.2.2.2.2).length) n2750 t2839 _ ⟨HS.out.begin (l := [b7 g2746 g2747 t2739.1 t2739.2.1 t2739.2.2.1 t2739.2.2.2.1, b6 g2747 A2748 ((t2739.2.2.2.2).length) n2750 t2836.2, r5 A2748 ((t2739.2.2.2.2).length) n2750 t2832.2.2]) (rest := [])⟩ HA3189).mono ?_
                                    rintro e_ w3190 ⟨rfl, hS⟩
                                    replace HS : Aside0 (Sep (fps []) w [b7 g2746 g2747 t2739.1 t2739.2.1 t2739.2.2.1 t2739.2.2.2.1, b6 g2747 A2748 ((t2739.2.2.2.2).length) n2750 t2839.2, r5 A2748 ((t2739.2.2.2.2).length) n2750 t2832.2.2] w3190) := ⟨HS.out.call (l := [b7 g2746 g2747 t2739.1 t2739.2.1 t2739.2.2.1 t2739.2.2.2.1, b6 g2747 A2748 ((t2739.2.2.2.2).length) n2750 t2836.2, r5 A2748 ((t2739.2.2.2.2).length) n2750 t2832.2.2]) (rest := []) hS⟩
                                    clear hS
                                    by_cases c3191 : (wrap64 (t2836.1 + t2839.1)) = (wrap64 (a2726))
                                    · have AL3173 := if_yes c3191 AL3173
                                      have c3191b0 : ((wrap64 (t2836.1 + t2839.1)) == (wrap64 (a2726))) = true := beq_iff_eq.mpr c3191
                                      have c3191b1 : ((wrap64 (t2836.1 + t2839.1)) != (wrap64 (a2726))) = false := bne_eq_false_iff_eq.mpr c3191
                                      clear c3191
                                      go_wp2_with fail
                                      go_roundg k3175
                                      case measure => exact Nat.lt_succ_self _
                                      case rel => exact ⟨(wrap64 (x3176 + 1)), (t2832.2.2), (t2839.2), (by first | rfl | (simp [IntKind.wrap_u32]; done)), Aside0.mk AL3173.out, ⟨((((HS.out).front 2 (by simp)).front 2 (by simp)).front 2 (by simp)).keep (l := [b7 g2746 g2747 t2739.1 t2739.2.1 t2739.2.2.1 t2739.2.2.2.1, b6 g2747 A2748 ((t2739.2.2.2.2).length) n2750 t2839.2, r5 A2748 ((t2739.2.2.2.2).length) n2750 t2832.2.2]) (rest := [])⟩⟩
                                    · have AL3173 := if_no c3191 AL3173
                                      have c3191b0 : ((wrap64 (t2836.1 + t2839.1)) == (wrap64 (a2726))) = false := beq_eq_false_iff_ne.mpr c3191
                                      have c3191b1 : ((wrap64 (t2836.1 + t2839.1)) != (wrap64 (a2726))) = true := bne_iff_ne.mpr c3191
                                      clear c3191
                                      go_wp2_with fail
                                      have ho := some_eq AL3173
                                      subst ho
                                      have H := lp_ret H
                                      go_ret
                                      rw [← some_eq H]
                                      exact ⟨(by first | rfl | (simp [IntKind.wrap_u32]; done)), (HS.out).keep (l := []) (rest := [b7 g2746 g2747 t2739.1 t2739.2.1 t2739.2.2.1 t2739.2.2.2.1, b6 g2747 A2748 ((t2739.2.2.2.2).length) n2750 t2839.2, r5 A2748 ((t2739.2.2.2.2).length) n2750 t2832.2.2])⟩
                                  · have AL3173 := if_no c3186 AL3173
                                    have c3186b0 : t2832.1 = false := by simpa using c3186
                                    have c3186b1 : (!t2832.1) = true := by rw [c3186b0]; rfl
                                    try rw [c3186b1]
                                    clear c3186
                                    go_wp2_with fail
                                    have ho := some_eq AL3173
                                    subst ho
                                    have H := lp_ret H
                                    go_ret
                                    rw [← some_eq H]
                                    exact ⟨(by first | rfl | (simp [IntKind.wrap_u32]; done)), (HS.out).keep (l := []) (rest := [b7 g2746 g2747 t2739.1 t2739.2.1 t2739.2.2.1 t2739.2.2.2.1, b6 g2747 A2748 ((t2739.2.2.2.2).length) n2750 t2832.2.1, r5 A2748 ((t2739.2.2.2.2).length) n2750 t2832.2.2])⟩
                                · have AL3173 := if_no c3183 AL3173
                                  have c3183b0 : t2827.2.1 = false := by simpa using c3183
                                  have c3183b1 : (!t2827.2.1) = true := by rw [c3183b0]; rfl
                                  try rw [c3183b1]
                                  clear c3183
                                  go_wp2_with fail
                                  have ho := some_eq AL3173
                                  subst ho
                                  have H := lp_ret H
                                  go_ret
                                  rw [← some_eq H]
                                  exact ⟨(by first | rfl | (simp [IntKind.wrap_u32]; done)), (HS.out).keep (l := []) (rest := [b7 g2746 g2747 t2739.1 t2739.2.1 t2739.2.2.1 t2739.2.2.2.1, b6 g2747 A2748 ((t2739.2.2.2.2).length) n2750 t2827.2.2.1, r5 A2748 ((t2739.2.2.2.2).length) n2750 t2827.2.2.2])⟩
                              · have AL3173 := if_no c3182 AL3173
                                have c3182b0 : (t2827.1 == x3176) = false := beq_eq_false_iff_ne.mpr c3182
                                have c3182b1 : (t2827.1 != x3176) = true := bne_iff_ne.mpr c3182
                                clear c3182
                                go_wp2_with fail
                                have ho := some_eq AL3173
                                subst ho
                                have H := lp_ret H
                                go_ret
                                rw [← some_eq H]
                                exact ⟨(by first | rfl | (simp [IntKind.wrap_u32]; done)), (HS.out).keep (l := []) (rest := [b7 g2746 g2747 t2739.1 t2739.2.1 t2739.2.2.1 t2739.2.2.2.1, b6 g2747 A2748 ((t2739.2.2.2.2).length) n2750 t2827.2.2.1, r5 A2748 ((t2739.2.2.2.2).length) n2750 t2827.2.2.2])⟩
                            · have AL3173 := if_no c3179 AL3173
                              have c3179b0 : decide (x3176 < (wrap64 (a2726))) = false := decide_eq_false c3179
                              clear c3179
                              have ho := some_eq AL3173
                              subst ho
                              clear AL3173
                              have H := lp_out H
                              go_wp2_with fail
                              obtain ⟨t2883, HA3192, H⟩ := bind_some H
                              refine (chain_Take.calls x3177 x3178 t2739.1 t2739.2.1 t2739.2.2.1 t2739.2.2.2.1 0 g2746 g2747 A2748 ((t2739.2.2.2.2).length) n2750 t2883 _ ⟨HS.out.begin (l := [b7 g2746 g2747 t2739.1 t2739.2.1 t2739.2.2.1 t2739.2.2.2.1, b6 g2747 A2748 ((t2739.2.2.2.2).length) n2750 x3178, r5 A2748 ((t2739.2.2.2.2).length) n2750 x3177]) (rest := [])⟩ HA3192).mono ?_
                              rintro e_ w3193 ⟨rfl, hS⟩
                              replace HS : Aside0 (Sep (fps []) w [b7 g2746 g2747 t2739.1 t2739.2.1 t2739.2.2.1 t2739.2.2.2.1, b6 g2747 A2748 ((t2739.2.2.2.2).length) n2750 t2883.2.2.1, r5 A2748 ((t2739.2.2.2.2).length) n2750 t2883.2.2.2] w3193) := ⟨HS.out.call (l := [b7 g2746 g2747 t2739.1 t2739.2.1 t2739.2.2.1 t2739.2.2.2.1, b6 g2747 A2748 ((t2739.2.2.2.2).length) n2750 x3178, r5 A2748 ((t2739.2.2.2.2).length) n2750 x3177]) (rest := []) hS⟩
                              clear hS
                              by_cases c3194 : t2883.2.1 = true
                              · have H := if_yes c3194 H
                                have c3194b0 : t2883.2.1 = true := c3194
                                have c3194b1 : (!t2883.2.1) = false := by rw [c3194b0]; rfl
                                try rw [c3194b1]
                                clear c3194
                                replace HS : Aside0 (Sep (fps []) w [] w3193) := ⟨HS.out.sub (.cons _ (.cons _ (.cons _ .slnil)))⟩
                                go_wp2_with fail
                                go_ret
                                rw [← some_eq H]
                                exact ⟨(by first | rfl | (simp [IntKind.wrap_u32]; done)), (HS.out).keep (l := []) (rest := [])⟩
                              · have H := if_no c3194 H
                                have c3194b0 : t2883.2.1 = false := by simpa using c3194
                                have c3194b1 : (!t2883.2.1) = true := by rw [c3194b0]; rfl
                                try rw [c3194b1]
                                clear c3194
                                go_wp2_with fail
                                obtain ⟨t2887, HA3195, H⟩ := bind_some H
                                refine (chain_List.calls _ t2883.2.2.2 t2883.2.2.1 t2739.1 t2739.2.1 t2739.2.2.1 t2739.2.2.2.1 1 g2746 g2747 A2748 ((t2739.2.2.2.2).length) n2750 t2887 _ ⟨HS.out.begin (l := [b7 g2746 g2747 t2739.1 t2739.2.1 t2739.2.2.1 t2739.2.2.2.1, b6 g2747 A2748 ((t2739.2.2.2.2).length) n2750 t2883.2.2.1, r5 A2748 ((t2739.2.2.2.2).length) n2750 t2883.2.2.2]) (rest := [])⟩ HA3195).mono ?_
                                rintro e_ w3196 ⟨A3198, m3199, n3200, rfl, hS⟩
                                replace HS : Aside0 (Sep (fps []) w [b7 g2746 g2747 t2739.1 t2739.2.1 t2739.2.2.1 t2739.2.2.2.1, b6 g2747 A2748 ((t2739.2.2.2.2).length) n2750 t2883.2.2.1, r5 A2748 ((t2739.2.2.2.2).length) n2750 t2883.2.2.2, r11 A3198 m3199 n3200 t2887] w3196) := ⟨HS.out.call (l := [b7 g2746 g2747 t2739.1 t2739.2.1 t2739.2.2.1 t2739.2.2.2.1, b6 g2747 A2748 ((t2739.2.2.2.2).length) n2750 t2883.2.2.1, r5 A2748 ((t2739.2.2.2.2).length) n2750 t2883.2.2.2]) (rest := []) hS⟩
                                clear hS
                                obtain rfl := (row_len (HS.out.at3)).symm
                                by_cases c3202 : (t2887.length : Int) = (wrap64 (a2726))
                                · have H := if_yes c3202 H
                                  have c3202b0 : ((t2887.length : Int) == (wrap64 (a2726))) = true := beq_iff_eq.mpr c3202
                                  have c3202b1 : ((t2887.length : Int) != (wrap64 (a2726))) = false := bne_eq_false_iff_eq.mpr c3202
                                  clear c3202
                                  go_wp2_with fail
                                  obtain ⟨t2896, HA3203, H⟩ := bind_some H
                                  refine (quitrentlaw08_begun.calls _ t2896 _ ⟨HS.out.begin (l := []) (rest := [b7 g2746 g2747 t2739.1 t2739.2.1 t2739.2.2.1 t2739.2.2.2.1, b6 g2747 A2748 ((t2739.2.2.2.2).length) n2750 t2883.2.2.1, r5 A2748 ((t2739.2.2.2.2).length) n2750 t2883.2.2.2, r11 A3198 t2887.length n3200 t2887])⟩ HA3203).mono ?_
                                  rintro e_ w3204 ⟨rfl, hS⟩
                                  replace HS : Aside0 (Sep (fps []) w [b7 g2746 g2747 t2739.1 t2739.2.1 t2739.2.2.1 t2739.2.2.2.1, b6 g2747 A2748 ((t2739.2.2.2.2).length) n2750 t2883.2.2.1, r5 A2748 ((t2739.2.2.2.2).length) n2750 t2883.2.2.2, r11 A3198 t2887.length n3200 t2887] w3204) := ⟨HS.out.call (l := []) (rest := [b7 g2746 g2747 t2739.1 t2739.2.1 t2739.2.2.1 t2739.2.2.2.1, b6 g2747 A2748 ((t2739.2.2.2.2).length) n2750 t2883.2.2.1, r5 A2748 ((t2739.2.2.2.2).length) n2750 t2883.2.2.2, r11 A3198 t2887.length n3200 t2887]) hS⟩
                                  clear hS
                                  replace HS : Aside0 (Sep (fps []) w [] w3204) := ⟨HS.out.sub (.cons _ (.cons _ (.cons _ (.cons _ .slnil))))⟩
                                  go_wp2_with fail
                                  go_ret
                                  rw [← some_eq H]
                                  exact ⟨(by first | rfl | (simp [IntKind.wrap_u32]; done)), (HS.out).keep (l := []) (rest := [])⟩
                                · have H := if_no c3202 H
                                  have c3202b0 : ((t2887.length : Int) == (wrap64 (a2726))) = false := beq_eq_false_iff_ne.mpr c3202
                                  have c3202b1 : ((t2887.length : Int) != (wrap64 (a2726))) = true := bne_iff_ne.mpr c3202
                                  clear c3202
                                  replace HS : Aside0 (Sep (fps []) w [] w3196) := ⟨HS.out.sub (.cons _ (.cons _ (.cons _ (.cons _ .slnil))))⟩
                                  go_wp2_with fail
                                  go_ret
                                  rw [← some_eq H]
                                  exact ⟨(by first | rfl | (simp [IntKind.wrap_u32]; done)), (HS.out).keep (l := []) (rest := [])⟩
      · have H := sum_r H
        have H := sum_r H
        refine (ground_New.calls _ (wrap64 (a2726)) 16 1 1 (.inr (.inr t2740)) _ ⟨HS.out.begin (l := []) (rest := [])⟩ HA2737).mono ?_
        rintro e_ w3374 ⟨rfl, hS⟩
        replace HS : Aside0 (Sep (fps []) w [] w3374) := ⟨HS.out.call (l := []) (rest := []) hS⟩
        clear hS
        by_cases c3375 : t2740 = 0
        · have H := if_yes c3375 H
          have c3375b0 : (t2740 == 0) = true := beq_iff_eq.mpr c3375
          have c3375b1 : (t2740 != 0) = false := bne_eq_false_iff_eq.mpr c3375
          clear c3375
          by_cases c3376 : a2728 = true
          · have H := if_yes c3376 H
            have c3376b0 : a2728 = true := c3376
            have c3376b1 : (!a2728) = false := by rw [c3376b0]; rfl
            clear c3376
            by_cases c3377 : (wrap64 (a2726)) = 0
            · have H := if_yes c3377 H
              have c3377b0 : ((wrap64 (a2726)) == 0) = true := beq_iff_eq.mpr c3377
              have c3377b1 : ((wrap64 (a2726)) != 0) = false := bne_eq_false_iff_eq.mpr c3377
              exact (none_no H).elim
            · have H := if_no c3377 H
              have c3377b0 : ((wrap64 (a2726)) == 0) = false := beq_eq_false_iff_ne.mpr c3377
              have c3377b1 : ((wrap64 (a2726)) != 0) = true := bne_iff_ne.mpr c3377
              skip
              go_wp2_with fail
              clear c3377
              obtain ⟨o3388, AL3389, H⟩ := bind_some H
              go_loopg [12] k (fun kq v12 wc => ∃ (x3392 : Int), v12 = .int .i64 x3392 ∧ Aside0 (quitrentlaw08_ChainOrder.lo6 kq a2726 x3392 = some o3388) ∧ Aside0 (Sep (fps []) w [] wc))
              case atStart => exact ⟨(Int.tmod (wrap64 (a2727)) (wrap64 (a2726))), (by first | rfl | (simp [IntKind.wrap_u32]; done)), AL3389, ⟨HS.out⟩⟩
              case round =>
                clear AL3389 HS
                obtain ⟨x3392, rfl, AL3389, HS⟩ := hrel
                obtain ⟨w3390, rfl⟩ : ∃ x : World, x = wr := ⟨_, rfl⟩
                cases gk with
                | zero => exact absurd AL3389.out (by simp [quitrentlaw08_ChainOrder.lo6])
                | succ k3391 =>
                  have AL0 := AL3389.out
                  rw [quitrentlaw08_ChainOrder.lo6] at AL0
                  clear AL3389
                  have AL3389 := Aside0.mk AL0
                  clear AL0
                  by_cases c3393 : x3392 < (wrap64 (a2726))
                  · have AL3389 := if_yes c3393 AL3389
                    have c3393b0 : decide (x3392 < (wrap64 (a2726))) = true := decide_eq_true c3393
                    clear c3393
                    go_wp2_with fail
                    obtain ⟨t2761, HA3394, AL3389⟩ := bind_some AL3389
                    refine (chain_Add_nil.calls 1 x3392 t2761 _ ⟨HS.out.begin (l := []) (rest := [])⟩ HA3394).mono ?_
                    rintro e_ w3395 ⟨rfl, hS⟩
                    replace HS : Aside0 (Sep (fps []) w [] w3395) := ⟨HS.out.call (l := []) (rest := []) hS⟩
                    clear hS
                    by_cases c3396 : t2761 = true
                    · have AL3389 := if_yes c3396 AL3389
                      have c3396b0 : t2761 = true := c3396
                      have c3396b1 : (!t2761) = false := by rw [c3396b0]; rfl
                      try rw [c3396b1]
                      clear c3396
                      go_wp2_with fail
                      go_roundg k3391
                      case measure => exact Nat.lt_succ_self _
                      case rel => exact ⟨(wrap64 (x3392 + 1)), (by first | rfl | (simp [IntKind.wrap_u32]; done)), Aside0.mk AL3389.out, ⟨(HS.out).keep (l := []) (rest := [])⟩⟩
                    · have AL3389 := if_no c3396 AL3389
                      have c3396b0 : t2761 = false := by simpa using c3396
                      have c3396b1 : (!t2761) = true := by rw [c3396b0]; rfl
                      try rw [c3396b1]
                      clear c3396
                      go_wp2_with fail
                      have ho := some_eq AL3389
                      subst ho
                      have H := lp_ret H
                      go_ret
                      rw [← some_eq H]
                      exact ⟨(by first | rfl | (simp [IntKind.wrap_u32]; done)), (HS.out).keep (l := []) (rest := [])⟩
                  · have AL3389 := if_no c3393 AL3389
                    have c3393b0 : decide (x3392 < (wrap64 (a2726))) = false := decide_eq_false c3393
                    clear c3393
                    have ho := some_eq AL3389
                    subst ho
                    clear AL3389
                    have H := lp_out H
                    go_wp2_with fail
                    obtain ⟨o3407, AL3408, H⟩ := bind_some H
                    go_loopg [13] k (fun kq v13 wc => ∃ (x3411 : Int), v13 = .int .i64 x3411 ∧ Aside0 (quitrentlaw08_ChainOrder.lo7 kq  x3411 = some o3407) ∧ Aside0 (Sep (fps []) w [] wc))
                    case atStart => exact ⟨(wrap64 ((Int.tmod (wrap64 (a2727)) (wrap64 (a2726))) - 1)), (by first | rfl | (simp [IntKind.wrap_u32]; done)), AL3408, ⟨HS.out⟩⟩
                    case round =>
                      clear AL3408 HS
                      obtain ⟨x3411, rfl, AL3408, HS⟩ := hrel
                      obtain ⟨w3409, rfl⟩ : ∃ x : World, x = wr := ⟨_, rfl⟩
                      cases gk with
                      | zero => exact absurd AL3408.out (by simp [quitrentlaw08_ChainOrder.lo7])
                      | succ k3410 =>
                        have AL0 := AL3408.out
                        rw [quitrentlaw08_ChainOrder.lo7] at AL0
                        clear AL3408
                        have AL3408 := Aside0.mk AL0
                        clear AL0
                        by_cases c3412 : x3411 ≥ 0
                        · have AL3408 := if_yes c3412 AL3408
                          have c3412b0 : decide (0 ≤ x3411) = true := decide_eq_true c3412
                          clear c3412
                          go_wp2_with fail
                          obtain ⟨t2794, HA3413, AL3408⟩ := bind_some AL3408
                          refine (chain_Push_nil.calls 1 x3411 t2794 _ ⟨HS.out.begin (l := []) (rest := [])⟩ HA3413).mono ?_
                          rintro e_ w3414 ⟨rfl, hS⟩
                          replace HS : Aside0 (Sep (fps []) w [] w3414) := ⟨HS.out.call (l := []) (rest := []) hS⟩
                          clear hS
                          by_cases c3415 : t2794 = true
                          · have AL3408 := if_yes c3415 AL3408
                            have c3415b0 : t2794 = true := c3415
                            have c3415b1 : (!t2794) = false := by rw [c3415b0]; rfl
                            try rw [c3415b1]
                            clear c3415
                            go_wp2_with fail
                            go_roundg k3410
                            case measure => exact Nat.lt_succ_self _
                            case rel => exact ⟨(wrap64 (x3411 - 1)), (by first | rfl | (simp [IntKind.wrap_u32]; done)), Aside0.mk AL3408.out, ⟨(HS.out).keep (l := []) (rest := [])⟩⟩
                          · have AL3408 := if_no c3415 AL3408
                            have c3415b0 : t2794 = false := by simpa using c3415
                            have c3415b1 : (!t2794) = true := by rw [c3415b0]; rfl
                            try rw [c3415b1]
                            clear c3415
                            go_wp2_with fail
                            have ho := some_eq AL3408
                            subst ho
                            have H := lp_ret H
                            go_ret
                            rw [← some_eq H]
                            exact ⟨(by first | rfl | (simp [IntKind.wrap_u32]; done)), (HS.out).keep (l := []) (rest := [])⟩
                        · have AL3408 := if_no c3412 AL3408
                          have c3412b0 : decide (0 ≤ x3411) = false := decide_eq_false c3412
                          clear c3412
                          have ho := some_eq AL3408
                          subst ho
                          clear AL3408
                          have H := lp_out H
                          go_wp2_with fail
                          obtain ⟨o3435, AL3436, H⟩ := bind_some H
                          go_loopg [14] k (fun kq v14 wc => ∃ (x3439 : Int), v14 = .int .i64 x3439 ∧ Aside0 (quitrentlaw08_ChainOrder.lo8 kq a2726 x3439 = some o3435) ∧ Aside0 (Sep (fps []) w [] wc))
                          case atStart => exact ⟨(0), (by first | rfl | (simp [IntKind.wrap_u32]; done)), AL3436, ⟨HS.out⟩⟩
                          case round =>
                            clear AL3436 HS
                            obtain ⟨x3439, rfl, AL3436, HS⟩ := hrel
                            obtain ⟨w3437, rfl⟩ : ∃ x : World, x = wr := ⟨_, rfl⟩
                            cases gk with
                            | zero => exact absurd AL3436.out (by simp [quitrentlaw08_ChainOrder.lo8])
                            | succ k3438 =>
                              have AL0 := AL3436.out
                              rw [quitrentlaw08_ChainOrder.lo8] at AL0
                              clear AL3436
                              have AL3436 := Aside0.mk AL0
                              clear AL0
                              by_cases c3440 : x3439 < (wrap64 (a2726))
                              · have AL3436 := if_yes c3440 AL3436
                                have c3440b0 : decide (x3439 < (wrap64 (a2726))) = true := decide_eq_true c3440
                                clear c3440
                                go_wp2_with fail
                                obtain ⟨t2827, HA3441, AL3436⟩ := bind_some AL3436
                                refine (chain_Take_nil.calls 1 t2827 _ ⟨HS.out.begin (l := []) (rest := [])⟩ HA3441).mono ?_
                                rintro e_ w3442 ⟨rfl, hS⟩
                                replace HS : Aside0 (Sep (fps []) w [] w3442) := ⟨HS.out.call (l := []) (rest := []) hS⟩
                                clear hS
                                by_cases c3443 : t2827.1 = x3439
                                · have AL3436 := if_yes c3443 AL3436
                                  have c3443b0 : (t2827.1 == x3439) = true := beq_iff_eq.mpr c3443
                                  have c3443b1 : (t2827.1 != x3439) = false := bne_eq_false_iff_eq.mpr c3443
                                  clear c3443
                                  by_cases c3444 : t2827.2 = true
                                  · have AL3436 := if_yes c3444 AL3436
                                    have c3444b0 : t2827.2 = true := c3444
                                    have c3444b1 : (!t2827.2) = false := by rw [c3444b0]; rfl
                                    try rw [c3444b1]
                                    clear c3444
                                    go_wp2_with fail
                                    obtain ⟨t2832, HA3445, AL3436⟩ := bind_some AL3436
                                    refine (chain_Add_nil.calls 0 t2827.1 t2832 _ ⟨HS.out.begin (l := []) (rest := [])⟩ HA3445).mono ?_
                                    rintro e_ w3446 ⟨rfl, hS⟩
                                    replace HS : Aside0 (Sep (fps []) w [] w3446) := ⟨HS.out.call (l := []) (rest := []) hS⟩
                                    clear hS
                                    by_cases c3447 : t2832 = true
                                    · have AL3436 := if_yes c3447 AL3436
                                      have c3447b0 : t2832 = true := c3447
                                      have c3447b1 : (!t2832) = false := by rw [c3447b0]; rfl
                                      try rw [c3447b1]
                                      clear c3447
                                      go_wp2_with fail
                                      obtain ⟨t2836, HA3448, AL3436⟩ := bind_some AL3436
                                      refine (chain_Len_nil.calls 1 t2836 _ ⟨HS.out.begin (l := []) (rest := [])⟩ HA3448).mono ?_
                                      rintro e_ w3449 ⟨rfl, hS⟩
                                      replace HS : Aside0 (Sep (fps []) w [] w3449) := ⟨HS.out.call (l := []) (rest := []) hS⟩
                                      clear hS
                                      go_wp2_with fail
                                      obtain ⟨t2839, HA3450, AL3436⟩ := bind_some AL3436
                                      refine (chain_Len_nil.calls 0 t2839 _ ⟨HS.out.begin (l := []) (rest := [])⟩ HA3450).mono ?_
                                      rintro e_ w3451 ⟨rfl, hS⟩
                                      replace HS : Aside0 (Sep (fps []) w [] w3451) := ⟨HS.out.call (l := []) (rest := []) hS⟩
                                      clear hS
                                      by_cases c3452 : (wrap64 (t2836 + t2839)) = (wrap64 (a2726))
                                      · have AL3436 := if_yes c3452 AL3436
                                        have c3452b0 : ((wrap64 (t2836 + t2839)) == (wrap64 (a2726))) = true := beq_iff_eq.mpr c3452
                                        have c3452b1 : ((wrap64 (t2836 + t2839)) != (wrap64 (a2726))) = false := bne_eq_false_iff_eq.mpr c3452
                                        clear c3452
                                        go_wp2_with fail
                                        go_roundg k3438
                                        case measure => exact Nat.lt_succ_self _
                                        case rel => exact ⟨(wrap64 (x3439 + 1)), (by first | rfl | (simp [IntKind.wrap_u32]; done)), Aside0.mk AL3436.out, ⟨(HS.out).keep (l := []) (rest := [])⟩⟩
                                      · have AL3436 := if_no c3452 AL3436
                                        have c3452b0 : ((wrap64 (t2836 + t2839)) == (wrap64 (a2726))) = false := beq_eq_false_iff_ne.mpr c3452
                                        have c3452b1 : ((wrap64 (t2836 + t2839)) != (wrap64 (a2726))) = true := bne_iff_ne.mpr c3452
                                        clear c3452
                                        go_wp2_with fail
                                        have ho := some_eq AL3436
                                        subst ho
                                        have H := lp_ret H
                                        go_ret
                                        rw [← some_eq H]
                                        exact ⟨(by first | rfl | (simp [IntKind.wrap_u32]; done)), (HS.out).keep (l := []) (rest := [])⟩
                                    · have AL3436 := if_no c3447 AL3436
                                      have c3447b0 : t2832 = false := by simpa using c3447
                                      have c3447b1 : (!t2832) = true := by rw [c3447b0]; rfl
                                      try rw [c3447b1]
                                      clear c3447
                                      go_wp2_with fail
                                      have ho := some_eq AL3436
                                      subst ho
                                      have H := lp_ret H
                                      go_ret
                                      rw [← some_eq H]
                                      exact ⟨(by first | rfl | (simp [IntKind.wrap_u32]; done)), (HS.out).keep (l := []) (rest := [])⟩
                                  · have AL3436 := if_no c3444 AL3436
                                    have c3444b0 : t2827.2 = false := by simpa using c3444
                                    have c3444b1 : (!t2827.2) = true := by rw [c3444b0]; rfl
                                    try rw [c3444b1]
                                    clear c3444
                                    go_wp2_with fail
                                    have ho := some_eq AL3436
                                    subst ho
                                    have H := lp_ret H
                                    go_ret
                                    rw [← some_eq H]
                                    exact ⟨(by first | rfl | (simp [IntKind.wrap_u32]; done)), (HS.out).keep (l := []) (rest := [])⟩
                                · have AL3436 := if_no c3443 AL3436
                                  have c3443b0 : (t2827.1 == x3439) = false := beq_eq_false_iff_ne.mpr c3443
                                  have c3443b1 : (t2827.1 != x3439) = true := bne_iff_ne.mpr c3443
                                  clear c3443
                                  go_wp2_with fail
                                  have ho := some_eq AL3436
                                  subst ho
                                  have H := lp_ret H
                                  go_ret
                                  rw [← some_eq H]
                                  exact ⟨(by first | rfl | (simp [IntKind.wrap_u32]; done)), (HS.out).keep (l := []) (rest := [])⟩
                              · have AL3436 := if_no c3440 AL3436
                                have c3440b0 : decide (x3439 < (wrap64 (a2726))) = false := decide_eq_false c3440
                                clear c3440
                                have ho := some_eq AL3436
                                subst ho
                                clear AL3436
                                have H := lp_out H
                                go_wp2_with fail
                                obtain ⟨t2883, HA3453, H⟩ := bind_some H
                                refine (chain_Take_nil.calls 1 t2883 _ ⟨HS.out.begin (l := []) (rest := [])⟩ HA3453).mono ?_
                                rintro e_ w3454 ⟨rfl, hS⟩
                                replace HS : Aside0 (Sep (fps []) w [] w3454) := ⟨HS.out.call (l := []) (rest := []) hS⟩
                                clear hS
                                by_cases c3455 : t2883.2 = true
                                · have H := if_yes c3455 H
                                  have c3455b0 : t2883.2 = true := c3455
                                  have c3455b1 : (!t2883.2) = false := by rw [c3455b0]; rfl
                                  try rw [c3455b1]
                                  clear c3455
                                  go_wp2_with fail
                                  go_ret
                                  rw [← some_eq H]
                                  exact ⟨(by first | rfl | (simp [IntKind.wrap_u32]; done)), (HS.out).keep (l := []) (rest := [])⟩
                                · have H := if_no c3455 H
                                  have c3455b0 : t2883.2 = false := by simpa using c3455
                                  have c3455b1 : (!t2883.2) = true := by rw [c3455b0]; rfl
                                  try rw [c3455b1]
                                  clear c3455
                                  go_wp2_with fail
                                  obtain ⟨t2887, HA3456, H⟩ := bind_some H
                                  refine (chain_List_nil.calls _ 0 t2887 _ ⟨HS.out.begin (l := []) (rest := [])⟩ HA3456).mono ?_
                                  rintro e_ w3457 ⟨A3459, m3460, n3461, rfl, hS⟩
                                  replace HS : Aside0 (Sep (fps []) w [r11 A3459 m3460 n3461 t2887] w3457) := ⟨HS.out.call (l := []) (rest := []) hS⟩
                                  clear hS
                                  obtain rfl := (row_len (HS.out.at0)).symm
                                  by_cases c3463 : (t2887.length : Int) = (wrap64 (a2726))
                                  · have H := if_yes c3463 H
                                    have c3463b0 : ((t2887.length : Int) == (wrap64 (a2726))) = true := beq_iff_eq.mpr c3463
                                    have c3463b1 : ((t2887.length : Int) != (wrap64 (a2726))) = false := bne_eq_false_iff_eq.mpr c3463
                                    clear c3463
                                    go_wp2_with fail
                                    obtain ⟨t2896, HA3464, H⟩ := bind_some H
                                    refine (quitrentlaw08_begun.calls _ t2896 _ ⟨HS.out.begin (l := []) (rest := [r11 A3459 t2887.length n3461 t2887])⟩ HA3464).mono ?_
                                    rintro e_ w3465 ⟨rfl, hS⟩
                                    replace HS : Aside0 (Sep (fps []) w [r11 A3459 t2887.length n3461 t2887] w3465) := ⟨HS.out.call (l := []) (rest := [r11 A3459 t2887.length n3461 t2887]) hS⟩
                                    clear hS
                                    replace HS : Aside0 (Sep (fps []) w [] w3465) := ⟨HS.out.sub (.cons _ .slnil)⟩
                                    go_wp2_with fail
                                    go_ret
                                    rw [← some_eq H]
                                    exact ⟨(by first | rfl | (simp [IntKind.wrap_u32]; done)), (HS.out).keep (l := []) (rest := [])⟩
                                  · have H := if_no c3463 H
                                    have c3463b0 : ((t2887.length : Int) == (wrap64 (a2726))) = false := beq_eq_false_iff_ne.mpr c3463
                                    have c3463b1 : ((t2887.length : Int) != (wrap64 (a2726))) = true := bne_iff_ne.mpr c3463
                                    clear c3463
                                    replace HS : Aside0 (Sep (fps []) w [] w3457) := ⟨HS.out.sub (.cons _ .slnil)⟩
                                    go_wp2_with fail
                                    go_ret
                                    rw [← some_eq H]
                                    exact ⟨(by first | rfl | (simp [IntKind.wrap_u32]; done)), (HS.out).keep (l := []) (rest := [])⟩
          · have H := if_no c3376 H
            have c3376b0 : a2728 = false := by simpa using c3376
            have c3376b1 : (!a2728) = true := by rw [c3376b0]; rfl
            clear c3376
            by_cases c3627 : (wrap64 (a2726)) = 0
            · have H := if_yes c3627 H
              have c3627b0 : ((wrap64 (a2726)) == 0) = true := beq_iff_eq.mpr c3627
              have c3627b1 : ((wrap64 (a2726)) != 0) = false := bne_eq_false_iff_eq.mpr c3627
              exact (none_no H).elim
            · have H := if_no c3627 H
              have c3627b0 : ((wrap64 (a2726)) == 0) = false := beq_eq_false_iff_ne.mpr c3627
              have c3627b1 : ((wrap64 (a2726)) != 0) = true := bne_iff_ne.mpr c3627
              skip
              go_wp2_with fail
              clear c3627
              obtain ⟨o3638, AL3639, H⟩ := bind_some H
              go_loopg [12] k (fun kq v12 wc => ∃ (x3642 : Int), v12 = .int .i64 x3642 ∧ Aside0 (quitrentlaw08_ChainOrder.lo9 kq a2726 x3642 = some o3638) ∧ Aside0 (Sep (fps []) w [] wc))
              case atStart => exact ⟨(Int.tmod (wrap64 (a2727)) (wrap64 (a2726))), (by first | rfl | (simp [IntKind.wrap_u32]; done)), AL3639, ⟨HS.out⟩⟩
              case round =>
                clear AL3639 HS
                obtain ⟨x3642, rfl, AL3639, HS⟩ := hrel
                obtain ⟨w3640, rfl⟩ : ∃ x : World, x = wr := ⟨_, rfl⟩
                cases gk with
                | zero => exact absurd AL3639.out (by simp [quitrentlaw08_ChainOrder.lo9])
                | succ k3641 =>
                  have AL0 := AL3639.out
                  rw [quitrentlaw08_ChainOrder.lo9] at AL0
                  clear AL3639
                  have AL3639 := Aside0.mk AL0
                  clear AL0
                  by_cases c3643 : x3642 < (wrap64 (a2726))
                  · have AL3639 := if_yes c3643 AL3639
                    have c3643b0 : decide (x3642 < (wrap64 (a2726))) = true := decide_eq_true c3643
                    clear c3643
                    go_wp2_with fail
                    obtain ⟨t2761, HA3644, AL3639⟩ := bind_some AL3639
                    refine (chain_Add_nil.calls 0 x3642 t2761 _ ⟨HS.out.begin (l := []) (rest := [])⟩ HA3644).mono ?_
                    rintro e_ w3645 ⟨rfl, hS⟩
                    replace HS : Aside0 (Sep (fps []) w [] w3645) := ⟨HS.out.call (l := []) (rest := []) hS⟩
                    clear hS
                    by_cases c3646 : t2761 = true
                    · have AL3639 := if_yes c3646 AL3639
                      have c3646b0 : t2761 = true := c3646
                      have c3646b1 : (!t2761) = false := by rw [c3646b0]; rfl
                      try rw [c3646b1]
                      clear c3646
                      go_wp2_with fail
                      go_roundg k3641
                      case measure => exact Nat.lt_succ_self _
                      case rel => exact ⟨(wrap64 (x3642 + 1)), (by first | rfl | (simp [IntKind.wrap_u32]; done)), Aside0.mk AL3639.out, ⟨(HS.out).keep (l := []) (rest := [])⟩⟩
                    · have AL3639 := if_no c3646 AL3639
                      have c3646b0 : t2761 = false := by simpa using c3646
                      have c3646b1 : (!t2761) = true := by rw [c3646b0]; rfl
                      try rw [c3646b1]
                      clear c3646
                      go_wp2_with fail
                      have ho := some_eq AL3639
                      subst ho
                      have H := lp_ret H
                      go_ret
                      rw [← some_eq H]
                      exact ⟨(by first | rfl | (simp [IntKind.wrap_u32]; done)), (HS.out).keep (l := []) (rest := [])⟩
                  · have AL3639 := if_no c3643 AL3639
                    have c3643b0 : decide (x3642 < (wrap64 (a2726))) = false := decide_eq_false c3643
                    clear c3643
                    have ho := some_eq AL3639
                    subst ho
                    clear AL3639
                    have H := lp_out H
                    go_wp2_with fail
                    obtain ⟨o3657, AL3658, H⟩ := bind_some H
                    go_loopg [13] k (fun kq v13 wc => ∃ (x3661 : Int), v13 = .int .i64 x3661 ∧ Aside0 (quitrentlaw08_ChainOrder.lo10 kq  x3661 = some o3657) ∧ Aside0 (Sep (fps []) w [] wc))
                    case atStart => exact ⟨(wrap64 ((Int.tmod (wrap64 (a2727)) (wrap64 (a2726))) - 1)), (by first | rfl | (simp [IntKind.wrap_u32]; done)), AL3658, ⟨HS.out⟩⟩
                    case round =>
                      clear AL3658 HS
                      obtain ⟨x3661, rfl, AL3658, HS⟩ := hrel
                      obtain ⟨w3659, rfl⟩ : ∃ x : World, x = wr := ⟨_, rfl⟩
                      cases gk with
                      | zero => exact absurd AL3658.out (by simp [quitrentlaw08_ChainOrder.lo10])
                      | succ k3660 =>
                        have AL0 := AL3658.out
                        rw [quitrentlaw08_ChainOrder.lo10] at AL0
                        clear AL3658
                        have AL3658 := Aside0.mk AL0
                        clear AL0
                        by_cases c3662 : x3661 ≥ 0
                        · have AL3658 := if_yes c3662 AL3658
                          have c3662b0 : decide (0 ≤ x3661) = true := decide_eq_true c3662
                          clear c3662
                          go_wp2_with fail
                          obtain ⟨t2794, HA3663, AL3658⟩ := bind_some AL3658
                          refine (chain_Push_nil.calls 0 x3661 t2794 _ ⟨HS.out.begin (l := []) (rest := [])⟩ HA3663).mono ?_
                          rintro e_ w3664 ⟨rfl, hS⟩
                          replace HS : Aside0 (Sep (fps []) w [] w3664) := ⟨HS.out.call (l := []) (rest := []) hS⟩
                          clear hS
                          by_cases c3665 : t2794 = true
                          · have AL3658 := if_yes c3665 AL3658
                            have c3665b0 : t2794 = true := c3665
                            have c3665b1 : (!t2794) = false := by rw [c3665b0]; rfl
                            try rw [c3665b1]
                            clear c3665
                            go_wp2_with fail
                            go_roundg k3660
                            case measure => exact Nat.lt_succ_self _
                            case rel => exact ⟨(wrap64 (x3661 - 1)), (by first | rfl | (simp [IntKind.wrap_u32]; done)), Aside0.mk AL3658.out, ⟨(HS.out).keep (l := []) (rest := [])⟩⟩
                          · have AL3658 := if_no c3665 AL3658
                            have c3665b0 : t2794 = false := by simpa using c3665
                            have c3665b1 : (!t2794) = true := by rw [c3665b0]; rfl
                            try rw [c3665b1]
                            clear c3665
                            go_wp2_with fail
                            have ho := some_eq AL3658
                            subst ho
                            have H := lp_ret H
                            go_ret
                            rw [← some_eq H]
                            exact ⟨(by first | rfl | (simp [IntKind.wrap_u32]; done)), (HS.out).keep (l := []) (rest := [])⟩
                        · have AL3658 := if_no c3662 AL3658
                          have c3662b0 : decide (0 ≤ x3661) = false := decide_eq_false c3662
                          clear c3662
                          have ho := some_eq AL3658
                          subst ho
                          clear AL3658
                          have H := lp_out H
                          go_wp2_with fail
                          obtain ⟨o3685, AL3686, H⟩ := bind_some H
                          go_loopg [14] k (fun kq v14 wc => ∃ (x3689 : Int), v14 = .int .i64 x3689 ∧ Aside0 (quitrentlaw08_ChainOrder.lo11 kq a2726 x3689 = some o3685) ∧ Aside0 (Sep (fps []) w [] wc))
                          case atStart => exact ⟨(0), (by first | rfl | (simp [IntKind.wrap_u32]; done)), AL3686, ⟨HS.out⟩⟩
                          case round =>
                            clear AL3686 HS
                            obtain ⟨x3689, rfl, AL3686, HS⟩ := hrel
                            obtain ⟨w3687, rfl⟩ : ∃ x : World, x = wr := ⟨_, rfl⟩
                            cases gk with
                            | zero => exact absurd AL3686.out (by simp [quitrentlaw08_ChainOrder.lo11])
                            | succ k3688 =>
                              have AL0 := AL3686.out
                              rw [quitrentlaw08_ChainOrder.lo11] at AL0
                              clear AL3686
                              have AL3686 := Aside0.mk AL0
                              clear AL0
                              by_cases c3690 : x3689 < (wrap64 (a2726))
                              · have AL3686 := if_yes c3690 AL3686
                                have c3690b0 : decide (x3689 < (wrap64 (a2726))) = true := decide_eq_true c3690
                                clear c3690
                                go_wp2_with fail
                                obtain ⟨t2827, HA3691, AL3686⟩ := bind_some AL3686
                                refine (chain_Take_nil.calls 0 t2827 _ ⟨HS.out.begin (l := []) (rest := [])⟩ HA3691).mono ?_
                                rintro e_ w3692 ⟨rfl, hS⟩
                                replace HS : Aside0 (Sep (fps []) w [] w3692) := ⟨HS.out.call (l := []) (rest := []) hS⟩
                                clear hS
                                by_cases c3693 : t2827.1 = x3689
                                · have AL3686 := if_yes c3693 AL3686
                                  have c3693b0 : (t2827.1 == x3689) = true := beq_iff_eq.mpr c3693
                                  have c3693b1 : (t2827.1 != x3689) = false := bne_eq_false_iff_eq.mpr c3693
                                  clear c3693
                                  by_cases c3694 : t2827.2 = true
                                  · have AL3686 := if_yes c3694 AL3686
                                    have c3694b0 : t2827.2 = true := c3694
                                    have c3694b1 : (!t2827.2) = false := by rw [c3694b0]; rfl
                                    try rw [c3694b1]
                                    clear c3694
                                    go_wp2_with fail
                                    obtain ⟨t2832, HA3695, AL3686⟩ := bind_some AL3686
                                    refine (chain_Add_nil.calls 1 t2827.1 t2832 _ ⟨HS.out.begin (l := []) (rest := [])⟩ HA3695).mono ?_
                                    rintro e_ w3696 ⟨rfl, hS⟩
                                    replace HS : Aside0 (Sep (fps []) w [] w3696) := ⟨HS.out.call (l := []) (rest := []) hS⟩
                                    clear hS
                                    by_cases c3697 : t2832 = true
                                    · have AL3686 := if_yes c3697 AL3686
                                      have c3697b0 : t2832 = true := c3697
                                      have c3697b1 : (!t2832) = false := by rw [c3697b0]; rfl
                                      try rw [c3697b1]
                                      clear c3697
                                      go_wp2_with fail
                                      obtain ⟨t2836, HA3698, AL3686⟩ := bind_some AL3686
                                      refine (chain_Len_nil.calls 0 t2836 _ ⟨HS.out.begin (l := []) (rest := [])⟩ HA3698).mono ?_
                                      rintro e_ w3699 ⟨rfl, hS⟩
                                      replace HS : Aside0 (Sep (fps []) w [] w3699) := ⟨HS.out.call (l := []) (rest := []) hS⟩
                                      clear hS
                                      go_wp2_with fail
                                      obtain ⟨t2839, HA3700, AL3686⟩ := bind_some AL3686
                                      refine (chain_Len_nil.calls 1 t2839 _ ⟨HS.out.begin (l := []) (rest := [])⟩ HA3700).mono ?_
                                      rintro e_ w3701 ⟨rfl, hS⟩
                                      replace HS : Aside0 (Sep (fps []) w [] w3701) := ⟨HS.out.call (l := []) (rest := []) hS⟩
                                      clear hS
                                      by_cases c3702 : (wrap64 (t2836 + t2839)) = (wrap64 (a2726))
                                      · have AL3686 := if_yes c3702 AL3686
                                        have c3702b0 : ((wrap64 (t2836 + t2839)) == (wrap64 (a2726))) = true := beq_iff_eq.mpr c3702
                                        have c3702b1 : ((wrap64 (t2836 + t2839)) != (wrap64 (a2726))) = false := bne_eq_false_iff_eq.mpr c3702
                                        clear c3702
                                        go_wp2_with fail
                                        go_roundg k3688
                                        case measure => exact Nat.lt_succ_self _
                                        case rel => exact ⟨(wrap64 (x3689 + 1)), (by first | rfl | (simp [IntKind.wrap_u32]; done)), Aside0.mk AL3686.out, ⟨(HS.out).keep (l := []) (rest := [])⟩⟩
                                      · have AL3686 := if_no c3702 AL3686
                                        have c3702b0 : ((wrap64 (t2836 + t2839)) == (wrap64 (a2726))) = false := beq_eq_false_iff_ne.mpr c3702
                                        have c3702b1 : ((wrap64 (t2836 + t2839)) != (wrap64 (a2726))) = true := bne_iff_ne.mpr c3702
                                        clear c3702
                                        go_wp2_with fail
                                        have ho := some_eq AL3686
                                        subst ho
                                        have H := lp_ret H
                                        go_ret
                                        rw [← some_eq H]
                                        exact ⟨(by first | rfl | (simp [IntKind.wrap_u32]; done)), (HS.out).keep (l := []) (rest := [])⟩
                                    · have AL3686 := if_no c3697 AL3686
                                      have c3697b0 : t2832 = false := by simpa using c3697
                                      have c3697b1 : (!t2832) = true := by rw [c3697b0]; rfl
                                      try rw [c3697b1]
                                      clear c3697
                                      go_wp2_with fail
                                      have ho := some_eq AL3686
                                      subst ho
                                      have H := lp_ret H
                                      go_ret
                                      rw [← some_eq H]
                                      exact ⟨(by first | rfl | (simp [IntKind.wrap_u32]; done)), (HS.out).keep (l := []) (rest := [])⟩
                                  · have AL3686 := if_no c3694 AL3686
                                    have c3694b0 : t2827.2 = false := by simpa using c3694
                                    have c3694b1 : (!t2827.2) = true := by rw [c3694b0]; rfl
                                    try rw [c3694b1]
                                    clear c3694
                                    go_wp2_with fail
                                    have ho := some_eq AL3686
                                    subst ho
                                    have H := lp_ret H
                                    go_ret
                                    rw [← some_eq H]
                                    exact ⟨(by first | rfl | (simp [IntKind.wrap_u32]; done)), (HS.out).keep (l := []) (rest := [])⟩
                                · have AL3686 := if_no c3693 AL3686
                                  have c3693b0 : (t2827.1 == x3689) = false := beq_eq_false_iff_ne.mpr c3693
                                  have c3693b1 : (t2827.1 != x3689) = true := bne_iff_ne.mpr c3693
                                  clear c3693
                                  go_wp2_with fail
                                  have ho := some_eq AL3686
                                  subst ho
                                  have H := lp_ret H
                                  go_ret
                                  rw [← some_eq H]
                                  exact ⟨(by first | rfl | (simp [IntKind.wrap_u32]; done)), (HS.out).keep (l := []) (rest := [])⟩
                              · have AL3686 := if_no c3690 AL3686
                                have c3690b0 : decide (x3689 < (wrap64 (a2726))) = false := decide_eq_false c3690
                                clear c3690
                                have ho := some_eq AL3686
                                subst ho
                                clear AL3686
                                have H := lp_out H
                                go_wp2_with fail
                                obtain ⟨t2883, HA3703, H⟩ := bind_some H
                                refine (chain_Take_nil.calls 0 t2883 _ ⟨HS.out.begin (l := []) (rest := [])⟩ HA3703).mono ?_
                                rintro e_ w3704 ⟨rfl, hS⟩
                                replace HS : Aside0 (Sep (fps []) w [] w3704) := ⟨HS.out.call (l := []) (rest := []) hS⟩
                                clear hS
                                by_cases c3705 : t2883.2 = true
                                · have H := if_yes c3705 H
                                  have c3705b0 : t2883.2 = true := c3705
                                  have c3705b1 : (!t2883.2) = false := by rw [c3705b0]; rfl
                                  try rw [c3705b1]
                                  clear c3705
                                  go_wp2_with fail
                                  go_ret
                                  rw [← some_eq H]
                                  exact ⟨(by first | rfl | (simp [IntKind.wrap_u32]; done)), (HS.out).keep (l := []) (rest := [])⟩
                                · have H := if_no c3705 H
                                  have c3705b0 : t2883.2 = false := by simpa using c3705
                                  have c3705b1 : (!t2883.2) = true := by rw [c3705b0]; rfl
                                  try rw [c3705b1]
                                  clear c3705
                                  go_wp2_with fail
                                  obtain ⟨t2887, HA3706, H⟩ := bind_some H
                                  refine (chain_List_nil.calls _ 1 t2887 _ ⟨HS.out.begin (l := []) (rest := [])⟩ HA3706).mono ?_
                                  rintro e_ w3707 ⟨A3709, m3710, n3711, rfl, hS⟩
                                  replace HS : Aside0 (Sep (fps []) w [r11 A3709 m3710 n3711 t2887] w3707) := ⟨HS.out.call (l := []) (rest := []) hS⟩
                                  clear hS
                                  obtain rfl := (row_len (HS.out.at0)).symm
                                  by_cases c3713 : (t2887.length : Int) = (wrap64 (a2726))
                                  · have H := if_yes c3713 H
                                    have c3713b0 : ((t2887.length : Int) == (wrap64 (a2726))) = true := beq_iff_eq.mpr c3713
                                    have c3713b1 : ((t2887.length : Int) != (wrap64 (a2726))) = false := bne_eq_false_iff_eq.mpr c3713
                                    clear c3713
                                    go_wp2_with fail
                                    obtain ⟨t2896, HA3714, H⟩ := bind_some H
                                    refine (quitrentlaw08_begun.calls _ t2896 _ ⟨HS.out.begin (l := []) (rest := [r11 A3709 t2887.length n3711 t2887])⟩ HA3714).mono ?_
                                    rintro e_ w3715 ⟨rfl, hS⟩
                                    replace HS : Aside0 (Sep (fps []) w [r11 A3709 t2887.length n3711 t2887] w3715) := ⟨HS.out.call (l := []) (rest := [r11 A3709 t2887.length n3711 t2887]) hS⟩
                                    clear hS
                                    replace HS : Aside0 (Sep (fps []) w [] w3715) := ⟨HS.out.sub (.cons _ .slnil)⟩
                                    go_wp2_with fail
                                    go_ret
                                    rw [← some_eq H]
                                    exact ⟨(by first | rfl | (simp [IntKind.wrap_u32]; done)), (HS.out).keep (l := []) (rest := [])⟩
                                  · have H := if_no c3713 H
                                    have c3713b0 : ((t2887.length : Int) == (wrap64 (a2726))) = false := beq_eq_false_iff_ne.mpr c3713
                                    have c3713b1 : ((t2887.length : Int) != (wrap64 (a2726))) = true := bne_iff_ne.mpr c3713
                                    clear c3713
                                    replace HS : Aside0 (Sep (fps []) w [] w3707) := ⟨HS.out.sub (.cons _ .slnil)⟩
                                    go_wp2_with fail
                                    go_ret
                                    rw [← some_eq H]
                                    exact ⟨(by first | rfl | (simp [IntKind.wrap_u32]; done)), (HS.out).keep (l := []) (rest := [])⟩
        · have H := if_no c3375 H
          have c3375b0 : (t2740 == 0) = false := beq_eq_false_iff_ne.mpr c3375
          have c3375b1 : (t2740 != 0) = true := bne_iff_ne.mpr c3375
          clear c3375
          go_wp2_with fail
          go_ret
          rw [← some_eq H]
          exact ⟨(by first | rfl | (simp [IntKind.wrap_u32]; done)), (HS.out).keep (l := []) (rest := [])⟩
end Go.Proofs.Ytobeonkddamnoaa.C

/- Each function of the group Po does what its plain function says, and changes nothing that was there; proved by walking its code. No condition. -/
import Derived.Test.YtobeonkddamnoaaQw
import Derived.Test.YtobeonkddamnoaaMPo
import Derived.Test.YtobeonkddamnoaaGPo0
import Derived.Test.YtobeonkddamnoaaGPo1
namespace Go.Proofs.Ytobeonkddamnoaa.C
open Go.RowKit Go.Proofs.YtobeonkddamnoaaW.PrintWords Go.Proofs.YtobeonkddamnoaaW.PrintLast Go.Proofs.YtobeonkddamnoaaW.PrintMore Go.Proofs.Ytobeonkddamnoaa.Q Go.Proofs.Ytobeonkddamnoaa.M
set_option linter.unusedVariables false
set_option linter.unusedSimpArgs false
set_option maxHeartbeats 30000000 in
set_option maxRecDepth 100000 in
theorem chain_put_F90.calls (l2218 : List Int) (a2223 : Int) (a2224 : Int) (a2225 : Int) (a2226 : Int) (a2227 : Int) (a2228 : Int) (a2229 : Int) (a2234 : Int) (g2214 : Nat) (g2216 : Nat) (A2219 : Option Addr) (m2220 : Nat) (n2221 : Nat) (g2231 : Nat) (g2233 : Nat) (r : Bool × Int × List Int) (w : World)   (HS : Aside0 (Sep (fps [b13 g2214 g2216 a2224 a2225 a2226 a2227, b12 g2216 A2219 m2220 n2221 a2223, r11 A2219 m2220 n2221 l2218, b14 g2231 g2214, b6 g2233 a2234]) w [b13 g2214 g2216 a2224 a2225 a2226 a2227, b12 g2216 A2219 m2220 n2221 a2223, r11 A2219 m2220 n2221 l2218, b14 g2231 g2214, b6 g2233 a2234] w)) (H : Aside0 (chain_put_F90.f l2218 a2223 a2224 a2225 a2226 a2227 a2228 a2229 a2234 = some r)) :
    Calls Try.prog 88 #[.pointer (some ⟨g2214, 0, none⟩), .int .i64 a2228, .int .i64 a2229, .func (.func 90) #[] #[.pointer (some ⟨g2231, 0, none⟩), .pointer (some ⟨g2233, 0, none⟩)]] w fun e w' => e = .returned (.bool r.1) ∧ Sep (fps [b13 g2214 g2216 a2224 a2225 a2226 a2227, b12 g2216 A2219 m2220 n2221 a2223, r11 A2219 m2220 n2221 l2218, b14 g2231 g2214, b6 g2233 a2234]) w [b13 g2214 g2216 a2224 a2225 a2226 a2227, b12 g2216 A2219 m2220 n2221 r.2.1, r11 A2219 m2220 n2221 r.2.2, b14 g2231 g2214, b6 g2233 a2234] w' := by
  generalize (fps [b13 g2214 g2216 a2224 a2225 a2226 a2227, b12 g2216 A2219 m2220 n2221 a2223, r11 A2219 m2220 n2221 l2218, b14 g2231 g2214, b6 g2233 a2234]) = FF at HS ⊢
  obtain rfl := (row_len (HS.out.at2)).symm
  unfold chain_put_F90.f at H
  go_enter Try.func88, Try.ntmps88
  go_wp2_with fail
  obtain ⟨t2338, HA2339, H⟩ := bind_some H
  refine (chain_of.calls l2218 a2223 a2224 a2225 a2226 a2227 a2228 g2214 g2216 A2219 l2218.length n2221 t2338 _ ⟨HS.out.begin⟩ HA2339).mono ?_
  rintro e_ w2340 ⟨rfl, hS⟩
  replace HS : Aside0 (Sep FF w [b13 g2214 g2216 a2224 a2225 a2226 a2227, b12 g2216 A2219 l2218.length n2221 a2223, r11 A2219 l2218.length n2221 l2218, b14 g2231 g2214, b6 g2233 a2234] w2340) := ⟨HS.out.call hS⟩
  clear hS
  by_cases c2351 : t2338.2.2.2 = true
  · have H := if_yes c2351 H
    have c2351b0 : t2338.2.2.2 = true := c2351
    have c2351b1 : (!t2338.2.2.2) = false := by rw [c2351b0]; rfl
    try rw [c2351b1]
    clear c2351
    by_cases c2352 : a2229 < 0
    · have H := if_yes c2352 H
      have c2352b0 : decide (a2229 < 0) = true := decide_eq_true c2352
      clear c2352
      go_wp2_with (first | ((with_reducible refine gate_dst (N := 9) rfl ?_); refine box_on ?hg (N := 9) ?hd (cs := #[.int .i64 0, .int .i64 0, .int .i64 0]) (t := 134) ?hr ?_; (case hd => rfl); (case hg => rfl); (case hr => first | (go_simp; done) | (go_simp; rfl)); intro g2341 hg w2342 hbox hb; replace HS : Aside0 (Sep FF w [b13 g2214 g2216 a2224 a2225 a2226 a2227, b12 g2216 A2219 l2218.length n2221 a2223, r11 A2219 l2218.length n2221 l2218, b14 g2231 g2214, b6 g2233 a2234, b1 g2341 0 0 0] w2342) := ⟨HS.out.box hg hbox hb⟩; clear hg hbox hb; have hc2344 : w2342.cell? ⟨g2341, 0, none⟩ = some (.int .i64 0) := blk_cellv (HS.out.at5) 0 rfl; have hz2345 : w2342.frozen? ⟨g2341, 0, none⟩ = false := blk_fz (HS.out.at5) 0; have hc2346 : w2342.cell? ⟨g2341, 1, none⟩ = some (.int .i64 0) := blk_cellv (HS.out.at5) 1 rfl; have hz2347 : w2342.frozen? ⟨g2341, 1, none⟩ = false := blk_fz (HS.out.at5) 1; have hc2348 : w2342.cell? ⟨g2341, 2, none⟩ = some (.int .i64 0) := blk_cellv (HS.out.at5) 2 rfl; have hz2349 : w2342.frozen? ⟨g2341, 2, none⟩ = false := blk_fz (HS.out.at5) 2) | ((with_reducible refine gate_store (t := 134) (p := 9) rfl ?_); refine store_event (w1 := (World.setCell (World.setCell (World.setCell w2342 ⟨g2341, 0, none⟩ (.int .i64 t2338.1)) ⟨g2341, 1, none⟩ (.int .i64 t2338.2.1)) ⟨g2341, 2, none⟩ (.int .i64 t2338.2.2.1))) rfl (t := 134) (p := 9) rfl rfl ?hr ?_; (case hr => first | (go_simp; done) | (go_simp; rfl)); intro w2350 hst; clear hc2344 hz2345 hc2346 hz2347 hc2348 hz2349; replace HS : Aside0 (Sep FF w [b13 g2214 g2216 a2224 a2225 a2226 a2227, b12 g2216 A2219 l2218.length n2221 a2223, r11 A2219 l2218.length n2221 l2218, b14 g2231 g2214, b6 g2233 a2234, b1 g2341 t2338.1 t2338.2.1 t2338.2.2.1] w2350) := ⟨by rw [hst]; exact HS.out.setAll (l1 := [b13 g2214 g2216 a2224 a2225 a2226 a2227, b12 g2216 A2219 l2218.length n2221 a2223, r11 A2219 l2218.length n2221 l2218, b14 g2231 g2214, b6 g2233 a2234]) (l2 := []) [.int .i64 t2338.1, .int .i64 t2338.2.1, .int .i64 t2338.2.2.1] rfl⟩; clear hst; replace HS : Aside0 (Sep FF w [b13 g2214 g2216 a2224 a2225 a2226 a2227, b12 g2216 A2219 l2218.length n2221 a2223, r11 A2219 l2218.length n2221 l2218, b14 g2231 g2214, b6 g2233 a2234] w2350) := ⟨HS.out.sub (.cons_cons _ (.cons_cons _ (.cons_cons _ (.cons_cons _ (.cons_cons _ (.cons _ .slnil))))))⟩))
      go_ret
      rw [← some_eq H]
      exact ⟨(by first | rfl | (simp [IntKind.wrap_u32]; done)), HS.out⟩
    · have H := if_no c2352 H
      have c2352b0 : decide (a2229 < 0) = false := decide_eq_false c2352
      clear c2352
      go_wp2_with (first | ((with_reducible refine gate_dst (N := 9) rfl ?_); refine box_on ?hg (N := 9) ?hd (cs := #[.int .i64 0, .int .i64 0, .int .i64 0]) (t := 134) ?hr ?_; (case hd => rfl); (case hg => rfl); (case hr => first | (go_simp; done) | (go_simp; rfl)); intro g2341 hg w2342 hbox hb; replace HS : Aside0 (Sep FF w [b13 g2214 g2216 a2224 a2225 a2226 a2227, b12 g2216 A2219 l2218.length n2221 a2223, r11 A2219 l2218.length n2221 l2218, b14 g2231 g2214, b6 g2233 a2234, b1 g2341 0 0 0] w2342) := ⟨HS.out.box hg hbox hb⟩; clear hg hbox hb; have hc2344 : w2342.cell? ⟨g2341, 0, none⟩ = some (.int .i64 0) := blk_cellv (HS.out.at5) 0 rfl; have hz2345 : w2342.frozen? ⟨g2341, 0, none⟩ = false := blk_fz (HS.out.at5) 0; have hc2346 : w2342.cell? ⟨g2341, 1, none⟩ = some (.int .i64 0) := blk_cellv (HS.out.at5) 1 rfl; have hz2347 : w2342.frozen? ⟨g2341, 1, none⟩ = false := blk_fz (HS.out.at5) 1; have hc2348 : w2342.cell? ⟨g2341, 2, none⟩ = some (.int .i64 0) := blk_cellv (HS.out.at5) 2 rfl; have hz2349 : w2342.frozen? ⟨g2341, 2, none⟩ = false := blk_fz (HS.out.at5) 2) | ((with_reducible refine gate_store (t := 134) (p := 9) rfl ?_); refine store_event (w1 := (World.setCell (World.setCell (World.setCell w2342 ⟨g2341, 0, none⟩ (.int .i64 t2338.1)) ⟨g2341, 1, none⟩ (.int .i64 t2338.2.1)) ⟨g2341, 2, none⟩ (.int .i64 t2338.2.2.1))) rfl (t := 134) (p := 9) rfl rfl ?hr ?_; (case hr => first | (go_simp; done) | (go_simp; rfl)); intro w2350 hst; clear hc2344 hz2345 hc2346 hz2347 hc2348 hz2349; replace HS : Aside0 (Sep FF w [b13 g2214 g2216 a2224 a2225 a2226 a2227, b12 g2216 A2219 l2218.length n2221 a2223, r11 A2219 l2218.length n2221 l2218, b14 g2231 g2214, b6 g2233 a2234, b1 g2341 t2338.1 t2338.2.1 t2338.2.2.1] w2350) := ⟨by rw [hst]; exact HS.out.setAll (l1 := [b13 g2214 g2216 a2224 a2225 a2226 a2227, b12 g2216 A2219 l2218.length n2221 a2223, r11 A2219 l2218.length n2221 l2218, b14 g2231 g2214, b6 g2233 a2234]) (l2 := []) [.int .i64 t2338.1, .int .i64 t2338.2.1, .int .i64 t2338.2.2.1] rfl⟩; clear hst))
      obtain ⟨t2353, HA2354, H⟩ := bind_some H
      refine (ground_Ground_Conf.calls l2218 a2223 a2224 a2225 a2226 a2227 g2214 g2216 A2219 l2218.length n2221 t2353 _ ⟨HS.out.begin⟩ HA2354).mono ?_
      rintro e_ w2355 ⟨rfl, hS⟩
      replace HS : Aside0 (Sep FF w [b13 g2214 g2216 a2224 a2225 a2226 a2227, b12 g2216 A2219 l2218.length n2221 a2223, r11 A2219 l2218.length n2221 l2218, b14 g2231 g2214, b6 g2233 a2234, b1 g2341 t2338.1 t2338.2.1 t2338.2.2.1] w2355) := ⟨HS.out.call hS⟩
      clear hS
      by_cases c2357 : a2229 ≥ t2353.1
      · have H := if_yes c2357 H
        have c2357b0 : decide (t2353.1 ≤ a2229) = true := decide_eq_true c2357
        clear c2357
        have fl2356 : ∀ w, (Instr.field 49 (.agg #[.int .i64 t2353.1, .int .i64 t2353.2.1, .int .i64 t2353.2.2.1, .int .i64 t2353.2.2.2]) 0).run Try.prog w = .ok (.int .i64 t2353.1) w := fun _ => by kernel_rfl
        replace HS : Aside0 (Sep FF w [b13 g2214 g2216 a2224 a2225 a2226 a2227, b12 g2216 A2219 l2218.length n2221 a2223, r11 A2219 l2218.length n2221 l2218, b14 g2231 g2214, b6 g2233 a2234] w2355) := ⟨HS.out.sub (.cons_cons _ (.cons_cons _ (.cons_cons _ (.cons_cons _ (.cons_cons _ (.cons _ .slnil))))))⟩
        go_wp2_with fail
        clear fl2356
        go_ret
        rw [← some_eq H]
        exact ⟨(by first | rfl | (simp [IntKind.wrap_u32]; done)), HS.out⟩
      · have H := if_no c2357 H
        have c2357b0 : decide (t2353.1 ≤ a2229) = false := decide_eq_false c2357
        clear c2357
        have fl2356 : ∀ w, (Instr.field 49 (.agg #[.int .i64 t2353.1, .int .i64 t2353.2.1, .int .i64 t2353.2.2.1, .int .i64 t2353.2.2.2]) 0).run Try.prog w = .ok (.int .i64 t2353.1) w := fun _ => by kernel_rfl
        have hc2358 : w2355.cell? ⟨g2341, 2, none⟩ = some (.int .i64 t2338.2.2.1) := blk_cellv (HS.out.at5) 2 rfl
        go_wp2_with fail
        clear fl2356 hc2358
        obtain ⟨t2359, HA2360, H⟩ := bind_some H
        refine (ground_Ground_Reg.calls l2218 a2223 a2224 a2225 a2226 a2227 t2338.2.2.1 g2214 g2216 A2219 l2218.length n2221 t2359 _ ⟨HS.out.begin⟩ HA2360).mono ?_
        rintro e_ w2361 ⟨rfl, hS⟩
        replace HS : Aside0 (Sep FF w [b13 g2214 g2216 a2224 a2225 a2226 a2227, b12 g2216 A2219 l2218.length n2221 t2359.2, r11 A2219 l2218.length n2221 l2218, b14 g2231 g2214, b6 g2233 a2234, b1 g2341 t2338.1 t2338.2.1 t2338.2.2.1] w2361) := ⟨HS.out.call hS⟩
        clear hS
        have hc2362 : w2361.cell? ⟨g2341, 0, none⟩ = some (.int .i64 t2338.1) := blk_cellv (HS.out.at5) 0 rfl
        have hc2363 : w2361.cell? ⟨g2341, 1, none⟩ = some (.int .i64 t2338.2.1) := blk_cellv (HS.out.at5) 1 rfl
        have hc2364 : w2361.cell? ⟨g2341, 2, none⟩ = some (.int .i64 t2338.2.2.1) := blk_cellv (HS.out.at5) 2 rfl
        go_wp2_with fail
        clear hc2362 hc2363 hc2364
        replace HS : Aside0 (Sep FF w [b6 g2233 a2234, b13 g2214 g2216 a2224 a2225 a2226 a2227, b12 g2216 A2219 l2218.length n2221 t2359.2, r11 A2219 l2218.length n2221 l2218, b14 g2231 g2214, b1 g2341 t2338.1 t2338.2.1 t2338.2.2.1] w2361) := ⟨HS.out.front 4 (by simp)⟩
        replace HS : Aside0 (Sep FF w [r11 A2219 l2218.length n2221 l2218, b6 g2233 a2234, b13 g2214 g2216 a2224 a2225 a2226 a2227, b12 g2216 A2219 l2218.length n2221 t2359.2, b14 g2231 g2214, b1 g2341 t2338.1 t2338.2.1 t2338.2.2.1] w2361) := ⟨HS.out.front 3 (by simp)⟩
        replace HS : Aside0 (Sep FF w [b12 g2216 A2219 l2218.length n2221 t2359.2, r11 A2219 l2218.length n2221 l2218, b6 g2233 a2234, b13 g2214 g2216 a2224 a2225 a2226 a2227, b14 g2231 g2214, b1 g2341 t2338.1 t2338.2.1 t2338.2.2.1] w2361) := ⟨HS.out.front 3 (by simp)⟩
        replace HS : Aside0 (Sep FF w [b13 g2214 g2216 a2224 a2225 a2226 a2227, b12 g2216 A2219 l2218.length n2221 t2359.2, r11 A2219 l2218.length n2221 l2218, b6 g2233 a2234, b14 g2231 g2214, b1 g2341 t2338.1 t2338.2.1 t2338.2.2.1] w2361) := ⟨HS.out.front 3 (by simp)⟩
        replace HS : Aside0 (Sep FF w [b14 g2231 g2214, b13 g2214 g2216 a2224 a2225 a2226 a2227, b12 g2216 A2219 l2218.length n2221 t2359.2, r11 A2219 l2218.length n2221 l2218, b6 g2233 a2234, b1 g2341 t2338.1 t2338.2.1 t2338.2.2.1] w2361) := ⟨HS.out.front 4 (by simp)⟩
        obtain ⟨t2365, HA2366, H⟩ := bind_some H
        refine (chain_Push_1_1.calls t2338.1 t2338.2.1 t2338.2.2.1 (wrap64 (a2229 + 1)) t2359.1 l2218 t2359.2 a2224 a2225 a2226 a2227 a2234 g2231 g2214 g2216 A2219 l2218.length n2221 g2233 t2365 _ ⟨HS.out.begin⟩ HA2366).mono ?_
        rintro e_ w2367 ⟨rfl, hS⟩
        replace HS : Aside0 (Sep FF w [b14 g2231 g2214, b13 g2214 g2216 a2224 a2225 a2226 a2227, b12 g2216 A2219 l2218.length n2221 t2365.1, r11 A2219 l2218.length n2221 t2365.2, b6 g2233 a2234, b1 g2341 t2338.1 t2338.2.1 t2338.2.2.1] w2367) := ⟨HS.out.call hS⟩
        clear hS
        have hc2368 : w2367.cell? ⟨g2341, 2, none⟩ = some (.int .i64 t2338.2.2.1) := blk_cellv (HS.out.at5) 2 rfl
        go_wp2_with fail
        clear hc2368
        replace HS : Aside0 (Sep FF w [r11 A2219 l2218.length n2221 t2365.2, b14 g2231 g2214, b13 g2214 g2216 a2224 a2225 a2226 a2227, b12 g2216 A2219 l2218.length n2221 t2365.1, b6 g2233 a2234, b1 g2341 t2338.1 t2338.2.1 t2338.2.2.1] w2367) := ⟨HS.out.front 3 (by simp)⟩
        replace HS : Aside0 (Sep FF w [b12 g2216 A2219 l2218.length n2221 t2365.1, r11 A2219 l2218.length n2221 t2365.2, b14 g2231 g2214, b13 g2214 g2216 a2224 a2225 a2226 a2227, b6 g2233 a2234, b1 g2341 t2338.1 t2338.2.1 t2338.2.2.1] w2367) := ⟨HS.out.front 3 (by simp)⟩
        replace HS : Aside0 (Sep FF w [b13 g2214 g2216 a2224 a2225 a2226 a2227, b12 g2216 A2219 l2218.length n2221 t2365.1, r11 A2219 l2218.length n2221 t2365.2, b14 g2231 g2214, b6 g2233 a2234, b1 g2341 t2338.1 t2338.2.1 t2338.2.2.1] w2367) := ⟨HS.out.front 3 (by simp)⟩
        obtain ⟨t2369, HA2370, H⟩ := bind_some H
        refine (ground_Ground_SetReg.calls t2365.2 t2365.1 a2224 a2225 a2226 a2227 t2338.2.2.1 (wrap64 (t2359.1 + 1)) g2214 g2216 A2219 l2218.length n2221 t2369 _ ⟨HS.out.begin⟩ HA2370).mono ?_
        rintro e_ w2371 ⟨rfl, hS⟩
        replace HS : Aside0 (Sep FF w [b13 g2214 g2216 a2224 a2225 a2226 a2227, b12 g2216 A2219 l2218.length n2221 t2369.2.1, r11 A2219 l2218.length n2221 t2369.2.2, b14 g2231 g2214, b6 g2233 a2234, b1 g2341 t2338.1 t2338.2.1 t2338.2.2.1] w2371) := ⟨HS.out.call hS⟩
        clear hS
        replace HS : Aside0 (Sep FF w [b13 g2214 g2216 a2224 a2225 a2226 a2227, b12 g2216 A2219 l2218.length n2221 t2369.2.1, r11 A2219 l2218.length n2221 t2369.2.2, b14 g2231 g2214, b6 g2233 a2234] w2371) := ⟨HS.out.sub (.cons_cons _ (.cons_cons _ (.cons_cons _ (.cons_cons _ (.cons_cons _ (.cons _ .slnil))))))⟩
        go_wp2_with fail
        go_ret
        rw [← some_eq H]
        exact ⟨(by first | rfl | (simp [IntKind.wrap_u32]; done)), HS.out⟩
  · have H := if_no c2351 H
    have c2351b0 : t2338.2.2.2 = false := by simpa using c2351
    have c2351b1 : (!t2338.2.2.2) = true := by rw [c2351b0]; rfl
    try rw [c2351b1]
    clear c2351
    go_wp2_with (first | ((with_reducible refine gate_dst (N := 9) rfl ?_); refine box_on ?hg (N := 9) ?hd (cs := #[.int .i64 0, .int .i64 0, .int .i64 0]) (t := 134) ?hr ?_; (case hd => rfl); (case hg => rfl); (case hr => first | (go_simp; done) | (go_simp; rfl)); intro g2341 hg w2342 hbox hb; replace HS : Aside0 (Sep FF w [b13 g2214 g2216 a2224 a2225 a2226 a2227, b12 g2216 A2219 l2218.length n2221 a2223, r11 A2219 l2218.length n2221 l2218, b14 g2231 g2214, b6 g2233 a2234, b1 g2341 0 0 0] w2342) := ⟨HS.out.box hg hbox hb⟩; clear hg hbox hb; have hc2344 : w2342.cell? ⟨g2341, 0, none⟩ = some (.int .i64 0) := blk_cellv (HS.out.at5) 0 rfl; have hz2345 : w2342.frozen? ⟨g2341, 0, none⟩ = false := blk_fz (HS.out.at5) 0; have hc2346 : w2342.cell? ⟨g2341, 1, none⟩ = some (.int .i64 0) := blk_cellv (HS.out.at5) 1 rfl; have hz2347 : w2342.frozen? ⟨g2341, 1, none⟩ = false := blk_fz (HS.out.at5) 1; have hc2348 : w2342.cell? ⟨g2341, 2, none⟩ = some (.int .i64 0) := blk_cellv (HS.out.at5) 2 rfl; have hz2349 : w2342.frozen? ⟨g2341, 2, none⟩ = false := blk_fz (HS.out.at5) 2) | ((with_reducible refine gate_store (t := 134) (p := 9) rfl ?_); refine store_event (w1 := (World.setCell (World.setCell (World.setCell w2342 ⟨g2341, 0, none⟩ (.int .i64 t2338.1)) ⟨g2341, 1, none⟩ (.int .i64 t2338.2.1)) ⟨g2341, 2, none⟩ (.int .i64 t2338.2.2.1))) rfl (t := 134) (p := 9) rfl rfl ?hr ?_; (case hr => first | (go_simp; done) | (go_simp; rfl)); intro w2350 hst; clear hc2344 hz2345 hc2346 hz2347 hc2348 hz2349; replace HS : Aside0 (Sep FF w [b13 g2214 g2216 a2224 a2225 a2226 a2227, b12 g2216 A2219 l2218.length n2221 a2223, r11 A2219 l2218.length n2221 l2218, b14 g2231 g2214, b6 g2233 a2234, b1 g2341 t2338.1 t2338.2.1 t2338.2.2.1] w2350) := ⟨by rw [hst]; exact HS.out.setAll (l1 := [b13 g2214 g2216 a2224 a2225 a2226 a2227, b12 g2216 A2219 l2218.length n2221 a2223, r11 A2219 l2218.length n2221 l2218, b14 g2231 g2214, b6 g2233 a2234]) (l2 := []) [.int .i64 t2338.1, .int .i64 t2338.2.1, .int .i64 t2338.2.2.1] rfl⟩; clear hst; replace HS : Aside0 (Sep FF w [b13 g2214 g2216 a2224 a2225 a2226 a2227, b12 g2216 A2219 l2218.length n2221 a2223, r11 A2219 l2218.length n2221 l2218, b14 g2231 g2214, b6 g2233 a2234] w2350) := ⟨HS.out.sub (.cons_cons _ (.cons_cons _ (.cons_cons _ (.cons_cons _ (.cons_cons _ (.cons _ .slnil))))))⟩))
    go_ret
    rw [← some_eq H]
    exact ⟨(by first | rfl | (simp [IntKind.wrap_u32]; done)), HS.out⟩

set_option maxHeartbeats 30000000 in
set_option maxRecDepth 100000 in
theorem chain_Push.calls (l2193 : List Int) (a2198 : Int) (a2199 : Int) (a2200 : Int) (a2201 : Int) (a2202 : Int) (a2203 : Int) (a2204 : Int) (g2189 : Nat) (g2191 : Nat) (A2194 : Option Addr) (m2195 : Nat) (n2196 : Nat) (r : Bool × Int × List Int) (w : World)   (HS : Aside0 (Sep (fps [b13 g2189 g2191 a2199 a2200 a2201 a2202, b12 g2191 A2194 m2195 n2196 a2198, r11 A2194 m2195 n2196 l2193]) w [b13 g2189 g2191 a2199 a2200 a2201 a2202, b12 g2191 A2194 m2195 n2196 a2198, r11 A2194 m2195 n2196 l2193] w)) (H : Aside0 (chain_Push.f l2193 a2198 a2199 a2200 a2201 a2202 a2203 a2204 = some r)) :
    Calls Try.prog 53 #[.pointer (some ⟨g2189, 0, none⟩), .int .i64 a2203, .int .i64 a2204] w fun e w' => e = .returned (.bool r.1) ∧ Sep (fps [b13 g2189 g2191 a2199 a2200 a2201 a2202, b12 g2191 A2194 m2195 n2196 a2198, r11 A2194 m2195 n2196 l2193]) w [b13 g2189 g2191 a2199 a2200 a2201 a2202, b12 g2191 A2194 m2195 n2196 r.2.1, r11 A2194 m2195 n2196 r.2.2] w' := by
  generalize (fps [b13 g2189 g2191 a2199 a2200 a2201 a2202, b12 g2191 A2194 m2195 n2196 a2198, r11 A2194 m2195 n2196 l2193]) = FF at HS ⊢
  obtain rfl := (row_len (HS.out.at2)).symm
  unfold chain_Push.f at H
  go_enter Try.func53, Try.ntmps53
  go_wp2_with (first | ((with_reducible refine gate_dst (N := 3) rfl ?_); refine box_on ?hg (N := 3) ?hd (cs := #[.pointer (some ⟨g2189, 0, none⟩)]) (t := 50) ?hr ?_; (case hd => rfl); (case hg => rfl); (case hr => first | (go_simp; done) | (go_simp; rfl)); intro g2375 hg w2376 hbox hb; replace HS : Aside0 (Sep FF w [b13 g2189 g2191 a2199 a2200 a2201 a2202, b12 g2191 A2194 l2193.length n2196 a2198, r11 A2194 l2193.length n2196 l2193, b14 g2375 g2189] w2376) := ⟨HS.out.box hg hbox hb⟩; clear hg hbox hb) | ((with_reducible refine gate_dst (N := 5) rfl ?_); refine box_on ?hg (N := 5) ?hd (cs := #[.int .i64 a2204]) (t := 3) ?hr ?_; (case hd => rfl); (case hg => rfl); (case hr => first | (go_simp; done) | (go_simp; rfl)); intro g2378 hg w2379 hbox hb; replace HS : Aside0 (Sep FF w [b13 g2189 g2191 a2199 a2200 a2201 a2202, b12 g2191 A2194 l2193.length n2196 a2198, r11 A2194 l2193.length n2196 l2193, b14 g2375 g2189, b6 g2378 a2204] w2379) := ⟨HS.out.box hg hbox hb⟩; clear hg hbox hb; have hc2381 : w2379.cell? ⟨g2375, 0, none⟩ = some (.pointer (some ⟨g2189, 0, none⟩)) := blk_cellv (HS.out.at3) 0 rfl; have hc2382 : w2379.cell? ⟨g2378, 0, none⟩ = some (.int .i64 a2204) := blk_cellv (HS.out.at4) 0 rfl))
  clear hc2381 hc2382
  obtain ⟨t2383, HA2384, H⟩ := bind_some H
  refine (chain_put_F90.calls l2193 a2198 a2199 a2200 a2201 a2202 a2203 a2204 a2204 g2189 g2191 A2194 l2193.length n2196 g2375 g2378 t2383 _ ⟨HS.out.begin⟩ HA2384).mono ?_
  rintro e_ w2385 ⟨rfl, hS⟩
  replace HS : Aside0 (Sep FF w [b13 g2189 g2191 a2199 a2200 a2201 a2202, b12 g2191 A2194 l2193.length n2196 t2383.2.1, r11 A2194 l2193.length n2196 t2383.2.2, b14 g2375 g2189, b6 g2378 a2204] w2385) := ⟨HS.out.call hS⟩
  clear hS
  replace HS : Aside0 (Sep FF w [b13 g2189 g2191 a2199 a2200 a2201 a2202, b12 g2191 A2194 l2193.length n2196 t2383.2.1, r11 A2194 l2193.length n2196 t2383.2.2] w2385) := ⟨HS.out.sub (.cons_cons _ (.cons_cons _ (.cons_cons _ (.cons _ (.cons _ .slnil)))))⟩
  go_wp2_with fail
  go_ret
  rw [← some_eq H]
  exact ⟨(by first | rfl | (simp [IntKind.wrap_u32]; done)), HS.out⟩

set_option maxHeartbeats 30000000 in
set_option maxRecDepth 100000 in
theorem pool_Give.calls (l2123 : List Int) (a2128 : Int) (a2129 : Int) (a2130 : Int) (a2131 : Int) (a2132 : Int) (a2133 : Int) (g2119 : Nat) (g2121 : Nat) (A2124 : Option Addr) (m2125 : Nat) (n2126 : Nat) (r : Bool × Int × List Int) (w : World)   (HS : Aside0 (Sep (fps [b13 g2119 g2121 a2129 a2130 a2131 a2132, b12 g2121 A2124 m2125 n2126 a2128, r11 A2124 m2125 n2126 l2123]) w [b13 g2119 g2121 a2129 a2130 a2131 a2132, b12 g2121 A2124 m2125 n2126 a2128, r11 A2124 m2125 n2126 l2123] w)) (H : Aside0 (pool_Give.f l2123 a2128 a2129 a2130 a2131 a2132 a2133 = some r)) :
    Calls Try.prog 62 #[.pointer (some ⟨g2119, 0, none⟩), .int .i64 a2133] w fun e w' => e = .returned (.bool r.1) ∧ Sep (fps [b13 g2119 g2121 a2129 a2130 a2131 a2132, b12 g2121 A2124 m2125 n2126 a2128, r11 A2124 m2125 n2126 l2123]) w [b13 g2119 g2121 a2129 a2130 a2131 a2132, b12 g2121 A2124 m2125 n2126 r.2.1, r11 A2124 m2125 n2126 r.2.2] w' := by
  generalize (fps [b13 g2119 g2121 a2129 a2130 a2131 a2132, b12 g2121 A2124 m2125 n2126 a2128, r11 A2124 m2125 n2126 l2123]) = FF at HS ⊢
  obtain rfl := (row_len (HS.out.at2)).symm
  unfold pool_Give.f at H
  go_enter Try.func62, Try.ntmps62
  go_wp2_with fail
  obtain ⟨t2389, HA2390, H⟩ := bind_some H
  refine (ground_Ground_Word.calls l2123 a2128 a2129 a2130 a2131 a2132 a2133 0 g2119 g2121 A2124 l2123.length n2126 t2389 _ ⟨HS.out.begin⟩ HA2390).mono ?_
  rintro e_ w2391 ⟨rfl, hS⟩
  replace HS : Aside0 (Sep FF w [b13 g2119 g2121 a2129 a2130 a2131 a2132, b12 g2121 A2124 l2123.length n2126 t2389.2, r11 A2124 l2123.length n2126 l2123] w2391) := ⟨HS.out.call hS⟩
  clear hS
  go_wp2_with fail
  obtain ⟨t2392, HA2393, H⟩ := bind_some H
  refine (tag_Unpack.calls t2389.1 t2392 _ ⟨Sep.start _⟩ HA2393).mono ?_
  rintro e_ w2394 ⟨rfl, hS⟩
  replace HS : Aside0 (Sep FF w [b13 g2119 g2121 a2129 a2130 a2131 a2132, b12 g2121 A2124 l2123.length n2126 t2389.2, r11 A2124 l2123.length n2126 l2123] w2394) := ⟨HS.out.call hS⟩
  clear hS
  by_cases c2396 : t2392.1 = 0
  · have H := if_yes c2396 H
    have c2396b0 : (t2392.1 == 0) = true := beq_iff_eq.mpr c2396
    have c2396b1 : (t2392.1 != 0) = false := bne_eq_false_iff_eq.mpr c2396
    clear c2396
    have fl2395 : ∀ w, (Instr.field 102 (.agg #[.int .i64 t2392.1, .int .i64 t2392.2.1, .int .i64 t2392.2.2.1, .int .i64 t2392.2.2.2.1, .int .i64 t2392.2.2.2.2.1, .int .i64 t2392.2.2.2.2.2.1, .int .i64 t2392.2.2.2.2.2.2]) 0).run Try.prog w = .ok (.int .i64 t2392.1) w := fun _ => by kernel_rfl
    go_wp2_with fail
    clear fl2395
    go_ret
    rw [← some_eq H]
    exact ⟨(by first | rfl | (simp [IntKind.wrap_u32]; done)), HS.out⟩
  · have H := if_no c2396 H
    have c2396b0 : (t2392.1 == 0) = false := beq_eq_false_iff_ne.mpr c2396
    have c2396b1 : (t2392.1 != 0) = true := bne_iff_ne.mpr c2396
    clear c2396
    have fl2395 : ∀ w, (Instr.field 102 (.agg #[.int .i64 t2392.1, .int .i64 t2392.2.1, .int .i64 t2392.2.2.1, .int .i64 t2392.2.2.2.1, .int .i64 t2392.2.2.2.2.1, .int .i64 t2392.2.2.2.2.2.1, .int .i64 t2392.2.2.2.2.2.2]) 0).run Try.prog w = .ok (.int .i64 t2392.1) w := fun _ => by kernel_rfl
    go_wp2_with fail
    clear fl2395
    obtain ⟨t2397, HA2398, H⟩ := bind_some H
    refine (ground_Ground_SetWord.calls l2123 t2389.2 a2129 a2130 a2131 a2132 a2133 0 0 g2119 g2121 A2124 l2123.length n2126 t2397 _ ⟨HS.out.begin⟩ HA2398).mono ?_
    rintro e_ w2399 ⟨rfl, hS⟩
    replace HS : Aside0 (Sep FF w [b13 g2119 g2121 a2129 a2130 a2131 a2132, b12 g2121 A2124 l2123.length n2126 t2397.2.1, r11 A2124 l2123.length n2126 t2397.2.2] w2399) := ⟨HS.out.call hS⟩
    clear hS
    go_wp2_with fail
    obtain ⟨t2400, HA2401, H⟩ := bind_some H
    refine (chain_Push.calls t2397.2.2 t2397.2.1 a2129 a2130 a2131 a2132 0 a2133 g2119 g2121 A2124 l2123.length n2126 t2400 _ ⟨HS.out.begin⟩ HA2401).mono ?_
    rintro e_ w2402 ⟨rfl, hS⟩
    replace HS : Aside0 (Sep FF w [b13 g2119 g2121 a2129 a2130 a2131 a2132, b12 g2121 A2124 l2123.length n2126 t2400.2.1, r11 A2124 l2123.length n2126 t2400.2.2] w2402) := ⟨HS.out.call hS⟩
    clear hS
    go_wp2_with fail
    go_ret
    rw [← some_eq H]
    exact ⟨(by first | rfl | (simp [IntKind.wrap_u32]; done)), HS.out⟩

set_option maxHeartbeats 30000000 in
set_option maxRecDepth 100000 in
theorem chain_Take.calls (l2451 : List Int) (a2456 : Int) (a2457 : Int) (a2458 : Int) (a2459 : Int) (a2460 : Int) (a2461 : Int) (g2447 : Nat) (g2449 : Nat) (A2452 : Option Addr) (m2453 : Nat) (n2454 : Nat) (r : Int × Bool × Int × List Int) (w : World)   (HS : Aside0 (Sep (fps [b13 g2447 g2449 a2457 a2458 a2459 a2460, b12 g2449 A2452 m2453 n2454 a2456, r11 A2452 m2453 n2454 l2451]) w [b13 g2447 g2449 a2457 a2458 a2459 a2460, b12 g2449 A2452 m2453 n2454 a2456, r11 A2452 m2453 n2454 l2451] w)) (H : Aside0 (chain_Take.f l2451 a2456 a2457 a2458 a2459 a2460 a2461 = some r)) :
    Calls Try.prog 54 #[.pointer (some ⟨g2447, 0, none⟩), .int .i64 a2461] w fun e w' => e = .returned (.tuple #[.int .i64 r.1, .bool r.2.1]) ∧ Sep (fps [b13 g2447 g2449 a2457 a2458 a2459 a2460, b12 g2449 A2452 m2453 n2454 a2456, r11 A2452 m2453 n2454 l2451]) w [b13 g2447 g2449 a2457 a2458 a2459 a2460, b12 g2449 A2452 m2453 n2454 r.2.2.1, r11 A2452 m2453 n2454 r.2.2.2] w' := by
  generalize (fps [b13 g2447 g2449 a2457 a2458 a2459 a2460, b12 g2449 A2452 m2453 n2454 a2456, r11 A2452 m2453 n2454 l2451]) = FF at HS ⊢
  obtain rfl := (row_len (HS.out.at2)).symm
  unfold chain_Take.f at H
  go_enter Try.func54, Try.ntmps54
  go_wp2_with fail
  obtain ⟨t2523, HA2524, H⟩ := bind_some H
  refine (chain_of.calls l2451 a2456 a2457 a2458 a2459 a2460 a2461 g2447 g2449 A2452 l2451.length n2454 t2523 _ ⟨HS.out.begin⟩ HA2524).mono ?_
  rintro e_ w2525 ⟨rfl, hS⟩
  replace HS : Aside0 (Sep FF w [b13 g2447 g2449 a2457 a2458 a2459 a2460, b12 g2449 A2452 l2451.length n2454 a2456, r11 A2452 l2451.length n2454 l2451] w2525) := ⟨HS.out.call hS⟩
  clear hS
  by_cases c2536 : t2523.2.2.2 = true
  · have H := if_yes c2536 H
    have c2536b0 : t2523.2.2.2 = true := c2536
    have c2536b1 : (!t2523.2.2.2) = false := by rw [c2536b0]; rfl
    try rw [c2536b1]
    clear c2536
    go_wp2_with (first | ((with_reducible refine gate_dst (N := 6) rfl ?_); refine box_on ?hg (N := 6) ?hd (cs := #[.int .i64 0, .int .i64 0, .int .i64 0]) (t := 134) ?hr ?_; (case hd => rfl); (case hg => rfl); (case hr => first | (go_simp; done) | (go_simp; rfl)); intro g2526 hg w2527 hbox hb; replace HS : Aside0 (Sep FF w [b13 g2447 g2449 a2457 a2458 a2459 a2460, b12 g2449 A2452 l2451.length n2454 a2456, r11 A2452 l2451.length n2454 l2451, b1 g2526 0 0 0] w2527) := ⟨HS.out.box hg hbox hb⟩; clear hg hbox hb; have hc2529 : w2527.cell? ⟨g2526, 0, none⟩ = some (.int .i64 0) := blk_cellv (HS.out.at3) 0 rfl; have hz2530 : w2527.frozen? ⟨g2526, 0, none⟩ = false := blk_fz (HS.out.at3) 0; have hc2531 : w2527.cell? ⟨g2526, 1, none⟩ = some (.int .i64 0) := blk_cellv (HS.out.at3) 1 rfl; have hz2532 : w2527.frozen? ⟨g2526, 1, none⟩ = false := blk_fz (HS.out.at3) 1; have hc2533 : w2527.cell? ⟨g2526, 2, none⟩ = some (.int .i64 0) := blk_cellv (HS.out.at3) 2 rfl; have hz2534 : w2527.frozen? ⟨g2526, 2, none⟩ = false := blk_fz (HS.out.at3) 2) | ((with_reducible refine gate_store (t := 134) (p := 6) rfl ?_); refine store_event (w1 := (World.setCell (World.setCell (World.setCell w2527 ⟨g2526, 0, none⟩ (.int .i64 t2523.1)) ⟨g2526, 1, none⟩ (.int .i64 t2523.2.1)) ⟨g2526, 2, none⟩ (.int .i64 t2523.2.2.1))) rfl (t := 134) (p := 6) rfl rfl ?hr ?_; (case hr => first | (go_simp; done) | (go_simp; rfl)); intro w2535 hst; clear hc2529 hz2530 hc2531 hz2532 hc2533 hz2534; replace HS : Aside0 (Sep FF w [b13 g2447 g2449 a2457 a2458 a2459 a2460, b12 g2449 A2452 l2451.length n2454 a2456, r11 A2452 l2451.length n2454 l2451, b1 g2526 t2523.1 t2523.2.1 t2523.2.2.1] w2535) := ⟨by rw [hst]; exact HS.out.setAll (l1 := [b13 g2447 g2449 a2457 a2458 a2459 a2460, b12 g2449 A2452 l2451.length n2454 a2456, r11 A2452 l2451.length n2454 l2451]) (l2 := []) [.int .i64 t2523.1, .int .i64 t2523.2.1, .int .i64 t2523.2.2.1] rfl⟩; clear hst; have hc2537 : w2535.cell? ⟨g2526, 0, none⟩ = some (.int .i64 t2523.1) := blk_cellv (HS.out.at3) 0 rfl))
    clear hc2537
    obtain ⟨t2538, HA2539, H⟩ := bind_some H
    refine (ground_Ground_Reg.calls l2451 a2456 a2457 a2458 a2459 a2460 t2523.1 g2447 g2449 A2452 l2451.length n2454 t2538 _ ⟨HS.out.begin⟩ HA2539).mono ?_
    rintro e_ w2540 ⟨rfl, hS⟩
    replace HS : Aside0 (Sep FF w [b13 g2447 g2449 a2457 a2458 a2459 a2460, b12 g2449 A2452 l2451.length n2454 t2538.2, r11 A2452 l2451.length n2454 l2451, b1 g2526 t2523.1 t2523.2.1 t2523.2.2.1] w2540) := ⟨HS.out.call hS⟩
    clear hS
    by_cases c2541 : t2538.1 = 0
    · have H := if_yes c2541 H
      have c2541b0 : (t2538.1 == 0) = true := beq_iff_eq.mpr c2541
      have c2541b1 : (t2538.1 != 0) = false := bne_eq_false_iff_eq.mpr c2541
      clear c2541
      replace HS : Aside0 (Sep FF w [b13 g2447 g2449 a2457 a2458 a2459 a2460, b12 g2449 A2452 l2451.length n2454 t2538.2, r11 A2452 l2451.length n2454 l2451] w2540) := ⟨HS.out.sub (.cons_cons _ (.cons_cons _ (.cons_cons _ (.cons _ .slnil))))⟩
      go_wp2_with fail
      go_ret2
      rw [← some_eq H]
      exact ⟨(by first | rfl | (simp [IntKind.wrap_u32]; done)), HS.out⟩
    · have H := if_no c2541 H
      have c2541b0 : (t2538.1 == 0) = false := beq_eq_false_iff_ne.mpr c2541
      have c2541b1 : (t2538.1 != 0) = true := bne_iff_ne.mpr c2541
      clear c2541
      go_wp2_with fail
      obtain ⟨t2542, HA2543, H⟩ := bind_some H
      refine (ground_Ground_Word.calls l2451 t2538.2 a2457 a2458 a2459 a2460 (wrap64 (t2538.1 - 1)) 5 g2447 g2449 A2452 l2451.length n2454 t2542 _ ⟨HS.out.begin⟩ HA2543).mono ?_
      rintro e_ w2544 ⟨rfl, hS⟩
      replace HS : Aside0 (Sep FF w [b13 g2447 g2449 a2457 a2458 a2459 a2460, b12 g2449 A2452 l2451.length n2454 t2542.2, r11 A2452 l2451.length n2454 l2451, b1 g2526 t2523.1 t2523.2.1 t2523.2.2.1] w2544) := ⟨HS.out.call hS⟩
      clear hS
      go_wp2_with fail
      obtain ⟨t2545, HA2546, H⟩ := bind_some H
      refine (ground_Ground_SetWord.calls l2451 t2542.2 a2457 a2458 a2459 a2460 (wrap64 (t2538.1 - 1)) 5 0 g2447 g2449 A2452 l2451.length n2454 t2545 _ ⟨HS.out.begin⟩ HA2546).mono ?_
      rintro e_ w2547 ⟨rfl, hS⟩
      replace HS : Aside0 (Sep FF w [b13 g2447 g2449 a2457 a2458 a2459 a2460, b12 g2449 A2452 l2451.length n2454 t2545.2.1, r11 A2452 l2451.length n2454 t2545.2.2, b1 g2526 t2523.1 t2523.2.1 t2523.2.2.1] w2547) := ⟨HS.out.call hS⟩
      clear hS
      have hc2548 : w2547.cell? ⟨g2526, 0, none⟩ = some (.int .i64 t2523.1) := blk_cellv (HS.out.at3) 0 rfl
      go_wp2_with fail
      clear hc2548
      obtain ⟨t2549, HA2550, H⟩ := bind_some H
      refine (ground_Ground_SetReg.calls t2545.2.2 t2545.2.1 a2457 a2458 a2459 a2460 t2523.1 (wrap64 (t2542.1)) g2447 g2449 A2452 l2451.length n2454 t2549 _ ⟨HS.out.begin⟩ HA2550).mono ?_
      rintro e_ w2551 ⟨rfl, hS⟩
      replace HS : Aside0 (Sep FF w [b13 g2447 g2449 a2457 a2458 a2459 a2460, b12 g2449 A2452 l2451.length n2454 t2549.2.1, r11 A2452 l2451.length n2454 t2549.2.2, b1 g2526 t2523.1 t2523.2.1 t2523.2.2.1] w2551) := ⟨HS.out.call hS⟩
      clear hS
      by_cases c2552 : (wrap64 (t2542.1)) = 0
      · have H := if_yes c2552 H
        have c2552b0 : ((wrap64 (t2542.1)) == 0) = true := beq_iff_eq.mpr c2552
        have c2552b1 : ((wrap64 (t2542.1)) != 0) = false := bne_eq_false_iff_eq.mpr c2552
        clear c2552
        have hc2553 : w2551.cell? ⟨g2526, 1, none⟩ = some (.int .i64 t2523.2.1) := blk_cellv (HS.out.at3) 1 rfl
        go_wp2_with fail
        clear hc2553
        obtain ⟨t2554, HA2555, H⟩ := bind_some H
        refine (ground_Ground_SetReg.calls t2549.2.2 t2549.2.1 a2457 a2458 a2459 a2460 t2523.2.1 0 g2447 g2449 A2452 l2451.length n2454 t2554 _ ⟨HS.out.begin⟩ HA2555).mono ?_
        rintro e_ w2556 ⟨rfl, hS⟩
        replace HS : Aside0 (Sep FF w [b13 g2447 g2449 a2457 a2458 a2459 a2460, b12 g2449 A2452 l2451.length n2454 t2554.2.1, r11 A2452 l2451.length n2454 t2554.2.2, b1 g2526 t2523.1 t2523.2.1 t2523.2.2.1] w2556) := ⟨HS.out.call hS⟩
        clear hS
        go_wp2_with fail
        refine start_ (n := 9) (S := (fun w' => w'.cell? ⟨g2526, 2, none⟩ = some (.int .i64 t2523.2.2.1))) (ds := []) #[false, false, false, false, false, false, false, false, false] (by kernel_rfl) rfl rfl (blk_cellv ((HS.out.drew).at3) 2 rfl) (fun hHeld => ?_)
        have HS_ := Aside0.mk HS.out.drew
        clear HS
        generalize World.drew _ = w2558 at HS_ hHeld ⊢
        have HS := HS_
        clear HS_
        refine pure_ (i := 0) (N := some 44) (v := ?_) (a' := ?_) #[true, false, false, false, false, false, false, false, false] rfl rfl (by kernel_rfl) (fun _ _ _ h => h) (Or.inl ⟨by rfl, ?_⟩) ?_ ?_
        rotate_left
        · intro w'
          go_simp
          with_reducible rfl
        rotate_left
        · simp only [Act.put, List.setIfInBounds_toArray, List.set_cons_zero, List.set_cons_succ, i64_w, i32_w]
          rfl
        refine pure_ (i := 1) (N := some 45) (v := ?_) (a' := ?_) #[true, true, false, false, false, false, false, false, false] rfl rfl (by kernel_rfl) (fun _ _ _ h => h) (Or.inl ⟨by rfl, ?_⟩) ?_ ?_
        rotate_left
        · intro w'
          go_simp
          with_reducible rfl
        rotate_left
        · simp only [Act.put, List.setIfInBounds_toArray, List.set_cons_zero, List.set_cons_succ, i64_w, i32_w]
          rfl
        refine pure_ (i := 3) (N := some 47) (v := ?_) (a' := ?_) #[true, true, false, true, false, false, false, false, false] rfl rfl (by kernel_rfl) (fun _ _ _ h => h) (Or.inl ⟨by rfl, ?_⟩) ?_ ?_
        rotate_left
        · intro w'
          go_simp
          with_reducible rfl
        rotate_left
        · simp only [Act.put, List.setIfInBounds_toArray, List.set_cons_zero, List.set_cons_succ, i64_w, i32_w]
          rfl
        refine pure_ (i := 4) (N := some 48) (v := ?_) (a' := ?_) #[true, true, false, true, true, false, false, false, false] rfl rfl (by kernel_rfl) (fun _ _ _ h => h) (Or.inl ⟨by rfl, ?_⟩) ?_ ?_
        rotate_left
        · intro w'
          go_simp
          with_reducible rfl
        rotate_left
        · simp only [Act.put, List.setIfInBounds_toArray, List.set_cons_zero, List.set_cons_succ, i64_w, i32_w]
          rfl
        refine take_ (i := 2) (N := some 46) (v := ?_) (a' := ?_) #[true, true, true, true, true, false, false, false, false] rfl rfl (by kernel_rfl) (fun _ _ _ h => h) (Or.inl ⟨by rfl, ?_⟩) hHeld ?_ ?_
        rotate_left
        · rintro w' hS'
          have s0 := hS'
          go_simp
          with_reducible rfl
        rotate_left
        · simp only [Act.put, List.setIfInBounds_toArray, List.set_cons_zero, List.set_cons_succ, i64_w, i32_w]
          rfl
        refine take_ (i := 5) (N := some 49) (v := ?_) (a' := ?_) #[true, true, true, true, true, true, false, false, false] rfl rfl (by kernel_rfl) (fun _ _ _ h => h) (Or.inl ⟨by rfl, ?_⟩) hHeld ?_ ?_
        rotate_left
        · rintro w' hS'
          have s0 := hS'
          go_simp
          with_reducible rfl
        rotate_left
        · simp only [Act.put, List.setIfInBounds_toArray, List.set_cons_zero, List.set_cons_succ, i64_w, i32_w]
          rfl
        refine one_ (i := 6) (N := some 50) #[true, true, true, true, true, true, true, false, false] rfl rfl (by kernel_rfl) (by decide) (fun K hK => ?_)
        obtain ⟨t2559, HA2560, H⟩ := bind_some H
        refine goes_ Try.func36 (by kernel_rfl) rfl #[.pointer (some ⟨g2447, 0, none⟩), .int .i64 t2523.2.2.1] (by rfl) rfl rfl (by (try simp only [List.map_toArray, List.map_cons, List.map_nil]); first | done | rfl) ?_
        refine (ground_Ground_Reg.calls t2554.2.2 t2554.2.1 a2457 a2458 a2459 a2460 t2523.2.2.1 g2447 g2449 A2452 l2451.length n2454 t2559 _ ⟨HS.out.begin⟩ HA2560).mono ?_
        rintro e_ w2561 ⟨rfl, hS⟩
        replace HS : Aside0 (Sep FF w [b13 g2447 g2449 a2457 a2458 a2459 a2460, b12 g2449 A2452 l2451.length n2454 t2559.2, r11 A2452 l2451.length n2454 t2554.2.2, b1 g2526 t2523.1 t2523.2.1 t2523.2.2.1] w2561) := ⟨HS.out.call hS⟩
        clear hS
        refine ⟨_, rfl, ?_⟩
        refine hK.out _ _ (blk_cellv (HS.out.at3) 2 rfl) (fun hHeld => ?_)
        clear hK K
        refine norm_ (a' := ?_) ?_ ?_
        rotate_left
        · show Act.put _ (some 50) _ = _
          simp only [Act.put, List.setIfInBounds_toArray, List.set_cons_zero, List.set_cons_succ, i64_w, i32_w]
          rfl
        refine pure_ (i := 7) (N := some 51) (v := ?_) (a' := ?_) #[true, true, true, true, true, true, true, true, false] rfl rfl (by kernel_rfl) (fun _ _ _ h => h) (Or.inl ⟨by rfl, ?_⟩) ?_ ?_
        rotate_left
        · intro w'
          go_simp
          with_reducible rfl
        rotate_left
        · simp only [Act.put, List.setIfInBounds_toArray, List.set_cons_zero, List.set_cons_succ, i64_w, i32_w]
          rfl
        refine one_ (i := 8) (N := some 52) #[true, true, true, true, true, true, true, true, true] rfl rfl (by kernel_rfl) (by decide) (fun K hK => ?_)
        obtain ⟨t2562, HA2563, H⟩ := bind_some H
        refine goes_ Try.func42 (by kernel_rfl) rfl #[.pointer (some ⟨g2447, 0, none⟩), .int .i64 t2523.2.2.1, .int .i64 (wrap64 (t2559.1 - 1))] (by rfl) rfl rfl (by (try simp only [List.map_toArray, List.map_cons, List.map_nil]); first | done | rfl) ?_
        refine (ground_Ground_SetReg.calls t2554.2.2 t2559.2 a2457 a2458 a2459 a2460 t2523.2.2.1 (wrap64 (t2559.1 - 1)) g2447 g2449 A2452 l2451.length n2454 t2562 _ ⟨HS.out.begin⟩ HA2563).mono ?_
        rintro e_ w2564 ⟨rfl, hS⟩
        replace HS : Aside0 (Sep FF w [b13 g2447 g2449 a2457 a2458 a2459 a2460, b12 g2449 A2452 l2451.length n2454 t2562.2.1, r11 A2452 l2451.length n2454 t2562.2.2, b1 g2526 t2523.1 t2523.2.1 t2523.2.2.1] w2564) := ⟨HS.out.call hS⟩
        clear hS
        refine ⟨_, rfl, ?_⟩
        refine hK.out _ _ (blk_cellv (HS.out.at3) 2 rfl) (fun hHeld => ?_)
        clear hK K
        refine norm_ (a' := ?_) ?_ ?_
        rotate_left
        · show Act.put _ (some 52) _ = _
          simp only [Act.put, List.setIfInBounds_toArray, List.set_cons_zero, List.set_cons_succ, i64_w, i32_w]
          rfl
        refine done_ (by kernel_rfl) ?_
        replace HS : Aside0 (Sep FF w [b13 g2447 g2449 a2457 a2458 a2459 a2460, b12 g2449 A2452 l2451.length n2454 t2562.2.1, r11 A2452 l2451.length n2454 t2562.2.2] w2564) := ⟨HS.out.sub (.cons_cons _ (.cons_cons _ (.cons_cons _ (.cons _ .slnil))))⟩
        go_wp2_with fail
        go_ret2
        rw [← some_eq H]
        exact ⟨(by first | rfl | (simp [IntKind.wrap_u32]; done)), HS.out⟩
      · have H := if_no c2552 H
        have c2552b0 : ((wrap64 (t2542.1)) == 0) = false := beq_eq_false_iff_ne.mpr c2552
        have c2552b1 : ((wrap64 (t2542.1)) != 0) = true := bne_iff_ne.mpr c2552
        clear c2552
        go_wp2_with fail
        refine start_ (n := 9) (S := (fun w' => w'.cell? ⟨g2526, 2, none⟩ = some (.int .i64 t2523.2.2.1))) (ds := []) #[false, false, false, false, false, false, false, false, false] (by kernel_rfl) rfl rfl (blk_cellv ((HS.out.drew).at3) 2 rfl) (fun hHeld => ?_)
        have HS_ := Aside0.mk HS.out.drew
        clear HS
        generalize World.drew _ = w2566 at HS_ hHeld ⊢
        have HS := HS_
        clear HS_
        refine pure_ (i := 0) (N := some 44) (v := ?_) (a' := ?_) #[true, false, false, false, false, false, false, false, false] rfl rfl (by kernel_rfl) (fun _ _ _ h => h) (Or.inl ⟨by rfl, ?_⟩) ?_ ?_
        rotate_left
        · intro w'
          go_simp
          with_reducible rfl
        rotate_left
        · simp only [Act.put, List.setIfInBounds_toArray, List.set_cons_zero, List.set_cons_succ, i64_w, i32_w]
          rfl
        refine pure_ (i := 1) (N := some 45) (v := ?_) (a' := ?_) #[true, true, false, false, false, false, false, false, false] rfl rfl (by kernel_rfl) (fun _ _ _ h => h) (Or.inl ⟨by rfl, ?_⟩) ?_ ?_
        rotate_left
        · intro w'
          go_simp
          with_reducible rfl
        rotate_left
        · simp only [Act.put, List.setIfInBounds_toArray, List.set_cons_zero, List.set_cons_succ, i64_w, i32_w]
          rfl
        refine pure_ (i := 3) (N := some 47) (v := ?_) (a' := ?_) #[true, true, false, true, false, false, false, false, false] rfl rfl (by kernel_rfl) (fun _ _ _ h => h) (Or.inl ⟨by rfl, ?_⟩) ?_ ?_
        rotate_left
        · intro w'
          go_simp
          with_reducible rfl
        rotate_left
        · simp only [Act.put, List.setIfInBounds_toArray, List.set_cons_zero, List.set_cons_succ, i64_w, i32_w]
          rfl
        refine pure_ (i := 4) (N := some 48) (v := ?_) (a' := ?_) #[true, true, false, true, true, false, false, false, false] rfl rfl (by kernel_rfl) (fun _ _ _ h => h) (Or.inl ⟨by rfl, ?_⟩) ?_ ?_
        rotate_left
        · intro w'
          go_simp
          with_reducible rfl
        rotate_left
        · simp only [Act.put, List.setIfInBounds_toArray, List.set_cons_zero, List.set_cons_succ, i64_w, i32_w]
          rfl
        refine take_ (i := 2) (N := some 46) (v := ?_) (a' := ?_) #[true, true, true, true, true, false, false, false, false] rfl rfl (by kernel_rfl) (fun _ _ _ h => h) (Or.inl ⟨by rfl, ?_⟩) hHeld ?_ ?_
        rotate_left
        · rintro w' hS'
          have s0 := hS'
          go_simp
          with_reducible rfl
        rotate_left
        · simp only [Act.put, List.setIfInBounds_toArray, List.set_cons_zero, List.set_cons_succ, i64_w, i32_w]
          rfl
        refine take_ (i := 5) (N := some 49) (v := ?_) (a' := ?_) #[true, true, true, true, true, true, false, false, false] rfl rfl (by kernel_rfl) (fun _ _ _ h => h) (Or.inl ⟨by rfl, ?_⟩) hHeld ?_ ?_
        rotate_left
        · rintro w' hS'
          have s0 := hS'
          go_simp
          with_reducible rfl
        rotate_left
        · simp only [Act.put, List.setIfInBounds_toArray, List.set_cons_zero, List.set_cons_succ, i64_w, i32_w]
          rfl
        refine one_ (i := 6) (N := some 50) #[true, true, true, true, true, true, true, false, false] rfl rfl (by kernel_rfl) (by decide) (fun K hK => ?_)
        obtain ⟨t2559, HA2567, H⟩ := bind_some H
        refine goes_ Try.func36 (by kernel_rfl) rfl #[.pointer (some ⟨g2447, 0, none⟩), .int .i64 t2523.2.2.1] (by rfl) rfl rfl (by (try simp only [List.map_toArray, List.map_cons, List.map_nil]); first | done | rfl) ?_
        refine (ground_Ground_Reg.calls t2549.2.2 t2549.2.1 a2457 a2458 a2459 a2460 t2523.2.2.1 g2447 g2449 A2452 l2451.length n2454 t2559 _ ⟨HS.out.begin⟩ HA2567).mono ?_
        rintro e_ w2568 ⟨rfl, hS⟩
        replace HS : Aside0 (Sep FF w [b13 g2447 g2449 a2457 a2458 a2459 a2460, b12 g2449 A2452 l2451.length n2454 t2559.2, r11 A2452 l2451.length n2454 t2549.2.2, b1 g2526 t2523.1 t2523.2.1 t2523.2.2.1] w2568) := ⟨HS.out.call hS⟩
        clear hS
        refine ⟨_, rfl, ?_⟩
        refine hK.out _ _ (blk_cellv (HS.out.at3) 2 rfl) (fun hHeld => ?_)
        clear hK K
        refine norm_ (a' := ?_) ?_ ?_
        rotate_left
        · show Act.put _ (some 50) _ = _
          simp only [Act.put, List.setIfInBounds_toArray, List.set_cons_zero, List.set_cons_succ, i64_w, i32_w]
          rfl
        refine pure_ (i := 7) (N := some 51) (v := ?_) (a' := ?_) #[true, true, true, true, true, true, true, true, false] rfl rfl (by kernel_rfl) (fun _ _ _ h => h) (Or.inl ⟨by rfl, ?_⟩) ?_ ?_
        rotate_left
        · intro w'
          go_simp
          with_reducible rfl
        rotate_left
        · simp only [Act.put, List.setIfInBounds_toArray, List.set_cons_zero, List.set_cons_succ, i64_w, i32_w]
          rfl
        refine one_ (i := 8) (N := some 52) #[true, true, true, true, true, true, true, true, true] rfl rfl (by kernel_rfl) (by decide) (fun K hK => ?_)
        obtain ⟨t2562, HA2569, H⟩ := bind_some H
        refine goes_ Try.func42 (by kernel_rfl) rfl #[.pointer (some ⟨g2447, 0, none⟩), .int .i64 t2523.2.2.1, .int .i64 (wrap64 (t2559.1 - 1))] (by rfl) rfl rfl (by (try simp only [List.map_toArray, List.map_cons, List.map_nil]); first | done | rfl) ?_
        refine (ground_Ground_SetReg.calls t2549.2.2 t2559.2 a2457 a2458 a2459 a2460 t2523.2.2.1 (wrap64 (t2559.1 - 1)) g2447 g2449 A2452 l2451.length n2454 t2562 _ ⟨HS.out.begin⟩ HA2569).mono ?_
        rintro e_ w2570 ⟨rfl, hS⟩
        replace HS : Aside0 (Sep FF w [b13 g2447 g2449 a2457 a2458 a2459 a2460, b12 g2449 A2452 l2451.length n2454 t2562.2.1, r11 A2452 l2451.length n2454 t2562.2.2, b1 g2526 t2523.1 t2523.2.1 t2523.2.2.1] w2570) := ⟨HS.out.call hS⟩
        clear hS
        refine ⟨_, rfl, ?_⟩
        refine hK.out _ _ (blk_cellv (HS.out.at3) 2 rfl) (fun hHeld => ?_)
        clear hK K
        refine norm_ (a' := ?_) ?_ ?_
        rotate_left
        · show Act.put _ (some 52) _ = _
          simp only [Act.put, List.setIfInBounds_toArray, List.set_cons_zero, List.set_cons_succ, i64_w, i32_w]
          rfl
        refine done_ (by kernel_rfl) ?_
        replace HS : Aside0 (Sep FF w [b13 g2447 g2449 a2457 a2458 a2459 a2460, b12 g2449 A2452 l2451.length n2454 t2562.2.1, r11 A2452 l2451.length n2454 t2562.2.2] w2570) := ⟨HS.out.sub (.cons_cons _ (.cons_cons _ (.cons_cons _ (.cons _ .slnil))))⟩
        go_wp2_with fail
        go_ret2
        rw [← some_eq H]
        exact ⟨(by first | rfl | (simp [IntKind.wrap_u32]; done)), HS.out⟩
  · have H := if_no c2536 H
    have c2536b0 : t2523.2.2.2 = false := by simpa using c2536
    have c2536b1 : (!t2523.2.2.2) = true := by rw [c2536b0]; rfl
    try rw [c2536b1]
    clear c2536
    go_wp2_with (first | ((with_reducible refine gate_dst (N := 6) rfl ?_); refine box_on ?hg (N := 6) ?hd (cs := #[.int .i64 0, .int .i64 0, .int .i64 0]) (t := 134) ?hr ?_; (case hd => rfl); (case hg => rfl); (case hr => first | (go_simp; done) | (go_simp; rfl)); intro g2526 hg w2527 hbox hb; replace HS : Aside0 (Sep FF w [b13 g2447 g2449 a2457 a2458 a2459 a2460, b12 g2449 A2452 l2451.length n2454 a2456, r11 A2452 l2451.length n2454 l2451, b1 g2526 0 0 0] w2527) := ⟨HS.out.box hg hbox hb⟩; clear hg hbox hb; have hc2529 : w2527.cell? ⟨g2526, 0, none⟩ = some (.int .i64 0) := blk_cellv (HS.out.at3) 0 rfl; have hz2530 : w2527.frozen? ⟨g2526, 0, none⟩ = false := blk_fz (HS.out.at3) 0; have hc2531 : w2527.cell? ⟨g2526, 1, none⟩ = some (.int .i64 0) := blk_cellv (HS.out.at3) 1 rfl; have hz2532 : w2527.frozen? ⟨g2526, 1, none⟩ = false := blk_fz (HS.out.at3) 1; have hc2533 : w2527.cell? ⟨g2526, 2, none⟩ = some (.int .i64 0) := blk_cellv (HS.out.at3) 2 rfl; have hz2534 : w2527.frozen? ⟨g2526, 2, none⟩ = false := blk_fz (HS.out.at3) 2) | ((with_reducible refine gate_store (t := 134) (p := 6) rfl ?_); refine store_event (w1 := (World.setCell (World.setCell (World.setCell w2527 ⟨g2526, 0, none⟩ (.int .i64 t2523.1)) ⟨g2526, 1, none⟩ (.int .i64 t2523.2.1)) ⟨g2526, 2, none⟩ (.int .i64 t2523.2.2.1))) rfl (t := 134) (p := 6) rfl rfl ?hr ?_; (case hr => first | (go_simp; done) | (go_simp; rfl)); intro w2535 hst; clear hc2529 hz2530 hc2531 hz2532 hc2533 hz2534; replace HS : Aside0 (Sep FF w [b13 g2447 g2449 a2457 a2458 a2459 a2460, b12 g2449 A2452 l2451.length n2454 a2456, r11 A2452 l2451.length n2454 l2451, b1 g2526 t2523.1 t2523.2.1 t2523.2.2.1] w2535) := ⟨by rw [hst]; exact HS.out.setAll (l1 := [b13 g2447 g2449 a2457 a2458 a2459 a2460, b12 g2449 A2452 l2451.length n2454 a2456, r11 A2452 l2451.length n2454 l2451]) (l2 := []) [.int .i64 t2523.1, .int .i64 t2523.2.1, .int .i64 t2523.2.2.1] rfl⟩; clear hst; replace HS : Aside0 (Sep FF w [b13 g2447 g2449 a2457 a2458 a2459 a2460, b12 g2449 A2452 l2451.length n2454 a2456, r11 A2452 l2451.length n2454 l2451] w2535) := ⟨HS.out.sub (.cons_cons _ (.cons_cons _ (.cons_cons _ (.cons _ .slnil))))⟩))
    go_ret2
    rw [← some_eq H]
    exact ⟨(by first | rfl | (simp [IntKind.wrap_u32]; done)), HS.out⟩

set_option maxHeartbeats 30000000 in
set_option maxRecDepth 100000 in
theorem ground_Ground_Wipe.calls (k : Nat) (l2580 : List Int) (a2585 : Int) (a2586 : Int) (a2587 : Int) (a2588 : Int) (a2589 : Int) (a2590 : Int) (g2576 : Nat) (g2578 : Nat) (A2581 : Option Addr) (m2582 : Nat) (n2583 : Nat) (r : Int × Int × List Int) (w : World)   (HS : Aside0 (Sep (fps [b13 g2576 g2578 a2586 a2587 a2588 a2589, b12 g2578 A2581 m2582 n2583 a2585, r11 A2581 m2582 n2583 l2580]) w [b13 g2576 g2578 a2586 a2587 a2588 a2589, b12 g2578 A2581 m2582 n2583 a2585, r11 A2581 m2582 n2583 l2580] w)) (H : Aside0 (ground_Ground_Wipe.f k l2580 a2585 a2586 a2587 a2588 a2589 a2590 = some r)) :
    Calls Try.prog 47 #[.pointer (some ⟨g2576, 0, none⟩), .int .i64 a2590] w fun e w' => e = .returned (.int .i64 r.1) ∧ Sep (fps [b13 g2576 g2578 a2586 a2587 a2588 a2589, b12 g2578 A2581 m2582 n2583 a2585, r11 A2581 m2582 n2583 l2580]) w [b13 g2576 g2578 a2586 a2587 a2588 a2589, b12 g2578 A2581 m2582 n2583 r.2.1, r11 A2581 m2582 n2583 r.2.2] w' := by
  generalize (fps [b13 g2576 g2578 a2586 a2587 a2588 a2589, b12 g2578 A2581 m2582 n2583 a2585, r11 A2581 m2582 n2583 l2580]) = FF at HS ⊢
  obtain rfl := (row_len (HS.out.at2)).symm
  unfold ground_Ground_Wipe.f at H
  go_enter Try.func47, Try.ntmps47
  go_wp2_with fail
  obtain ⟨t2619, HA2620, H⟩ := bind_some H
  refine (ground_Ground_Conf.calls l2580 a2585 a2586 a2587 a2588 a2589 g2576 g2578 A2581 l2580.length n2583 t2619 _ ⟨HS.out.begin⟩ HA2620).mono ?_
  rintro e_ w2621 ⟨rfl, hS⟩
  replace HS : Aside0 (Sep FF w [b13 g2576 g2578 a2586 a2587 a2588 a2589, b12 g2578 A2581 l2580.length n2583 a2585, r11 A2581 l2580.length n2583 l2580] w2621) := ⟨HS.out.call hS⟩
  clear hS
  have fl2622 : ∀ w, (Instr.field 49 (.agg #[.int .i64 t2619.1, .int .i64 t2619.2.1, .int .i64 t2619.2.2.1, .int .i64 t2619.2.2.2]) 1).run Try.prog w = .ok (.int .i64 t2619.2.1) w := fun _ => by kernel_rfl
  go_wp2_with fail
  clear fl2622
  obtain ⟨o2635, AL2636, H⟩ := bind_some H
  go_loopg [5, 10] k (fun kq v5 v10 wc => ∃ (x2639 : Int) (x2640 : Int) (x2641 : List Int) (x2642 : Int), v5 = .int .i64 x2639 ∧ v10 = .int .i64 x2640 ∧ Aside0 (ground_Ground_Wipe.lo0 kq a2586 a2587 a2588 a2589 a2590 t2619 x2639 x2640 x2641 x2642 = some o2635) ∧ Aside0 (Sep FF w [b13 g2576 g2578 a2586 a2587 a2588 a2589, b12 g2578 A2581 l2580.length n2583 x2642, r11 A2581 l2580.length n2583 x2641] wc))
  case atStart => exact ⟨(0), (0), (l2580), (a2585), (by first | rfl | (simp [IntKind.wrap_u32]; done)), (by first | rfl | (simp [IntKind.wrap_u32]; done)), AL2636, ⟨HS.out⟩⟩
  case round =>
    clear AL2636 HS
    obtain ⟨x2639, x2640, x2641, x2642, rfl, rfl, AL2636, HS⟩ := hrel
    obtain ⟨w2637, rfl⟩ : ∃ x : World, x = wr := ⟨_, rfl⟩
    cases gk with
    | zero => exact absurd AL2636.out (by simp [ground_Ground_Wipe.lo0])
    | succ k2638 =>
      have AL0 := AL2636.out
      rw [ground_Ground_Wipe.lo0] at AL0
      clear AL2636
      have AL2636 := Aside0.mk AL0
      clear AL0
      by_cases c2643 : x2640 < t2619.2.1
      · have AL2636 := if_yes c2643 AL2636
        have c2643b0 : decide (x2640 < t2619.2.1) = true := decide_eq_true c2643
        clear c2643
        go_wp2_with fail
        obtain ⟨t2631, HA2644, AL2636⟩ := bind_some AL2636
        refine (ground_Ground_SetWord.calls x2641 x2642 a2586 a2587 a2588 a2589 a2590 x2640 0 g2576 g2578 A2581 l2580.length n2583 t2631 _ ⟨HS.out.begin⟩ HA2644).mono ?_
        rintro e_ w2645 ⟨rfl, hS⟩
        replace HS : Aside0 (Sep FF w [b13 g2576 g2578 a2586 a2587 a2588 a2589, b12 g2578 A2581 l2580.length n2583 t2631.2.1, r11 A2581 l2580.length n2583 t2631.2.2] w2645) := ⟨HS.out.call hS⟩
        clear hS
        by_cases c2646 : t2631.1 = true
        · have AL2636 := if_yes c2646 AL2636
          have c2646b0 : t2631.1 = true := c2646
          have c2646b1 : (!t2631.1) = false := by rw [c2646b0]; rfl
          clear c2646
          go_wp2_with fail
          go_roundg k2638
          case measure => exact Nat.lt_succ_self _
          case rel => exact ⟨(wrap64 (x2639 + 1)), (wrap64 (x2640 + 1)), (t2631.2.2), (t2631.2.1), (by first | rfl | (simp [IntKind.wrap_u32]; done)), (by first | rfl | (simp [IntKind.wrap_u32]; done)), Aside0.mk AL2636.out, ⟨HS.out⟩⟩
        · have AL2636 := if_no c2646 AL2636
          have c2646b0 : t2631.1 = false := by simpa using c2646
          have c2646b1 : (!t2631.1) = true := by rw [c2646b0]; rfl
          clear c2646
          go_wp2_with fail
          go_roundg k2638
          case measure => exact Nat.lt_succ_self _
          case rel => exact ⟨(x2639), (wrap64 (x2640 + 1)), (t2631.2.2), (t2631.2.1), (by first | rfl | (simp [IntKind.wrap_u32]; done)), (by first | rfl | (simp [IntKind.wrap_u32]; done)), Aside0.mk AL2636.out, ⟨HS.out⟩⟩
      · have AL2636 := if_no c2643 AL2636
        have c2643b0 : decide (x2640 < t2619.2.1) = false := decide_eq_false c2643
        clear c2643
        have ho := some_eq AL2636
        subst ho
        clear AL2636
        go_wp2_with fail
        go_ret
        rw [← some_eq H]
        exact ⟨(by first | rfl | (simp [IntKind.wrap_u32]; done)), HS.out⟩

set_option maxHeartbeats 30000000 in
set_option maxRecDepth 100000 in
theorem pool_Take.calls (k : Nat) (l2436 : List Int) (a2441 : Int) (a2442 : Int) (a2443 : Int) (a2444 : Int) (a2445 : Int) (g2432 : Nat) (g2434 : Nat) (A2437 : Option Addr) (m2438 : Nat) (n2439 : Nat) (r : Int × Bool × Int × List Int) (w : World)   (HS : Aside0 (Sep (fps [b13 g2432 g2434 a2442 a2443 a2444 a2445, b12 g2434 A2437 m2438 n2439 a2441, r11 A2437 m2438 n2439 l2436]) w [b13 g2432 g2434 a2442 a2443 a2444 a2445, b12 g2434 A2437 m2438 n2439 a2441, r11 A2437 m2438 n2439 l2436] w)) (H : Aside0 (pool_Take.f k l2436 a2441 a2442 a2443 a2444 a2445 = some r)) :
    Calls Try.prog 63 #[.pointer (some ⟨g2432, 0, none⟩)] w fun e w' => e = .returned (.tuple #[.int .i64 r.1, .bool r.2.1]) ∧ Sep (fps [b13 g2432 g2434 a2442 a2443 a2444 a2445, b12 g2434 A2437 m2438 n2439 a2441, r11 A2437 m2438 n2439 l2436]) w [b13 g2432 g2434 a2442 a2443 a2444 a2445, b12 g2434 A2437 m2438 n2439 r.2.2.1, r11 A2437 m2438 n2439 r.2.2.2] w' := by
  generalize (fps [b13 g2432 g2434 a2442 a2443 a2444 a2445, b12 g2434 A2437 m2438 n2439 a2441, r11 A2437 m2438 n2439 l2436]) = FF at HS ⊢
  obtain rfl := (row_len (HS.out.at2)).symm
  unfold pool_Take.f at H
  go_enter Try.func63, Try.ntmps63
  go_wp2_with fail
  obtain ⟨t2651, HA2652, H⟩ := bind_some H
  refine (chain_Take.calls l2436 a2441 a2442 a2443 a2444 a2445 0 g2432 g2434 A2437 l2436.length n2439 t2651 _ ⟨HS.out.begin⟩ HA2652).mono ?_
  rintro e_ w2653 ⟨rfl, hS⟩
  replace HS : Aside0 (Sep FF w [b13 g2432 g2434 a2442 a2443 a2444 a2445, b12 g2434 A2437 l2436.length n2439 t2651.2.2.1, r11 A2437 l2436.length n2439 t2651.2.2.2] w2653) := ⟨HS.out.call hS⟩
  clear hS
  by_cases c2654 : t2651.2.1 = true
  · have H := if_yes c2654 H
    have c2654b0 : t2651.2.1 = true := c2654
    have c2654b1 : (!t2651.2.1) = false := by rw [c2654b0]; rfl
    try rw [c2654b1]
    clear c2654
    go_wp2_with fail
    obtain ⟨t2655, HA2656, H⟩ := bind_some H
    refine (ground_Ground_Wipe.calls _ t2651.2.2.2 t2651.2.2.1 a2442 a2443 a2444 a2445 t2651.1 g2432 g2434 A2437 l2436.length n2439 t2655 _ ⟨HS.out.begin⟩ HA2656).mono ?_
    rintro e_ w2657 ⟨rfl, hS⟩
    replace HS : Aside0 (Sep FF w [b13 g2432 g2434 a2442 a2443 a2444 a2445, b12 g2434 A2437 l2436.length n2439 t2655.2.1, r11 A2437 l2436.length n2439 t2655.2.2] w2657) := ⟨HS.out.call hS⟩
    clear hS
    go_wp2_with fail
    go_ret2
    rw [← some_eq H]
    exact ⟨(by first | rfl | (simp [IntKind.wrap_u32]; done)), HS.out⟩
  · have H := if_no c2654 H
    have c2654b0 : t2651.2.1 = false := by simpa using c2654
    have c2654b1 : (!t2651.2.1) = true := by rw [c2654b0]; rfl
    try rw [c2654b1]
    clear c2654
    go_wp2_with fail
    go_ret2
    rw [← some_eq H]
    exact ⟨(by first | rfl | (simp [IntKind.wrap_u32]; done)), HS.out⟩

set_option maxHeartbeats 30000000 in
set_option maxRecDepth 100000 in
theorem store_Store_Peek.calls (l2749 : List Int) (a2754 : Int) (a2755 : Int) (g2747 : Nat) (A2750 : Option Addr) (m2751 : Nat) (n2752 : Nat) (r : Int) (w : World)   (HS : Aside0 (Sep (fps [b12 g2747 A2750 m2751 n2752 a2754, r11 A2750 m2751 n2752 l2749]) w [b12 g2747 A2750 m2751 n2752 a2754, r11 A2750 m2751 n2752 l2749] w)) (H : Aside0 (store_Store_Peek.f l2749 a2754 a2755 = some r)) :
    Calls Try.prog 20 #[.pointer (some ⟨g2747, 0, none⟩), .int .i64 a2755] w fun e w' => e = .returned (.int .u32 r) ∧ Sep (fps [b12 g2747 A2750 m2751 n2752 a2754, r11 A2750 m2751 n2752 l2749]) w [b12 g2747 A2750 m2751 n2752 a2754, r11 A2750 m2751 n2752 l2749] w' := by
  generalize (fps [b12 g2747 A2750 m2751 n2752 a2754, r11 A2750 m2751 n2752 l2749]) = FF at HS ⊢
  obtain rfl := (row_len (HS.out.at1)).symm
  unfold store_Store_Peek.f at H
  go_enter Try.func20, Try.ntmps20
  go_wp2_with fail
  obtain ⟨t2756, HA2757, H⟩ := bind_some H
  refine (store_Store_has.calls l2749 a2754 a2755 g2747 A2750 l2749.length n2752 t2756 _ ⟨HS.out.begin⟩ HA2757).mono ?_
  rintro e_ w2758 ⟨rfl, hS⟩
  replace HS : Aside0 (Sep FF w [b12 g2747 A2750 l2749.length n2752 a2754, r11 A2750 l2749.length n2752 l2749] w2758) := ⟨HS.out.call hS⟩
  clear hS
  by_cases c2759 : t2756 = true
  · have H := if_yes c2759 H
    have c2759b0 : t2756 = true := c2759
    have c2759b1 : (!t2756) = false := by rw [c2759b0]; rfl
    try rw [c2759b1]
    clear c2759
    by_cases c2761 : 0 ≤ a2755
    · have H := if_yes c2761 H
      have c2761b0 : decide (0 ≤ a2755) = true := decide_eq_true c2761
      have c2761p : (0 ≤ a2755) = True := eq_true c2761
      clear c2761
      by_cases c2762 : a2755 < (l2749.length : Int)
      · have H := if_yes c2762 H
        have c2762b0 : decide (a2755 < (l2749.length : Int)) = true := decide_eq_true c2762
        have c2762p : (a2755 < (l2749.length : Int)) = True := eq_true c2762
        clear c2762
        have hc2760 : w2758.cell? ⟨g2747, 0, none⟩ = some (.slice A2750 l2749.length n2752) := blk_cellv (HS.out.at0) 0 rfl
        obtain ⟨g2763, ea⟩ := row_at (HS.out.at1) (by have := (of_decide_eq_true c2761b0); have := (of_decide_eq_true c2762b0); omega); cases ea
        have hx2764 := C_at_int (row_Ci (HS.out.at1)) a2755 (of_decide_eq_true c2761b0) (of_decide_eq_true c2762b0)
        have hx2765 : w2758.cell? ⟨g2763, (a2755).toNat, none⟩ = some (.int .u32 (rd l2749 a2755)) := (row_get 0 (HS.out.at1) a2755 (of_decide_eq_true c2761b0) (of_decide_eq_true c2762b0)).1
        go_wp2_with fail
        clear hc2760 hx2764 hx2765
        go_ret
        rw [← some_eq H]
        exact ⟨(by first | rfl | (simp [IntKind.wrap_u32]; done)), HS.out⟩
      · have H := if_no c2762 H
        have c2762b0 : decide (a2755 < (l2749.length : Int)) = false := decide_eq_false c2762
        clear c2762
        exact (none_no H).elim
    · have H := if_no c2761 H
      have c2761b0 : decide (0 ≤ a2755) = false := decide_eq_false c2761
      clear c2761
      exact (none_no H).elim
  · have H := if_no c2759 H
    have c2759b0 : t2756 = false := by simpa using c2759
    have c2759b1 : (!t2756) = true := by rw [c2759b0]; rfl
    try rw [c2759b1]
    clear c2759
    go_wp2_with fail
    go_ret
    rw [← some_eq H]
    exact ⟨(by first | rfl | (simp [IntKind.wrap_u32]; done)), HS.out⟩

set_option maxHeartbeats 30000000 in
set_option maxRecDepth 100000 in
theorem ground_Ground_SeeReg.calls (l2729 : List Int) (a2734 : Int) (a2735 : Int) (a2736 : Int) (a2737 : Int) (a2738 : Int) (a2739 : Int) (g2725 : Nat) (g2727 : Nat) (A2730 : Option Addr) (m2731 : Nat) (n2732 : Nat) (r : Int) (w : World)   (HS : Aside0 (Sep (fps [b13 g2725 g2727 a2735 a2736 a2737 a2738, b12 g2727 A2730 m2731 n2732 a2734, r11 A2730 m2731 n2732 l2729]) w [b13 g2725 g2727 a2735 a2736 a2737 a2738, b12 g2727 A2730 m2731 n2732 a2734, r11 A2730 m2731 n2732 l2729] w)) (H : Aside0 (ground_Ground_SeeReg.f l2729 a2734 a2735 a2736 a2737 a2738 a2739 = some r)) :
    Calls Try.prog 48 #[.pointer (some ⟨g2725, 0, none⟩), .int .i64 a2739] w fun e w' => e = .returned (.int .i64 r) ∧ Sep (fps [b13 g2725 g2727 a2735 a2736 a2737 a2738, b12 g2727 A2730 m2731 n2732 a2734, r11 A2730 m2731 n2732 l2729]) w [b13 g2725 g2727 a2735 a2736 a2737 a2738, b12 g2727 A2730 m2731 n2732 a2734, r11 A2730 m2731 n2732 l2729] w' := by
  generalize (fps [b13 g2725 g2727 a2735 a2736 a2737 a2738, b12 g2727 A2730 m2731 n2732 a2734, r11 A2730 m2731 n2732 l2729]) = FF at HS ⊢
  obtain rfl := (row_len (HS.out.at2)).symm
  unfold ground_Ground_SeeReg.f at H
  go_enter Try.func48, Try.ntmps48
  go_wp2_with fail
  obtain ⟨t2740, HA2741, H⟩ := bind_some H
  refine (ground_Ground_all.calls l2729 a2734 a2735 a2736 a2737 a2738 g2725 g2727 A2730 l2729.length n2732 t2740 _ ⟨HS.out.begin⟩ HA2741).mono ?_
  rintro e_ w2742 ⟨rfl, hS⟩
  replace HS : Aside0 (Sep FF w [b13 g2725 g2727 a2735 a2736 a2737 a2738, b12 g2727 A2730 l2729.length n2732 a2734, r11 A2730 l2729.length n2732 l2729] w2742) := ⟨HS.out.call hS⟩
  clear hS
  go_wp2_with fail
  obtain ⟨t2743, HA2744, H⟩ := bind_some H
  refine (ground_reg.calls a2739 t2743 _ ⟨Sep.start _⟩ HA2744).mono ?_
  rintro e_ w2745 ⟨rfl, hS⟩
  replace HS : Aside0 (Sep FF w [b13 g2725 g2727 a2735 a2736 a2737 a2738, b12 g2727 A2730 l2729.length n2732 a2734, r11 A2730 l2729.length n2732 l2729] w2745) := ⟨HS.out.call hS⟩
  clear hS
  go_wp2_with fail
  replace HS : Aside0 (Sep FF w [r11 A2730 l2729.length n2732 l2729, b13 g2725 g2727 a2735 a2736 a2737 a2738, b12 g2727 A2730 l2729.length n2732 a2734] w2745) := ⟨HS.out.front 2 (by simp)⟩
  replace HS : Aside0 (Sep FF w [b12 g2727 A2730 l2729.length n2732 a2734, r11 A2730 l2729.length n2732 l2729, b13 g2725 g2727 a2735 a2736 a2737 a2738] w2745) := ⟨HS.out.front 2 (by simp)⟩
  obtain ⟨t2766, HA2767, H⟩ := bind_some H
  refine (store_Store_Peek.calls l2729 a2734 t2743 g2727 A2730 l2729.length n2732 t2766 _ ⟨HS.out.begin⟩ HA2767).mono ?_
  rintro e_ w2768 ⟨rfl, hS⟩
  replace HS : Aside0 (Sep FF w [b12 g2727 A2730 l2729.length n2732 a2734, r11 A2730 l2729.length n2732 l2729, b13 g2725 g2727 a2735 a2736 a2737 a2738] w2768) := ⟨HS.out.call hS⟩
  clear hS
  go_wp2_with fail
  go_ret
  rw [← some_eq H]
  exact ⟨(by first | rfl | (simp [IntKind.wrap_u32]; done)), ((((HS.out).front 1 (by simp)).front 1 (by simp)).front 2 (by simp)).keep (l := [b13 g2725 g2727 a2735 a2736 a2737 a2738, b12 g2727 A2730 l2729.length n2732 a2734, r11 A2730 l2729.length n2732 l2729]) (rest := [])⟩

set_option maxHeartbeats 30000000 in
set_option maxRecDepth 100000 in
theorem ground_Ground_SeeWord.calls (l2806 : List Int) (a2811 : Int) (a2812 : Int) (a2813 : Int) (a2814 : Int) (a2815 : Int) (a2816 : Int) (a2817 : Int) (g2802 : Nat) (g2804 : Nat) (A2807 : Option Addr) (m2808 : Nat) (n2809 : Nat) (r : Int) (w : World)   (HS : Aside0 (Sep (fps [b13 g2802 g2804 a2812 a2813 a2814 a2815, b12 g2804 A2807 m2808 n2809 a2811, r11 A2807 m2808 n2809 l2806]) w [b13 g2802 g2804 a2812 a2813 a2814 a2815, b12 g2804 A2807 m2808 n2809 a2811, r11 A2807 m2808 n2809 l2806] w)) (H : Aside0 (ground_Ground_SeeWord.f l2806 a2811 a2812 a2813 a2814 a2815 a2816 a2817 = some r)) :
    Calls Try.prog 50 #[.pointer (some ⟨g2802, 0, none⟩), .int .i64 a2816, .int .i64 a2817] w fun e w' => e = .returned (.int .u32 r) ∧ Sep (fps [b13 g2802 g2804 a2812 a2813 a2814 a2815, b12 g2804 A2807 m2808 n2809 a2811, r11 A2807 m2808 n2809 l2806]) w [b13 g2802 g2804 a2812 a2813 a2814 a2815, b12 g2804 A2807 m2808 n2809 a2811, r11 A2807 m2808 n2809 l2806] w' := by
  generalize (fps [b13 g2802 g2804 a2812 a2813 a2814 a2815, b12 g2804 A2807 m2808 n2809 a2811, r11 A2807 m2808 n2809 l2806]) = FF at HS ⊢
  obtain rfl := (row_len (HS.out.at2)).symm
  unfold ground_Ground_SeeWord.f at H
  go_enter Try.func50, Try.ntmps50
  go_wp2_with fail
  obtain ⟨t2818, HA2819, H⟩ := bind_some H
  refine (ground_Ground_all.calls l2806 a2811 a2812 a2813 a2814 a2815 g2802 g2804 A2807 l2806.length n2809 t2818 _ ⟨HS.out.begin⟩ HA2819).mono ?_
  rintro e_ w2820 ⟨rfl, hS⟩
  replace HS : Aside0 (Sep FF w [b13 g2802 g2804 a2812 a2813 a2814 a2815, b12 g2804 A2807 l2806.length n2809 a2811, r11 A2807 l2806.length n2809 l2806] w2820) := ⟨HS.out.call hS⟩
  clear hS
  go_wp2_with fail
  obtain ⟨t2821, HA2822, H⟩ := bind_some H
  refine (ground_Ground_word.calls l2806 a2811 a2812 a2813 a2814 a2815 a2816 a2817 g2802 g2804 A2807 l2806.length n2809 t2821 _ ⟨HS.out.begin⟩ HA2822).mono ?_
  rintro e_ w2823 ⟨rfl, hS⟩
  replace HS : Aside0 (Sep FF w [b13 g2802 g2804 a2812 a2813 a2814 a2815, b12 g2804 A2807 l2806.length n2809 a2811, r11 A2807 l2806.length n2809 l2806] w2823) := ⟨HS.out.call hS⟩
  clear hS
  go_wp2_with fail
  replace HS : Aside0 (Sep FF w [r11 A2807 l2806.length n2809 l2806, b13 g2802 g2804 a2812 a2813 a2814 a2815, b12 g2804 A2807 l2806.length n2809 a2811] w2823) := ⟨HS.out.front 2 (by simp)⟩
  replace HS : Aside0 (Sep FF w [b12 g2804 A2807 l2806.length n2809 a2811, r11 A2807 l2806.length n2809 l2806, b13 g2802 g2804 a2812 a2813 a2814 a2815] w2823) := ⟨HS.out.front 2 (by simp)⟩
  obtain ⟨t2824, HA2825, H⟩ := bind_some H
  refine (store_Store_Peek.calls l2806 a2811 t2821 g2804 A2807 l2806.length n2809 t2824 _ ⟨HS.out.begin⟩ HA2825).mono ?_
  rintro e_ w2826 ⟨rfl, hS⟩
  replace HS : Aside0 (Sep FF w [b12 g2804 A2807 l2806.length n2809 a2811, r11 A2807 l2806.length n2809 l2806, b13 g2802 g2804 a2812 a2813 a2814 a2815] w2826) := ⟨HS.out.call hS⟩
  clear hS
  go_wp2_with fail
  go_ret
  rw [← some_eq H]
  exact ⟨(by first | rfl | (simp [IntKind.wrap_u32]; done)), ((((HS.out).front 1 (by simp)).front 1 (by simp)).front 2 (by simp)).keep (l := [b13 g2802 g2804 a2812 a2813 a2814 a2815, b12 g2804 A2807 l2806.length n2809 a2811, r11 A2807 l2806.length n2809 l2806]) (rest := [])⟩

set_option maxHeartbeats 30000000 in
set_option maxRecDepth 100000 in
theorem chain_List.calls (k : Nat) (l2698 : List Int) (a2703 : Int) (a2704 : Int) (a2705 : Int) (a2706 : Int) (a2707 : Int) (a2708 : Int) (g2694 : Nat) (g2696 : Nat) (A2699 : Option Addr) (m2700 : Nat) (n2701 : Nat) (r : List Int) (w : World)   (HS : Aside0 (Sep (fps [b13 g2694 g2696 a2704 a2705 a2706 a2707, b12 g2696 A2699 m2700 n2701 a2703, r11 A2699 m2700 n2701 l2698]) w [b13 g2694 g2696 a2704 a2705 a2706 a2707, b12 g2696 A2699 m2700 n2701 a2703, r11 A2699 m2700 n2701 l2698] w)) (H : Aside0 (chain_List.f k l2698 a2703 a2704 a2705 a2706 a2707 a2708 = some r)) :
    Calls Try.prog 56 #[.pointer (some ⟨g2694, 0, none⟩), .int .i64 a2708] w fun e w' => ∃ (A2857 : Option Addr) (m2858 : Nat) (n2859 : Nat), e = .returned (.slice A2857 m2858 n2859) ∧ Sep (fps [b13 g2694 g2696 a2704 a2705 a2706 a2707, b12 g2696 A2699 m2700 n2701 a2703, r11 A2699 m2700 n2701 l2698]) w [b13 g2694 g2696 a2704 a2705 a2706 a2707, b12 g2696 A2699 m2700 n2701 a2703, r11 A2699 m2700 n2701 l2698, r7 A2857 m2858 n2859 r] w' := by
  generalize (fps [b13 g2694 g2696 a2704 a2705 a2706 a2707, b12 g2696 A2699 m2700 n2701 a2703, r11 A2699 m2700 n2701 l2698]) = FF at HS ⊢
  obtain rfl := (row_len (HS.out.at2)).symm
  unfold chain_List.f at H
  go_enter Try.func56, Try.ntmps56
  go_wp2_with fail
  obtain ⟨t2709, HA2710, H⟩ := bind_some H
  refine (chain_of.calls l2698 a2703 a2704 a2705 a2706 a2707 a2708 g2694 g2696 A2699 l2698.length n2701 t2709 _ ⟨HS.out.begin⟩ HA2710).mono ?_
  rintro e_ w2711 ⟨rfl, hS⟩
  replace HS : Aside0 (Sep FF w [b13 g2694 g2696 a2704 a2705 a2706 a2707, b12 g2696 A2699 l2698.length n2701 a2703, r11 A2699 l2698.length n2701 l2698] w2711) := ⟨HS.out.call hS⟩
  clear hS
  by_cases c2722 : t2709.2.2.2 = true
  · have H := if_yes c2722 H
    have c2722b0 : t2709.2.2.2 = true := c2722
    have c2722b1 : (!t2709.2.2.2) = false := by rw [c2722b0]; rfl
    try rw [c2722b1]
    clear c2722
    go_wp2_with (first | ((with_reducible refine gate_dst (N := 5) rfl ?_); refine box_on ?hg (N := 5) ?hd (cs := #[.int .i64 0, .int .i64 0, .int .i64 0]) (t := 134) ?hr ?_; (case hd => rfl); (case hg => rfl); (case hr => first | (go_simp; done) | (go_simp; rfl)); intro g2712 hg w2713 hbox hb; replace HS : Aside0 (Sep FF w [b13 g2694 g2696 a2704 a2705 a2706 a2707, b12 g2696 A2699 l2698.length n2701 a2703, r11 A2699 l2698.length n2701 l2698, b1 g2712 0 0 0] w2713) := ⟨HS.out.box hg hbox hb⟩; clear hg hbox hb; have hc2715 : w2713.cell? ⟨g2712, 0, none⟩ = some (.int .i64 0) := blk_cellv (HS.out.at3) 0 rfl; have hz2716 : w2713.frozen? ⟨g2712, 0, none⟩ = false := blk_fz (HS.out.at3) 0; have hc2717 : w2713.cell? ⟨g2712, 1, none⟩ = some (.int .i64 0) := blk_cellv (HS.out.at3) 1 rfl; have hz2718 : w2713.frozen? ⟨g2712, 1, none⟩ = false := blk_fz (HS.out.at3) 1; have hc2719 : w2713.cell? ⟨g2712, 2, none⟩ = some (.int .i64 0) := blk_cellv (HS.out.at3) 2 rfl; have hz2720 : w2713.frozen? ⟨g2712, 2, none⟩ = false := blk_fz (HS.out.at3) 2) | ((with_reducible refine gate_store (t := 134) (p := 5) rfl ?_); refine store_event (w1 := (World.setCell (World.setCell (World.setCell w2713 ⟨g2712, 0, none⟩ (.int .i64 t2709.1)) ⟨g2712, 1, none⟩ (.int .i64 t2709.2.1)) ⟨g2712, 2, none⟩ (.int .i64 t2709.2.2.1))) rfl (t := 134) (p := 5) rfl rfl ?hr ?_; (case hr => first | (go_simp; done) | (go_simp; rfl)); intro w2721 hst; clear hc2715 hz2716 hc2717 hz2718 hc2719 hz2720; replace HS : Aside0 (Sep FF w [b13 g2694 g2696 a2704 a2705 a2706 a2707, b12 g2696 A2699 l2698.length n2701 a2703, r11 A2699 l2698.length n2701 l2698, b1 g2712 t2709.1 t2709.2.1 t2709.2.2.1] w2721) := ⟨by rw [hst]; exact HS.out.setAll (l1 := [b13 g2694 g2696 a2704 a2705 a2706 a2707, b12 g2696 A2699 l2698.length n2701 a2703, r11 A2699 l2698.length n2701 l2698]) (l2 := []) [.int .i64 t2709.1, .int .i64 t2709.2.1, .int .i64 t2709.2.2.1] rfl⟩; clear hst; have hc2723 : w2721.cell? ⟨g2712, 0, none⟩ = some (.int .i64 t2709.1) := blk_cellv (HS.out.at3) 0 rfl))
    clear hc2723
    obtain ⟨t2769, HA2770, H⟩ := bind_some H
    refine (ground_Ground_SeeReg.calls l2698 a2703 a2704 a2705 a2706 a2707 t2709.1 g2694 g2696 A2699 l2698.length n2701 t2769 _ ⟨HS.out.begin⟩ HA2770).mono ?_
    rintro e_ w2771 ⟨rfl, hS⟩
    replace HS : Aside0 (Sep FF w [b13 g2694 g2696 a2704 a2705 a2706 a2707, b12 g2696 A2699 l2698.length n2701 a2703, r11 A2699 l2698.length n2701 l2698, b1 g2712 t2709.1 t2709.2.1 t2709.2.2.1] w2771) := ⟨HS.out.call hS⟩
    clear hS
    replace HS : Aside0 (Sep FF w [b13 g2694 g2696 a2704 a2705 a2706 a2707, b12 g2696 A2699 l2698.length n2701 a2703, r11 A2699 l2698.length n2701 l2698] w2771) := ⟨HS.out.sub (.cons_cons _ (.cons_cons _ (.cons_cons _ (.cons _ .slnil))))⟩
    go_wp2_with fail
    replace HS : Aside0 (Sep FF w [r7 none 0 0 [], b13 g2694 g2696 a2704 a2705 a2706 a2707, b12 g2696 A2699 l2698.length n2701 a2703, r11 A2699 l2698.length n2701 l2698] w2771) := ⟨HS.out.nilrow 3 (Value.int .i64)⟩
    obtain ⟨o2773, AL2774, H⟩ := bind_some H
    go_loopg [7, 8] k (fun kq v7 v8 wc => ∃ (x2779 : Int) (x2780 : List Int) (A2781 : Option Addr) (m2782 : Nat) (n2783 : Nat), v7 = .slice A2781 m2782 n2783 ∧ v8 = .int .i64 x2779 ∧ Aside0 (chain_List.lo0 kq l2698 a2703 a2704 a2705 a2706 a2707 x2779 x2780 = some o2773) ∧ Aside0 (Sep FF w [r7 A2781 m2782 n2783 x2780, b13 g2694 g2696 a2704 a2705 a2706 a2707, b12 g2696 A2699 l2698.length n2701 a2703, r11 A2699 l2698.length n2701 l2698] wc))
    case atStart => exact ⟨(t2769), (([] : List Int)), (none), (0), (0), (by first | rfl | (simp [IntKind.wrap_u32]; done)), (by first | rfl | (simp [IntKind.wrap_u32]; done)), AL2774, ⟨HS.out⟩⟩
    case round =>
      clear AL2774 HS
      obtain ⟨x2779, x2780, A2781, m2782, n2783, rfl, rfl, AL2774, HS⟩ := hrel
      obtain ⟨w2775, rfl⟩ : ∃ x : World, x = wr := ⟨_, rfl⟩
      obtain rfl := (row_len (HS.out.at0)).symm
      cases gk with
      | zero => exact absurd AL2774.out (by simp [chain_List.lo0])
      | succ k2776 =>
        have AL0 := AL2774.out
        rw [chain_List.lo0] at AL0
        clear AL2774
        have AL2774 := Aside0.mk AL0
        clear AL0
        by_cases c2785 : x2779 > 0
        · have AL2774 := if_yes c2785 AL2774
          have c2785b0 : decide (0 < x2779) = true := decide_eq_true c2785
          clear c2785
          go_wp2_with fail
          replace HS : Aside0 (Sep FF w [r11 A2699 l2698.length n2701 l2698, r7 A2781 x2780.length n2783 x2780, b13 g2694 g2696 a2704 a2705 a2706 a2707, b12 g2696 A2699 l2698.length n2701 a2703] w2775) := ⟨HS.out.front 3 (by simp)⟩
          replace HS : Aside0 (Sep FF w [b12 g2696 A2699 l2698.length n2701 a2703, r11 A2699 l2698.length n2701 l2698, r7 A2781 x2780.length n2783 x2780, b13 g2694 g2696 a2704 a2705 a2706 a2707] w2775) := ⟨HS.out.front 3 (by simp)⟩
          replace HS : Aside0 (Sep FF w [b13 g2694 g2696 a2704 a2705 a2706 a2707, b12 g2696 A2699 l2698.length n2701 a2703, r11 A2699 l2698.length n2701 l2698, r7 A2781 x2780.length n2783 x2780] w2775) := ⟨HS.out.front 3 (by simp)⟩
          obtain ⟨t2786, HA2787, AL2774⟩ := bind_some AL2774
          refine (ground_Ground_Conf.calls l2698 a2703 a2704 a2705 a2706 a2707 g2694 g2696 A2699 l2698.length n2701 t2786 _ ⟨HS.out.begin⟩ HA2787).mono ?_
          rintro e_ w2788 ⟨rfl, hS⟩
          replace HS : Aside0 (Sep FF w [b13 g2694 g2696 a2704 a2705 a2706 a2707, b12 g2696 A2699 l2698.length n2701 a2703, r11 A2699 l2698.length n2701 l2698, r7 A2781 x2780.length n2783 x2780] w2788) := ⟨HS.out.call hS⟩
          clear hS
          by_cases c2790 : (x2780.length : Int) < t2786.1
          · have AL2774 := if_yes c2790 AL2774
            have c2790b0 : decide ((x2780.length : Int) < t2786.1) = true := decide_eq_true c2790
            clear c2790
            by_cases c2794 : x2780.length < 17592186044416
            · have AL2774 := if_yes c2794 AL2774
              have c2794b0 : decide (x2780.length < 17592186044416) = true := decide_eq_true c2794
              clear c2794
              obtain ⟨y2798, HA2799, AL2774⟩ := bind_some AL2774
              have fl2789 : ∀ w, (Instr.field 49 (.agg #[.int .i64 t2786.1, .int .i64 t2786.2.1, .int .i64 t2786.2.2.1, .int .i64 t2786.2.2.2]) 0).run Try.prog w = .ok (.int .i64 t2786.1) w := fun _ => by kernel_rfl
              go_wp2_with (first | ((with_reducible refine gate_dst (N := 39) rfl ?_); refine slice_on (n := 1) ?hg (N := 39) ?hd (cs := #[.int .i64 (wrap64 (x2779 - 1))]) (t := 3) ?hr ?_; (case hd => rfl); (case hg => rfl); (case hr => first | (go_simp; done) | (go_simp; rfl)); intro g2791 hg w2792 hbox hb; clear fl2789; replace HS : Aside0 (Sep FF w [b13 g2694 g2696 a2704 a2705 a2706 a2707, b12 g2696 A2699 l2698.length n2701 a2703, r11 A2699 l2698.length n2701 l2698, r7 A2781 x2780.length n2783 x2780, b6 g2791 (wrap64 (x2779 - 1))] w2792) := ⟨HS.out.box hg hbox hb⟩; clear hg hbox hb) | ((with_reducible refine gate_dst (N := 40) rfl ?_); refine append_event (l1 := [b13 g2694 g2696 a2704 a2705 a2706 a2707, b12 g2696 A2699 l2698.length n2701 a2703, r11 A2699 l2698.length n2701 l2698]) (l2 := [b6 g2791 (wrap64 (x2779 - 1))]) rfl (.tmp 36) (.tmp 39) 78 3 (.int .i64 0) 8 rfl Try.underlying78 (by kernel_rfl) rfl (by decide) (Value.int .i64) (fun _ => rfl) (.slice A2781 x2780.length n2783) (x2780 : List Int) [wrap64 (x2779 - 1)] ⟨g2791, 0, none⟩ 1 rfl rfl (blk_news (xs := [wrap64 (x2779 - 1)]) (HS.out.at4)) HS.out (by have := of_decide_eq_true c2794b0; simp only [List.length_cons, List.length_nil]; omega) HA2799 ?_; intro A2795 n2796 w2797 HS1; replace HS : Aside0 (Sep FF w [b13 g2694 g2696 a2704 a2705 a2706 a2707, b12 g2696 A2699 l2698.length n2701 a2703, r11 A2699 l2698.length n2701 l2698, r7 A2795 y2798.length n2796 y2798, b6 g2791 (wrap64 (x2779 - 1))] w2797) := ⟨HS1⟩; clear HS1; replace HS : Aside0 (Sep FF w [b13 g2694 g2696 a2704 a2705 a2706 a2707, b12 g2696 A2699 l2698.length n2701 a2703, r11 A2699 l2698.length n2701 l2698, r7 A2795 y2798.length n2796 y2798] w2797) := ⟨HS.out.sub (.cons_cons _ (.cons_cons _ (.cons_cons _ (.cons_cons _ (.cons _ .slnil)))))⟩))
              obtain ⟨t2827, HA2828, AL2774⟩ := bind_some AL2774
              refine (ground_Ground_SeeWord.calls l2698 a2703 a2704 a2705 a2706 a2707 (wrap64 (x2779 - 1)) 5 g2694 g2696 A2699 l2698.length n2701 t2827 _ ⟨HS.out.begin⟩ HA2828).mono ?_
              rintro e_ w2829 ⟨rfl, hS⟩
              replace HS : Aside0 (Sep FF w [b13 g2694 g2696 a2704 a2705 a2706 a2707, b12 g2696 A2699 l2698.length n2701 a2703, r11 A2699 l2698.length n2701 l2698, r7 A2795 y2798.length n2796 y2798] w2829) := ⟨HS.out.call hS⟩
              clear hS
              go_wp2_with fail
              go_roundg k2776
              case measure => exact Nat.lt_succ_self _
              case rel => exact ⟨(wrap64 (t2827)), (y2798), (A2795), (y2798.length), (n2796), (by first | rfl | (simp [IntKind.wrap_u32]; done)), (by first | rfl | (simp [IntKind.wrap_u32]; done)), Aside0.mk AL2774.out, ⟨(((((HS.out).front 2 (by simp)).front 2 (by simp)).front 2 (by simp)).front 3 (by simp)).keep (l := [r7 A2795 y2798.length n2796 y2798, b13 g2694 g2696 a2704 a2705 a2706 a2707, b12 g2696 A2699 l2698.length n2701 a2703, r11 A2699 l2698.length n2701 l2698]) (rest := [])⟩⟩
            · have AL2774 := if_no c2794 AL2774
              have c2794b0 : decide (x2780.length < 17592186044416) = false := decide_eq_false c2794
              clear c2794
              exact (none_no AL2774).elim
          · have AL2774 := if_no c2790 AL2774
            have c2790b0 : decide ((x2780.length : Int) < t2786.1) = false := decide_eq_false c2790
            clear c2790
            have ho := some_eq AL2774
            subst ho
            clear AL2774
            have fl2789 : ∀ w, (Instr.field 49 (.agg #[.int .i64 t2786.1, .int .i64 t2786.2.1, .int .i64 t2786.2.2.1, .int .i64 t2786.2.2.2]) 0).run Try.prog w = .ok (.int .i64 t2786.1) w := fun _ => by kernel_rfl
            go_wp2_with fail
            clear fl2789
            go_ret
            rw [← some_eq H]
            exact ⟨A2781, x2780.length, n2783, (by first | rfl | (simp [IntKind.wrap_u32]; done)), HS.out⟩
        · have AL2774 := if_no c2785 AL2774
          have c2785b0 : decide (0 < x2779) = false := decide_eq_false c2785
          clear c2785
          have ho := some_eq AL2774
          subst ho
          clear AL2774
          go_wp2_with fail
          go_ret
          rw [← some_eq H]
          exact ⟨A2781, x2780.length, n2783, (by first | rfl | (simp [IntKind.wrap_u32]; done)), ((((HS.out).front 3 (by simp)).front 3 (by simp)).front 3 (by simp)).keep (l := [b13 g2694 g2696 a2704 a2705 a2706 a2707, b12 g2696 A2699 l2698.length n2701 a2703, r11 A2699 l2698.length n2701 l2698, r7 A2781 x2780.length n2783 x2780]) (rest := [])⟩
  · have H := if_no c2722 H
    have c2722b0 : t2709.2.2.2 = false := by simpa using c2722
    have c2722b1 : (!t2709.2.2.2) = true := by rw [c2722b0]; rfl
    try rw [c2722b1]
    clear c2722
    go_wp2_with (first | ((with_reducible refine gate_dst (N := 5) rfl ?_); refine box_on ?hg (N := 5) ?hd (cs := #[.int .i64 0, .int .i64 0, .int .i64 0]) (t := 134) ?hr ?_; (case hd => rfl); (case hg => rfl); (case hr => first | (go_simp; done) | (go_simp; rfl)); intro g2712 hg w2713 hbox hb; replace HS : Aside0 (Sep FF w [b13 g2694 g2696 a2704 a2705 a2706 a2707, b12 g2696 A2699 l2698.length n2701 a2703, r11 A2699 l2698.length n2701 l2698, b1 g2712 0 0 0] w2713) := ⟨HS.out.box hg hbox hb⟩; clear hg hbox hb; have hc2715 : w2713.cell? ⟨g2712, 0, none⟩ = some (.int .i64 0) := blk_cellv (HS.out.at3) 0 rfl; have hz2716 : w2713.frozen? ⟨g2712, 0, none⟩ = false := blk_fz (HS.out.at3) 0; have hc2717 : w2713.cell? ⟨g2712, 1, none⟩ = some (.int .i64 0) := blk_cellv (HS.out.at3) 1 rfl; have hz2718 : w2713.frozen? ⟨g2712, 1, none⟩ = false := blk_fz (HS.out.at3) 1; have hc2719 : w2713.cell? ⟨g2712, 2, none⟩ = some (.int .i64 0) := blk_cellv (HS.out.at3) 2 rfl; have hz2720 : w2713.frozen? ⟨g2712, 2, none⟩ = false := blk_fz (HS.out.at3) 2) | ((with_reducible refine gate_store (t := 134) (p := 5) rfl ?_); refine store_event (w1 := (World.setCell (World.setCell (World.setCell w2713 ⟨g2712, 0, none⟩ (.int .i64 t2709.1)) ⟨g2712, 1, none⟩ (.int .i64 t2709.2.1)) ⟨g2712, 2, none⟩ (.int .i64 t2709.2.2.1))) rfl (t := 134) (p := 5) rfl rfl ?hr ?_; (case hr => first | (go_simp; done) | (go_simp; rfl)); intro w2721 hst; clear hc2715 hz2716 hc2717 hz2718 hc2719 hz2720; replace HS : Aside0 (Sep FF w [b13 g2694 g2696 a2704 a2705 a2706 a2707, b12 g2696 A2699 l2698.length n2701 a2703, r11 A2699 l2698.length n2701 l2698, b1 g2712 t2709.1 t2709.2.1 t2709.2.2.1] w2721) := ⟨by rw [hst]; exact HS.out.setAll (l1 := [b13 g2694 g2696 a2704 a2705 a2706 a2707, b12 g2696 A2699 l2698.length n2701 a2703, r11 A2699 l2698.length n2701 l2698]) (l2 := []) [.int .i64 t2709.1, .int .i64 t2709.2.1, .int .i64 t2709.2.2.1] rfl⟩; clear hst; replace HS : Aside0 (Sep FF w [b13 g2694 g2696 a2704 a2705 a2706 a2707, b12 g2696 A2699 l2698.length n2701 a2703, r11 A2699 l2698.length n2701 l2698] w2721) := ⟨HS.out.sub (.cons_cons _ (.cons_cons _ (.cons_cons _ (.cons _ .slnil))))⟩))
    replace HS : Aside0 (Sep FF w [r7 none 0 0 [], b13 g2694 g2696 a2704 a2705 a2706 a2707, b12 g2696 A2699 l2698.length n2701 a2703, r11 A2699 l2698.length n2701 l2698] w2721) := ⟨HS.out.nilrow 3 (Value.int .i64)⟩
    go_ret
    rw [← some_eq H]
    exact ⟨none, 0, 0, (by first | rfl | (simp [IntKind.wrap_u32]; done)), ((((HS.out).front 3 (by simp)).front 3 (by simp)).front 3 (by simp)).keep (l := [b13 g2694 g2696 a2704 a2705 a2706 a2707, b12 g2696 A2699 l2698.length n2701 a2703, r11 A2699 l2698.length n2701 l2698, r7 none 0 0 []]) (rest := [])⟩

set_option maxHeartbeats 30000000 in
set_option maxRecDepth 100000 in
theorem pool_List.calls (k : Nat) (l2683 : List Int) (a2688 : Int) (a2689 : Int) (a2690 : Int) (a2691 : Int) (a2692 : Int) (g2679 : Nat) (g2681 : Nat) (A2684 : Option Addr) (m2685 : Nat) (n2686 : Nat) (r : List Int) (w : World)   (HS : Aside0 (Sep (fps [b13 g2679 g2681 a2689 a2690 a2691 a2692, b12 g2681 A2684 m2685 n2686 a2688, r11 A2684 m2685 n2686 l2683]) w [b13 g2679 g2681 a2689 a2690 a2691 a2692, b12 g2681 A2684 m2685 n2686 a2688, r11 A2684 m2685 n2686 l2683] w)) (H : Aside0 (pool_List.f k l2683 a2688 a2689 a2690 a2691 a2692 = some r)) :
    Calls Try.prog 64 #[.pointer (some ⟨g2679, 0, none⟩)] w fun e w' => ∃ (A2875 : Option Addr) (m2876 : Nat) (n2877 : Nat), e = .returned (.slice A2875 m2876 n2877) ∧ Sep (fps [b13 g2679 g2681 a2689 a2690 a2691 a2692, b12 g2681 A2684 m2685 n2686 a2688, r11 A2684 m2685 n2686 l2683]) w [b13 g2679 g2681 a2689 a2690 a2691 a2692, b12 g2681 A2684 m2685 n2686 a2688, r11 A2684 m2685 n2686 l2683, r7 A2875 m2876 n2877 r] w' := by
  generalize (fps [b13 g2679 g2681 a2689 a2690 a2691 a2692, b12 g2681 A2684 m2685 n2686 a2688, r11 A2684 m2685 n2686 l2683]) = FF at HS ⊢
  obtain rfl := (row_len (HS.out.at2)).symm
  unfold pool_List.f at H
  go_enter Try.func64, Try.ntmps64
  go_wp2_with fail
  obtain ⟨t2861, HA2862, H⟩ := bind_some H
  refine (chain_List.calls _ l2683 a2688 a2689 a2690 a2691 a2692 0 g2679 g2681 A2684 l2683.length n2686 t2861 _ ⟨HS.out.begin⟩ HA2862).mono ?_
  rintro e_ w2863 ⟨A2865, m2866, n2867, rfl, hS⟩
  replace HS : Aside0 (Sep FF w [b13 g2679 g2681 a2689 a2690 a2691 a2692, b12 g2681 A2684 l2683.length n2686 a2688, r11 A2684 l2683.length n2686 l2683, r7 A2865 m2866 n2867 t2861] w2863) := ⟨HS.out.call hS⟩
  clear hS
  obtain rfl := (row_len (HS.out.at3)).symm
  go_wp2_with fail
  go_ret
  rw [← some_eq H]
  exact ⟨A2865, t2861.length, n2867, (by first | rfl | (simp [IntKind.wrap_u32]; done)), HS.out⟩

set_option maxHeartbeats 30000000 in
set_option maxRecDepth 100000 in
theorem quitrentref01_Ints.calls (k : Nat) (l2890 : List Int) (l2894 : List Int) (A2891 : Option Addr) (n2892 : Nat) (A2895 : Option Addr) (n2896 : Nat) (r : Bool) (w : World) (HR2893 : Aside0 (Rd (Kd.int .i64) (fps []) w A2891 l2890.length l2890)) (HR2897 : Aside0 (Rd (Kd.int .i64) (fps []) w A2895 l2894.length l2894))  (HS : Aside0 (Sep (fps []) w [] w)) (H : Aside0 (quitrentref01_Ints.f k l2890 l2894 = some r)) :
    Calls Try.prog 68 #[.slice A2891 l2890.length n2892, .slice A2895 l2894.length n2896] w fun e w' => e = .returned (.bool r) ∧ Sep (fps []) w [] w' := by
  unfold quitrentref01_Ints.f at H
  go_enter Try.func68, Try.ntmps68
  by_cases c2898 : (l2890.length : Int) = (l2894.length : Int)
  · have H := if_yes c2898 H
    have c2898b0 : ((l2890.length : Int) == (l2894.length : Int)) = true := beq_iff_eq.mpr c2898
    have c2898b1 : ((l2890.length : Int) != (l2894.length : Int)) = false := bne_eq_false_iff_eq.mpr c2898
    clear c2898
    go_wp2_with fail
    obtain ⟨o2914, AL2915, H⟩ := bind_some H
    go_loopg [5] k (fun kq v5 wc => ∃ (x2918 : Int), v5 = .int .i64 x2918 ∧ Aside0 (quitrentref01_Ints.lo0 kq l2890 l2894 x2918 = some o2914) ∧ Aside0 (Sep (fps []) w [] wc))
    case atStart => exact ⟨(0), (by first | rfl | (simp [IntKind.wrap_u32]; done)), AL2915, ⟨HS.out⟩⟩
    case round =>
      clear AL2915 HS
      obtain ⟨x2918, rfl, AL2915, HS⟩ := hrel
      obtain ⟨w2916, rfl⟩ : ∃ x : World, x = wr := ⟨_, rfl⟩
      cases gk with
      | zero => exact absurd AL2915.out (by simp [quitrentref01_Ints.lo0])
      | succ k2917 =>
        have AL0 := AL2915.out
        rw [quitrentref01_Ints.lo0] at AL0
        clear AL2915
        have AL2915 := Aside0.mk AL0
        clear AL0
        by_cases c2919 : x2918 < (l2890.length : Int)
        · have AL2915 := if_yes c2919 AL2915
          have c2919b0 : decide (x2918 < (l2890.length : Int)) = true := decide_eq_true c2919
          clear c2919
          go_wp2_with fail
          refine start_ (n := 9) (S := (fun w' => Kd.C (Kd.int .i64) w' A2891 l2890.length l2890 ∧ Kd.C (Kd.int .i64) w' A2895 l2894.length l2894)) (ds := []) #[false, false, false, false, false, false, false, false, false] (by kernel_rfl) rfl rfl (⟨Rd.read (fun _ _ _ _ h => h) HR2893.out (HS.out.drew).fr, Rd.read (fun _ _ _ _ h => h) HR2897.out (HS.out.drew).fr⟩) (fun hHeld => ?_)
          have HS_ := Aside0.mk HS.out.drew
          clear HS
          generalize World.drew _ = w2921 at HS_ hHeld ⊢
          have HS := HS_
          clear HS_
          refine pure_ (i := 0) (N := some 17) (v := ?_) (a' := ?_) #[true, false, false, false, false, false, false, false, false] rfl rfl (by kernel_rfl) (fun _ _ _ h => h) (Or.inl ⟨by rfl, ?_⟩) ?_ ?_
          rotate_left
          · intro w'
            go_simp
            with_reducible rfl
          rotate_left
          · simp only [Act.put, List.setIfInBounds_toArray, List.set_cons_zero, List.set_cons_succ, i64_w, i32_w]
            rfl
          refine pure_ (i := 1) (N := some 18) (v := ?_) (a' := ?_) #[true, true, false, false, false, false, false, false, false] rfl rfl (by kernel_rfl) (fun _ _ _ h => h) (Or.inl ⟨by rfl, ?_⟩) ?_ ?_
          rotate_left
          · intro w'
            go_simp
            with_reducible rfl
          rotate_left
          · simp only [Act.put, List.setIfInBounds_toArray, List.set_cons_zero, List.set_cons_succ, i64_w, i32_w]
            rfl
          by_cases c2922 : 0 ≤ x2918
          · have AL2915 := if_yes c2922 AL2915
            have c2922b0 : decide (0 ≤ x2918) = true := decide_eq_true c2922
            have c2922p : (0 ≤ x2918) = True := eq_true c2922
            clear c2922
            have ip2923 : (x2918 < (l2890.length : Int)) = True := eq_true (of_decide_eq_true c2919b0)
            obtain ⟨ad2924, ea, _⟩ := Kd.at_int (Rd.read (fun _ _ _ _ h => h) HR2893.out HS.out.fr) x2918 (of_decide_eq_true c2922b0) (of_decide_eq_true c2919b0)
            cases ea
            refine pure_ (i := 2) (N := some 19) (v := ?_) (a' := ?_) #[true, true, true, false, false, false, false, false, false] rfl rfl (by kernel_rfl) (fun _ _ _ h => h) (Or.inl ⟨by rfl, ?_⟩) ?_ ?_
            rotate_left
            · intro w'
              go_simp
              with_reducible rfl
            rotate_left
            · simp only [Act.put, List.setIfInBounds_toArray, List.set_cons_zero, List.set_cons_succ, i64_w, i32_w]
              rfl
            refine pure_ (i := 4) (N := some 21) (v := ?_) (a' := ?_) #[true, true, true, false, true, false, false, false, false] rfl rfl (by kernel_rfl) (fun _ _ _ h => h) (Or.inl ⟨by rfl, ?_⟩) ?_ ?_
            rotate_left
            · intro w'
              go_simp
              with_reducible rfl
            rotate_left
            · simp only [Act.put, List.setIfInBounds_toArray, List.set_cons_zero, List.set_cons_succ, i64_w, i32_w]
              rfl
            refine pure_ (i := 5) (N := some 22) (v := ?_) (a' := ?_) #[true, true, true, false, true, true, false, false, false] rfl rfl (by kernel_rfl) (fun _ _ _ h => h) (Or.inl ⟨by rfl, ?_⟩) ?_ ?_
            rotate_left
            · intro w'
              go_simp
              with_reducible rfl
            rotate_left
            · simp only [Act.put, List.setIfInBounds_toArray, List.set_cons_zero, List.set_cons_succ, i64_w, i32_w]
              rfl
            by_cases c2925 : x2918 < (l2894.length : Int)
            · have AL2915 := if_yes c2925 AL2915
              have c2925b0 : decide (x2918 < (l2894.length : Int)) = true := decide_eq_true c2925
              have c2925p : (x2918 < (l2894.length : Int)) = True := eq_true c2925
              clear c2925
              obtain ⟨ad2926, ea, _⟩ := Kd.at_int (Rd.read (fun _ _ _ _ h => h) HR2897.out HS.out.fr) x2918 (of_decide_eq_true c2922b0) (of_decide_eq_true c2925b0)
              cases ea
              refine pure_ (i := 6) (N := some 23) (v := ?_) (a' := ?_) #[true, true, true, false, true, true, true, false, false] rfl rfl (by kernel_rfl) (fun _ _ _ h => h) (Or.inl ⟨by rfl, ?_⟩) ?_ ?_
              rotate_left
              · intro w'
                go_simp
                with_reducible rfl
              rotate_left
              · simp only [Act.put, List.setIfInBounds_toArray, List.set_cons_zero, List.set_cons_succ, i64_w, i32_w]
                rfl
              refine take_ (i := 3) (N := some 20) (v := ?_) (a' := ?_) #[true, true, true, true, true, true, true, false, false] rfl rfl (by kernel_rfl) (fun _ _ _ h => h) (Or.inl ⟨by rfl, ?_⟩) hHeld ?_ ?_
              rotate_left
              · rintro w' hS'
                obtain ⟨s0, s1⟩ := hS'
                have hx := C_at_int s0 x2918 (of_decide_eq_true c2922b0) (of_decide_eq_true c2919b0)
                go_simp
                with_reducible rfl
              rotate_left
              · simp only [Act.put, List.setIfInBounds_toArray, List.set_cons_zero, List.set_cons_succ, i64_w, i32_w]
                rfl
              refine take_ (i := 7) (N := some 24) (v := ?_) (a' := ?_) #[true, true, true, true, true, true, true, true, false] rfl rfl (by kernel_rfl) (fun _ _ _ h => h) (Or.inl ⟨by rfl, ?_⟩) hHeld ?_ ?_
              rotate_left
              · rintro w' hS'
                obtain ⟨s0, s1⟩ := hS'
                have hx := C_at_int s1 x2918 (of_decide_eq_true c2922b0) (of_decide_eq_true c2925b0)
                go_simp
                with_reducible rfl
              rotate_left
              · simp only [Act.put, List.setIfInBounds_toArray, List.set_cons_zero, List.set_cons_succ, i64_w, i32_w]
                rfl
              refine pure_ (i := 8) (N := some 25) (v := ?_) (a' := ?_) #[true, true, true, true, true, true, true, true, true] rfl rfl (by kernel_rfl) (fun _ _ _ h => h) (Or.inl ⟨by rfl, ?_⟩) ?_ ?_
              rotate_left
              · intro w'
                go_simp
                with_reducible rfl
              rotate_left
              · simp only [Act.put, List.setIfInBounds_toArray, List.set_cons_zero, List.set_cons_succ, i64_w, i32_w]
                rfl
              refine done_ (by kernel_rfl) ?_
              by_cases c2927 : (rd l2890 x2918) = (rd l2894 x2918)
              · have AL2915 := if_yes c2927 AL2915
                have c2927b0 : ((rd l2890 x2918) == (rd l2894 x2918)) = true := beq_iff_eq.mpr c2927
                have c2927b1 : ((rd l2890 x2918) != (rd l2894 x2918)) = false := bne_eq_false_iff_eq.mpr c2927
                clear c2927
                go_wp2_with fail
                go_roundg k2917
                case measure => exact Nat.lt_succ_self _
                case rel => exact ⟨(wrap64 (x2918 + 1)), (by first | rfl | (simp [IntKind.wrap_u32]; done)), Aside0.mk AL2915.out, ⟨HS.out⟩⟩
              · have AL2915 := if_no c2927 AL2915
                have c2927b0 : ((rd l2890 x2918) == (rd l2894 x2918)) = false := beq_eq_false_iff_ne.mpr c2927
                have c2927b1 : ((rd l2890 x2918) != (rd l2894 x2918)) = true := bne_iff_ne.mpr c2927
                clear c2927
                go_wp2_with fail
                have ho := some_eq AL2915
                subst ho
                have H := lp_ret H
                go_ret
                rw [← some_eq H]
                exact ⟨(by first | rfl | (simp [IntKind.wrap_u32]; done)), HS.out⟩
            · have AL2915 := if_no c2925 AL2915
              have c2925b0 : decide (x2918 < (l2894.length : Int)) = false := decide_eq_false c2925
              clear c2925
              exact (none_no AL2915).elim
          · have AL2915 := if_no c2922 AL2915
            have c2922b0 : decide (0 ≤ x2918) = false := decide_eq_false c2922
            clear c2922
            exact (none_no AL2915).elim
        · have AL2915 := if_no c2919 AL2915
          have c2919b0 : decide (x2918 < (l2890.length : Int)) = false := decide_eq_false c2919
          clear c2919
          have ho := some_eq AL2915
          subst ho
          clear AL2915
          have H := lp_out H
          go_wp2_with fail
          go_ret
          rw [← some_eq H]
          exact ⟨(by first | rfl | (simp [IntKind.wrap_u32]; done)), HS.out⟩
  · have H := if_no c2898 H
    have c2898b0 : ((l2890.length : Int) == (l2894.length : Int)) = false := beq_eq_false_iff_ne.mpr c2898
    have c2898b1 : ((l2890.length : Int) != (l2894.length : Int)) = true := bne_iff_ne.mpr c2898
    clear c2898
    go_wp2_with fail
    go_ret
    rw [← some_eq H]
    exact ⟨(by first | rfl | (simp [IntKind.wrap_u32]; done)), HS.out⟩

set_option maxHeartbeats 30000000 in
set_option maxRecDepth 100000 in
theorem quitrentlaw10_begun.calls (k : Nat)  (r : Bool) (w : World)   (HS : Aside0 (Sep (fps []) w [] w)) (H : Aside0 (quitrentlaw10_begun.f k = some r)) :
    Calls Try.prog 60 #[] w fun e w' => e = .returned (.bool r) ∧ Sep (fps []) w [] w' := by
  unfold quitrentlaw10_begun.f at H
  go_enter Try.func60, Try.ntmps60
  go_wp2_with fail
  obtain ⟨t2407, HA2408, H⟩ := bind_some H
  rcases t2407 with t2409 | (t2410 | t2411)
  · have H := sum_l H
    refine (ground_New.calls _ 3 16 1 1 (.inl t2409) _ ⟨Sep.start _⟩ HA2408).mono ?_
    rintro e_ w2412 ⟨rfl, hS⟩
    replace HS : Aside0 (Sep (fps []) w [] w2412) := ⟨HS.out.call hS⟩
    clear hS
    go_wp2_with fail
    go_ret
    rw [← some_eq H]
    exact ⟨(by first | rfl | (simp [IntKind.wrap_u32]; done)), HS.out⟩
  · have H := sum_r H
    have H := sum_l H
    refine (ground_New.calls _ 3 16 1 1 (.inr (.inl t2410)) _ ⟨Sep.start _⟩ HA2408).mono ?_
    rintro e_ w2413 ⟨g2417, rfl, g2418, A2419, m2420, n2421, hS⟩
    replace HS : Aside0 (Sep (fps []) w [b13 g2417 g2418 t2410.1 t2410.2.1 t2410.2.2.1 t2410.2.2.2.1, b12 g2418 A2419 m2420 n2421 0, r11 A2419 m2420 n2421 t2410.2.2.2.2] w2413) := ⟨HS.out.call hS⟩
    clear hS
    obtain rfl := (row_len (HS.out.at2)).symm
    go_wp2_with fail
    obtain ⟨t2423, HA2424, H⟩ := bind_some H
    refine (pool_Open.calls _ t2410.2.2.2.2 0 t2410.1 t2410.2.1 t2410.2.2.1 t2410.2.2.2.1 g2417 g2418 A2419 ((t2410.2.2.2.2).length) n2421 t2423 _ ⟨HS.out.begin⟩ HA2424).mono ?_
    rintro e_ w2425 ⟨rfl, hS⟩
    replace HS : Aside0 (Sep (fps []) w [b13 g2417 g2418 t2410.1 t2410.2.1 t2410.2.2.1 t2410.2.2.2.1, b12 g2418 A2419 ((t2410.2.2.2.2).length) n2421 t2423.2.1, r11 A2419 ((t2410.2.2.2.2).length) n2421 t2423.2.2] w2425) := ⟨HS.out.call hS⟩
    clear hS
    by_cases c2426 : t2423.1 = true
    · have H := if_yes c2426 H
      have c2426b0 : t2423.1 = true := c2426
      have c2426b1 : (!t2423.1) = false := by rw [c2426b0]; rfl
      try rw [c2426b1]
      clear c2426
      go_wp2_with fail
      obtain ⟨t2427, HA2428, H⟩ := bind_some H
      refine (pool_Open.calls _ t2423.2.2 t2423.2.1 t2410.1 t2410.2.1 t2410.2.2.1 t2410.2.2.2.1 g2417 g2418 A2419 ((t2410.2.2.2.2).length) n2421 t2427 _ ⟨HS.out.begin⟩ HA2428).mono ?_
      rintro e_ w2429 ⟨rfl, hS⟩
      replace HS : Aside0 (Sep (fps []) w [b13 g2417 g2418 t2410.1 t2410.2.1 t2410.2.2.1 t2410.2.2.2.1, b12 g2418 A2419 ((t2410.2.2.2.2).length) n2421 t2427.2.1, r11 A2419 ((t2410.2.2.2.2).length) n2421 t2427.2.2] w2429) := ⟨HS.out.call hS⟩
      clear hS
      by_cases c2430 : t2427.1 = true
      · have H := if_yes c2430 H
        have c2430b0 : t2427.1 = true := c2430
        have c2430b1 : (!t2427.1) = false := by rw [c2430b0]; rfl
        clear c2430
        replace HS : Aside0 (Sep (fps []) w [] w2429) := ⟨HS.out.sub (.cons _ (.cons _ (.cons _ .slnil)))⟩
        go_wp2_with fail
        go_ret
        rw [← some_eq H]
        exact ⟨(by first | rfl | (simp [IntKind.wrap_u32]; done)), HS.out⟩
      · have H := if_no c2430 H
        have c2430b0 : t2427.1 = false := by simpa using c2430
        have c2430b1 : (!t2427.1) = true := by rw [c2430b0]; rfl
        clear c2430
        go_wp2_with fail
        obtain ⟨t2658, HA2659, H⟩ := bind_some H
        refine (pool_Take.calls _ t2427.2.2 t2427.2.1 t2410.1 t2410.2.1 t2410.2.2.1 t2410.2.2.2.1 g2417 g2418 A2419 ((t2410.2.2.2.2).length) n2421 t2658 _ ⟨HS.out.begin⟩ HA2659).mono ?_
        rintro e_ w2660 ⟨rfl, hS⟩
        replace HS : Aside0 (Sep (fps []) w [b13 g2417 g2418 t2410.1 t2410.2.1 t2410.2.2.1 t2410.2.2.2.1, b12 g2418 A2419 ((t2410.2.2.2.2).length) n2421 t2658.2.2.1, r11 A2419 ((t2410.2.2.2.2).length) n2421 t2658.2.2.2] w2660) := ⟨HS.out.call hS⟩
        clear hS
        go_wp2_with fail
        obtain ⟨t2661, HA2662, H⟩ := bind_some H
        refine (pool_Take.calls _ t2658.2.2.2 t2658.2.2.1 t2410.1 t2410.2.1 t2410.2.2.1 t2410.2.2.2.1 g2417 g2418 A2419 ((t2410.2.2.2.2).length) n2421 t2661 _ ⟨HS.out.begin⟩ HA2662).mono ?_
        rintro e_ w2663 ⟨rfl, hS⟩
        replace HS : Aside0 (Sep (fps []) w [b13 g2417 g2418 t2410.1 t2410.2.1 t2410.2.2.1 t2410.2.2.2.1, b12 g2418 A2419 ((t2410.2.2.2.2).length) n2421 t2661.2.2.1, r11 A2419 ((t2410.2.2.2.2).length) n2421 t2661.2.2.2] w2663) := ⟨HS.out.call hS⟩
        clear hS
        go_wp2_with fail
        obtain ⟨t2664, HA2665, H⟩ := bind_some H
        refine (ground_Ground_SetWord.calls t2661.2.2.2 t2661.2.2.1 t2410.1 t2410.2.1 t2410.2.2.1 t2410.2.2.2.1 0 0 3 g2417 g2418 A2419 ((t2410.2.2.2.2).length) n2421 t2664 _ ⟨HS.out.begin⟩ HA2665).mono ?_
        rintro e_ w2666 ⟨rfl, hS⟩
        replace HS : Aside0 (Sep (fps []) w [b13 g2417 g2418 t2410.1 t2410.2.1 t2410.2.2.1 t2410.2.2.2.1, b12 g2418 A2419 ((t2410.2.2.2.2).length) n2421 t2664.2.1, r11 A2419 ((t2410.2.2.2.2).length) n2421 t2664.2.2] w2666) := ⟨HS.out.call hS⟩
        clear hS
        by_cases c2667 : t2658.1 = 0
        · have H := if_yes c2667 H
          have c2667b0 : (t2658.1 == 0) = true := beq_iff_eq.mpr c2667
          have c2667b1 : (t2658.1 != 0) = false := bne_eq_false_iff_eq.mpr c2667
          clear c2667
          by_cases c2668 : t2661.1 = 1
          · have H := if_yes c2668 H
            have c2668b0 : (t2661.1 == 1) = true := beq_iff_eq.mpr c2668
            have c2668b1 : (t2661.1 != 1) = false := bne_eq_false_iff_eq.mpr c2668
            clear c2668
            by_cases c2669 : t2661.2.1 = true
            · have H := if_yes c2669 H
              have c2669b0 : t2661.2.1 = true := c2669
              have c2669b1 : (!t2661.2.1) = false := by rw [c2669b0]; rfl
              clear c2669
              go_wp2_with fail
              obtain ⟨t2670, HA2671, H⟩ := bind_some H
              refine (pool_Give.calls t2664.2.2 t2664.2.1 t2410.1 t2410.2.1 t2410.2.2.1 t2410.2.2.2.1 0 g2417 g2418 A2419 ((t2410.2.2.2.2).length) n2421 t2670 _ ⟨HS.out.begin⟩ HA2671).mono ?_
              rintro e_ w2672 ⟨rfl, hS⟩
              replace HS : Aside0 (Sep (fps []) w [b13 g2417 g2418 t2410.1 t2410.2.1 t2410.2.2.1 t2410.2.2.2.1, b12 g2418 A2419 ((t2410.2.2.2.2).length) n2421 t2670.2.1, r11 A2419 ((t2410.2.2.2.2).length) n2421 t2670.2.2] w2672) := ⟨HS.out.call hS⟩
              clear hS
              by_cases c2673 : t2670.1 = true
              · have H := if_yes c2673 H
                have c2673b0 : t2670.1 = true := c2673
                have c2673b1 : (!t2670.1) = false := by rw [c2673b0]; rfl
                clear c2673
                go_wp2_with fail
                obtain ⟨t2674, HA2675, H⟩ := bind_some H
                refine (pool_Give.calls t2670.2.2 t2670.2.1 t2410.1 t2410.2.1 t2410.2.2.1 t2410.2.2.2.1 0 g2417 g2418 A2419 ((t2410.2.2.2.2).length) n2421 t2674 _ ⟨HS.out.begin⟩ HA2675).mono ?_
                rintro e_ w2676 ⟨rfl, hS⟩
                replace HS : Aside0 (Sep (fps []) w [b13 g2417 g2418 t2410.1 t2410.2.1 t2410.2.2.1 t2410.2.2.2.1, b12 g2418 A2419 ((t2410.2.2.2.2).length) n2421 t2674.2.1, r11 A2419 ((t2410.2.2.2.2).length) n2421 t2674.2.2] w2676) := ⟨HS.out.call hS⟩
                clear hS
                by_cases c2677 : t2674.1 = true
                · have H := if_yes c2677 H
                  have c2677b0 : t2674.1 = true := c2677
                  have c2677b1 : (!t2674.1) = false := by rw [c2677b0]; rfl
                  try rw [c2677b1]
                  clear c2677
                  replace HS : Aside0 (Sep (fps []) w [] w2676) := ⟨HS.out.sub (.cons _ (.cons _ (.cons _ .slnil)))⟩
                  go_wp2_with fail
                  go_ret
                  rw [← some_eq H]
                  exact ⟨(by first | rfl | (simp [IntKind.wrap_u32]; done)), HS.out⟩
                · have H := if_no c2677 H
                  have c2677b0 : t2674.1 = false := by simpa using c2677
                  have c2677b1 : (!t2674.1) = true := by rw [c2677b0]; rfl
                  try rw [c2677b1]
                  clear c2677
                  go_wp2_with fail
                  obtain ⟨t2879, HA2880, H⟩ := bind_some H
                  refine (pool_List.calls _ t2674.2.2 t2674.2.1 t2410.1 t2410.2.1 t2410.2.2.1 t2410.2.2.2.1 g2417 g2418 A2419 ((t2410.2.2.2.2).length) n2421 t2879 _ ⟨HS.out.begin⟩ HA2880).mono ?_
                  rintro e_ w2881 ⟨A2883, m2884, n2885, rfl, hS⟩
                  replace HS : Aside0 (Sep (fps []) w [b13 g2417 g2418 t2410.1 t2410.2.1 t2410.2.2.1 t2410.2.2.2.1, b12 g2418 A2419 ((t2410.2.2.2.2).length) n2421 t2674.2.1, r11 A2419 ((t2410.2.2.2.2).length) n2421 t2674.2.2, r7 A2883 m2884 n2885 t2879] w2881) := ⟨HS.out.call hS⟩
                  clear hS
                  obtain rfl := (row_len (HS.out.at3)).symm
                  go_wp2_with (first | ((with_reducible refine gate_dst (N := 56) rfl ?_); refine slice_on (n := 2) ?hg (N := 56) ?hd (cs := #[.int .i64 0, .int .i64 2]) (t := 3) ?hr ?_; (case hd => rfl); (case hg => rfl); (case hr => first | (go_simp; done) | (go_simp; rfl)); intro g2887 hg w2888 hbox hb; replace HS : Aside0 (Sep (fps []) w [b13 g2417 g2418 t2410.1 t2410.2.1 t2410.2.2.1 t2410.2.2.2.1, b12 g2418 A2419 ((t2410.2.2.2.2).length) n2421 t2674.2.1, r11 A2419 ((t2410.2.2.2.2).length) n2421 t2674.2.2, r7 A2883 t2879.length n2885 t2879, b9 g2887 0 2] w2888) := ⟨HS.out.box hg hbox hb⟩; clear hg hbox hb))
                  obtain ⟨t2929, HA2930, H⟩ := bind_some H
                  refine (quitrentref01_Ints.calls _ t2879 [0, 2] A2883 n2885 (some ⟨g2887, 0, none⟩) 2 t2929 _ ⟨Rd.ownI (l := []) HS.out 3 rfl⟩ ⟨Rd.lit (l := []) (xs := [0, 2]) HS.out 4 rfl (by simp)⟩ ⟨Sep.start _⟩ HA2930).mono ?_
                  rintro e_ w2931 ⟨rfl, hS⟩
                  replace HS : Aside0 (Sep (fps []) w [b13 g2417 g2418 t2410.1 t2410.2.1 t2410.2.2.1 t2410.2.2.2.1, b12 g2418 A2419 ((t2410.2.2.2.2).length) n2421 t2674.2.1, r11 A2419 ((t2410.2.2.2.2).length) n2421 t2674.2.2, r7 A2883 t2879.length n2885 t2879, b9 g2887 0 2] w2931) := ⟨HS.out.call hS⟩
                  clear hS
                  by_cases c2932 : t2929 = true
                  · have H := if_yes c2932 H
                    have c2932b0 : t2929 = true := c2932
                    have c2932b1 : (!t2929) = false := by rw [c2932b0]; rfl
                    clear c2932
                    go_wp2_with fail
                    obtain ⟨t2933, HA2934, H⟩ := bind_some H
                    refine (pool_Len.calls t2674.2.2 t2674.2.1 t2410.1 t2410.2.1 t2410.2.2.1 t2410.2.2.2.1 g2417 g2418 A2419 ((t2410.2.2.2.2).length) n2421 t2933 _ ⟨HS.out.begin⟩ HA2934).mono ?_
                    rintro e_ w2935 ⟨rfl, hS⟩
                    replace HS : Aside0 (Sep (fps []) w [b13 g2417 g2418 t2410.1 t2410.2.1 t2410.2.2.1 t2410.2.2.2.1, b12 g2418 A2419 ((t2410.2.2.2.2).length) n2421 t2933.2, r11 A2419 ((t2410.2.2.2.2).length) n2421 t2674.2.2, r7 A2883 t2879.length n2885 t2879, b9 g2887 0 2] w2935) := ⟨HS.out.call hS⟩
                    clear hS
                    replace HS : Aside0 (Sep (fps []) w [] w2935) := ⟨HS.out.sub (.cons _ (.cons _ (.cons _ (.cons _ (.cons _ .slnil)))))⟩
                    go_wp2_with fail
                    go_ret
                    rw [← some_eq H]
                    exact ⟨(by first | rfl | (simp [IntKind.wrap_u32]; done)), HS.out⟩
                  · have H := if_no c2932 H
                    have c2932b0 : t2929 = false := by simpa using c2932
                    have c2932b1 : (!t2929) = true := by rw [c2932b0]; rfl
                    clear c2932
                    replace HS : Aside0 (Sep (fps []) w [] w2931) := ⟨HS.out.sub (.cons _ (.cons _ (.cons _ (.cons _ (.cons _ .slnil)))))⟩
                    go_wp2_with fail
                    go_ret
                    rw [← some_eq H]
                    exact ⟨(by first | rfl | (simp [IntKind.wrap_u32]; done)), HS.out⟩
              · have H := if_no c2673 H
                have c2673b0 : t2670.1 = false := by simpa using c2673
                have c2673b1 : (!t2670.1) = true := by rw [c2673b0]; rfl
                clear c2673
                replace HS : Aside0 (Sep (fps []) w [] w2672) := ⟨HS.out.sub (.cons _ (.cons _ (.cons _ .slnil)))⟩
                go_wp2_with fail
                go_ret
                rw [← some_eq H]
                exact ⟨(by first | rfl | (simp [IntKind.wrap_u32]; done)), HS.out⟩
            · have H := if_no c2669 H
              have c2669b0 : t2661.2.1 = false := by simpa using c2669
              have c2669b1 : (!t2661.2.1) = true := by rw [c2669b0]; rfl
              clear c2669
              replace HS : Aside0 (Sep (fps []) w [] w2666) := ⟨HS.out.sub (.cons _ (.cons _ (.cons _ .slnil)))⟩
              go_wp2_with fail
              go_ret
              rw [← some_eq H]
              exact ⟨(by first | rfl | (simp [IntKind.wrap_u32]; done)), HS.out⟩
          · have H := if_no c2668 H
            have c2668b0 : (t2661.1 == 1) = false := beq_eq_false_iff_ne.mpr c2668
            have c2668b1 : (t2661.1 != 1) = true := bne_iff_ne.mpr c2668
            clear c2668
            replace HS : Aside0 (Sep (fps []) w [] w2666) := ⟨HS.out.sub (.cons _ (.cons _ (.cons _ .slnil)))⟩
            go_wp2_with fail
            go_ret
            rw [← some_eq H]
            exact ⟨(by first | rfl | (simp [IntKind.wrap_u32]; done)), HS.out⟩
        · have H := if_no c2667 H
          have c2667b0 : (t2658.1 == 0) = false := beq_eq_false_iff_ne.mpr c2667
          have c2667b1 : (t2658.1 != 0) = true := bne_iff_ne.mpr c2667
          clear c2667
          replace HS : Aside0 (Sep (fps []) w [] w2666) := ⟨HS.out.sub (.cons _ (.cons _ (.cons _ .slnil)))⟩
          go_wp2_with fail
          go_ret
          rw [← some_eq H]
          exact ⟨(by first | rfl | (simp [IntKind.wrap_u32]; done)), HS.out⟩
    · have H := if_no c2426 H
      have c2426b0 : t2423.1 = false := by simpa using c2426
      have c2426b1 : (!t2423.1) = true := by rw [c2426b0]; rfl
      try rw [c2426b1]
      clear c2426
      replace HS : Aside0 (Sep (fps []) w [] w2425) := ⟨HS.out.sub (.cons _ (.cons _ (.cons _ .slnil)))⟩
      go_wp2_with fail
      go_ret
      rw [← some_eq H]
      exact ⟨(by first | rfl | (simp [IntKind.wrap_u32]; done)), HS.out⟩
  · have H := sum_r H
    have H := sum_r H
    refine (ground_New.calls _ 3 16 1 1 (.inr (.inr t2411)) _ ⟨Sep.start _⟩ HA2408).mono ?_
    rintro e_ w2936 ⟨rfl, hS⟩
    replace HS : Aside0 (Sep (fps []) w [] w2936) := ⟨HS.out.call hS⟩
    clear hS
    by_cases c2937 : t2411 = 0
    · have H := if_yes c2937 H
      have c2937b0 : (t2411 == 0) = true := beq_iff_eq.mpr c2937
      have c2937b1 : (t2411 != 0) = false := bne_eq_false_iff_eq.mpr c2937
      clear c2937
      go_wp2_with fail
      obtain ⟨t2423, HA2938, H⟩ := bind_some H
      refine (pool_Open_nil.calls t2423 _ ⟨Sep.start _⟩ HA2938).mono ?_
      rintro e_ w2939 ⟨rfl, hS⟩
      replace HS : Aside0 (Sep (fps []) w [] w2939) := ⟨HS.out.call hS⟩
      clear hS
      by_cases c2940 : t2423 = true
      · have H := if_yes c2940 H
        have c2940b0 : t2423 = true := c2940
        have c2940b1 : (!t2423) = false := by rw [c2940b0]; rfl
        try rw [c2940b1]
        clear c2940
        go_wp2_with fail
        obtain ⟨t2427, HA2941, H⟩ := bind_some H
        refine (pool_Open_nil.calls t2427 _ ⟨Sep.start _⟩ HA2941).mono ?_
        rintro e_ w2942 ⟨rfl, hS⟩
        replace HS : Aside0 (Sep (fps []) w [] w2942) := ⟨HS.out.call hS⟩
        clear hS
        by_cases c2943 : t2427 = true
        · have H := if_yes c2943 H
          have c2943b0 : t2427 = true := c2943
          have c2943b1 : (!t2427) = false := by rw [c2943b0]; rfl
          clear c2943
          go_wp2_with fail
          go_ret
          rw [← some_eq H]
          exact ⟨(by first | rfl | (simp [IntKind.wrap_u32]; done)), HS.out⟩
        · have H := if_no c2943 H
          have c2943b0 : t2427 = false := by simpa using c2943
          have c2943b1 : (!t2427) = true := by rw [c2943b0]; rfl
          clear c2943
          go_wp2_with fail
          obtain ⟨t2658, HA2944, H⟩ := bind_some H
          refine (pool_Take_nil.calls _ t2658 _ ⟨Sep.start _⟩ HA2944).mono ?_
          rintro e_ w2945 ⟨rfl, hS⟩
          replace HS : Aside0 (Sep (fps []) w [] w2945) := ⟨HS.out.call hS⟩
          clear hS
          go_wp2_with fail
          obtain ⟨t2661, HA2946, H⟩ := bind_some H
          refine (pool_Take_nil.calls _ t2661 _ ⟨Sep.start _⟩ HA2946).mono ?_
          rintro e_ w2947 ⟨rfl, hS⟩
          replace HS : Aside0 (Sep (fps []) w [] w2947) := ⟨HS.out.call hS⟩
          clear hS
          go_wp2_with fail
          obtain ⟨t2664, HA2948, H⟩ := bind_some H
          refine (ground_Ground_SetWord_nil.calls 0 0 3 t2664 _ ⟨Sep.start _⟩ HA2948).mono ?_
          rintro e_ w2949 ⟨rfl, hS⟩
          replace HS : Aside0 (Sep (fps []) w [] w2949) := ⟨HS.out.call hS⟩
          clear hS
          by_cases c2950 : t2658.1 = 0
          · have H := if_yes c2950 H
            have c2950b0 : (t2658.1 == 0) = true := beq_iff_eq.mpr c2950
            have c2950b1 : (t2658.1 != 0) = false := bne_eq_false_iff_eq.mpr c2950
            clear c2950
            by_cases c2951 : t2661.1 = 1
            · have H := if_yes c2951 H
              have c2951b0 : (t2661.1 == 1) = true := beq_iff_eq.mpr c2951
              have c2951b1 : (t2661.1 != 1) = false := bne_eq_false_iff_eq.mpr c2951
              clear c2951
              by_cases c2952 : t2661.2 = true
              · have H := if_yes c2952 H
                have c2952b0 : t2661.2 = true := c2952
                have c2952b1 : (!t2661.2) = false := by rw [c2952b0]; rfl
                clear c2952
                go_wp2_with fail
                obtain ⟨t2670, HA2953, H⟩ := bind_some H
                refine (pool_Give_nil.calls 0 t2670 _ ⟨Sep.start _⟩ HA2953).mono ?_
                rintro e_ w2954 ⟨rfl, hS⟩
                replace HS : Aside0 (Sep (fps []) w [] w2954) := ⟨HS.out.call hS⟩
                clear hS
                by_cases c2955 : t2670 = true
                · have H := if_yes c2955 H
                  have c2955b0 : t2670 = true := c2955
                  have c2955b1 : (!t2670) = false := by rw [c2955b0]; rfl
                  clear c2955
                  go_wp2_with fail
                  obtain ⟨t2674, HA2956, H⟩ := bind_some H
                  refine (pool_Give_nil.calls 0 t2674 _ ⟨Sep.start _⟩ HA2956).mono ?_
                  rintro e_ w2957 ⟨rfl, hS⟩
                  replace HS : Aside0 (Sep (fps []) w [] w2957) := ⟨HS.out.call hS⟩
                  clear hS
                  by_cases c2958 : t2674 = true
                  · have H := if_yes c2958 H
                    have c2958b0 : t2674 = true := c2958
                    have c2958b1 : (!t2674) = false := by rw [c2958b0]; rfl
                    try rw [c2958b1]
                    clear c2958
                    go_wp2_with fail
                    go_ret
                    rw [← some_eq H]
                    exact ⟨(by first | rfl | (simp [IntKind.wrap_u32]; done)), HS.out⟩
                  · have H := if_no c2958 H
                    have c2958b0 : t2674 = false := by simpa using c2958
                    have c2958b1 : (!t2674) = true := by rw [c2958b0]; rfl
                    try rw [c2958b1]
                    clear c2958
                    go_wp2_with fail
                    obtain ⟨t2879, HA2959, H⟩ := bind_some H
                    refine (pool_List_nil.calls _ t2879 _ ⟨Sep.start _⟩ HA2959).mono ?_
                    rintro e_ w2960 ⟨A2962, m2963, n2964, rfl, hS⟩
                    replace HS : Aside0 (Sep (fps []) w [r7 A2962 m2963 n2964 t2879] w2960) := ⟨HS.out.call hS⟩
                    clear hS
                    obtain rfl := (row_len (HS.out.at0)).symm
                    go_wp2_with (first | ((with_reducible refine gate_dst (N := 56) rfl ?_); refine slice_on (n := 2) ?hg (N := 56) ?hd (cs := #[.int .i64 0, .int .i64 2]) (t := 3) ?hr ?_; (case hd => rfl); (case hg => rfl); (case hr => first | (go_simp; done) | (go_simp; rfl)); intro g2966 hg w2967 hbox hb; replace HS : Aside0 (Sep (fps []) w [r7 A2962 t2879.length n2964 t2879, b9 g2966 0 2] w2967) := ⟨HS.out.box hg hbox hb⟩; clear hg hbox hb))
                    obtain ⟨t2929, HA2969, H⟩ := bind_some H
                    refine (quitrentref01_Ints.calls _ t2879 [0, 2] A2962 n2964 (some ⟨g2966, 0, none⟩) 2 t2929 _ ⟨Rd.ownI (l := []) HS.out 0 rfl⟩ ⟨Rd.lit (l := []) (xs := [0, 2]) HS.out 1 rfl (by simp)⟩ ⟨Sep.start _⟩ HA2969).mono ?_
                    rintro e_ w2970 ⟨rfl, hS⟩
                    replace HS : Aside0 (Sep (fps []) w [r7 A2962 t2879.length n2964 t2879, b9 g2966 0 2] w2970) := ⟨HS.out.call hS⟩
                    clear hS
                    by_cases c2971 : t2929 = true
                    · have H := if_yes c2971 H
                      have c2971b0 : t2929 = true := c2971
                      have c2971b1 : (!t2929) = false := by rw [c2971b0]; rfl
                      clear c2971
                      go_wp2_with fail
                      obtain ⟨t2933, HA2972, H⟩ := bind_some H
                      refine (pool_Len_nil.calls t2933 _ ⟨Sep.start _⟩ HA2972).mono ?_
                      rintro e_ w2973 ⟨rfl, hS⟩
                      replace HS : Aside0 (Sep (fps []) w [r7 A2962 t2879.length n2964 t2879, b9 g2966 0 2] w2973) := ⟨HS.out.call hS⟩
                      clear hS
                      replace HS : Aside0 (Sep (fps []) w [] w2973) := ⟨HS.out.sub (.cons _ (.cons _ .slnil))⟩
                      go_wp2_with fail
                      go_ret
                      rw [← some_eq H]
                      exact ⟨(by first | rfl | (simp [IntKind.wrap_u32]; done)), HS.out⟩
                    · have H := if_no c2971 H
                      have c2971b0 : t2929 = false := by simpa using c2971
                      have c2971b1 : (!t2929) = true := by rw [c2971b0]; rfl
                      clear c2971
                      replace HS : Aside0 (Sep (fps []) w [] w2970) := ⟨HS.out.sub (.cons _ (.cons _ .slnil))⟩
                      go_wp2_with fail
                      go_ret
                      rw [← some_eq H]
                      exact ⟨(by first | rfl | (simp [IntKind.wrap_u32]; done)), HS.out⟩
                · have H := if_no c2955 H
                  have c2955b0 : t2670 = false := by simpa using c2955
                  have c2955b1 : (!t2670) = true := by rw [c2955b0]; rfl
                  clear c2955
                  go_wp2_with fail
                  go_ret
                  rw [← some_eq H]
                  exact ⟨(by first | rfl | (simp [IntKind.wrap_u32]; done)), HS.out⟩
              · have H := if_no c2952 H
                have c2952b0 : t2661.2 = false := by simpa using c2952
                have c2952b1 : (!t2661.2) = true := by rw [c2952b0]; rfl
                clear c2952
                go_wp2_with fail
                go_ret
                rw [← some_eq H]
                exact ⟨(by first | rfl | (simp [IntKind.wrap_u32]; done)), HS.out⟩
            · have H := if_no c2951 H
              have c2951b0 : (t2661.1 == 1) = false := beq_eq_false_iff_ne.mpr c2951
              have c2951b1 : (t2661.1 != 1) = true := bne_iff_ne.mpr c2951
              clear c2951
              go_wp2_with fail
              go_ret
              rw [← some_eq H]
              exact ⟨(by first | rfl | (simp [IntKind.wrap_u32]; done)), HS.out⟩
          · have H := if_no c2950 H
            have c2950b0 : (t2658.1 == 0) = false := beq_eq_false_iff_ne.mpr c2950
            have c2950b1 : (t2658.1 != 0) = true := bne_iff_ne.mpr c2950
            clear c2950
            go_wp2_with fail
            go_ret
            rw [← some_eq H]
            exact ⟨(by first | rfl | (simp [IntKind.wrap_u32]; done)), HS.out⟩
      · have H := if_no c2940 H
        have c2940b0 : t2423 = false := by simpa using c2940
        have c2940b1 : (!t2423) = true := by rw [c2940b0]; rfl
        try rw [c2940b1]
        clear c2940
        go_wp2_with fail
        go_ret
        rw [← some_eq H]
        exact ⟨(by first | rfl | (simp [IntKind.wrap_u32]; done)), HS.out⟩
    · have H := if_no c2937 H
      have c2937b0 : (t2411 == 0) = false := beq_eq_false_iff_ne.mpr c2937
      have c2937b1 : (t2411 != 0) = true := bne_iff_ne.mpr c2937
      clear c2937
      go_wp2_with fail
      go_ret
      rw [← some_eq H]
      exact ⟨(by first | rfl | (simp [IntKind.wrap_u32]; done)), HS.out⟩

set_option maxHeartbeats 30000000 in
set_option maxRecDepth 100000 in
theorem quitrentlaw10_PoolNobody.calls (k : Nat) (a1 : Int) (a2 : Int) (r : Bool) (w : World)   (HS : Aside0 (Sep (fps []) w [] w)) (H : Aside0 (quitrentlaw10_PoolNobody.f k a1 a2 = some r)) :
    Calls Try.prog 15 #[.int .i64 a1, .int .u8 a2] w fun e w' => e = .returned (.bool r) ∧ Sep (fps []) w [] w' := by
  unfold quitrentlaw10_PoolNobody.f at H
  go_enter Try.func15, Try.ntmps15
  go_wp2_with fail
  obtain ⟨t206, HA207, H⟩ := bind_some H
  refine (pool_Take_nil.calls _ t206 _ ⟨Sep.start _⟩ HA207).mono ?_
  rintro e_ w208 ⟨rfl, hS⟩
  replace HS : Aside0 (Sep (fps []) w [] w208) := ⟨HS.out.call hS⟩
  clear hS
  go_wp2_with fail
  obtain ⟨t209, HA210, H⟩ := bind_some H
  refine (pool_Open_nil.calls t209 _ ⟨Sep.start _⟩ HA210).mono ?_
  rintro e_ w211 ⟨rfl, hS⟩
  replace HS : Aside0 (Sep (fps []) w [] w211) := ⟨HS.out.call hS⟩
  clear hS
  by_cases c212 : t209 = true
  · have H := if_yes c212 H
    have c212b0 : t209 = true := c212
    have c212b1 : (!t209) = false := by rw [c212b0]; rfl
    clear c212
    go_wp2_with fail
    go_ret
    rw [← some_eq H]
    exact ⟨(by first | rfl | (simp [IntKind.wrap_u32]; done)), HS.out⟩
  · have H := if_no c212 H
    have c212b0 : t209 = false := by simpa using c212
    have c212b1 : (!t209) = true := by rw [c212b0]; rfl
    clear c212
    by_cases c213 : t206.1 = 0
    · have H := if_yes c213 H
      have c213b0 : (t206.1 == 0) = true := beq_iff_eq.mpr c213
      have c213b1 : (t206.1 != 0) = false := bne_eq_false_iff_eq.mpr c213
      clear c213
      by_cases c214 : t206.2 = true
      · have H := if_yes c214 H
        have c214b0 : t206.2 = true := c214
        have c214b1 : (!t206.2) = false := by rw [c214b0]; rfl
        clear c214
        go_wp2_with fail
        go_ret
        rw [← some_eq H]
        exact ⟨(by first | rfl | (simp [IntKind.wrap_u32]; done)), HS.out⟩
      · have H := if_no c214 H
        have c214b0 : t206.2 = false := by simpa using c214
        have c214b1 : (!t206.2) = true := by rw [c214b0]; rfl
        clear c214
        go_wp2_with fail
        obtain ⟨t395, HA396, H⟩ := bind_some H
        refine (pool_Give_nil.calls a1 t395 _ ⟨Sep.start _⟩ HA396).mono ?_
        rintro e_ w397 ⟨rfl, hS⟩
        replace HS : Aside0 (Sep (fps []) w [] w397) := ⟨HS.out.call hS⟩
        clear hS
        by_cases c398 : t395 = true
        · have H := if_yes c398 H
          have c398b0 : t395 = true := c398
          have c398b1 : (!t395) = false := by rw [c398b0]; rfl
          clear c398
          go_wp2_with fail
          go_ret
          rw [← some_eq H]
          exact ⟨(by first | rfl | (simp [IntKind.wrap_u32]; done)), HS.out⟩
        · have H := if_no c398 H
          have c398b0 : t395 = false := by simpa using c398
          have c398b1 : (!t395) = true := by rw [c398b0]; rfl
          clear c398
          go_wp2_with fail
          obtain ⟨t421, HA422, H⟩ := bind_some H
          refine (pool_Len_nil.calls t421 _ ⟨Sep.start _⟩ HA422).mono ?_
          rintro e_ w423 ⟨rfl, hS⟩
          replace HS : Aside0 (Sep (fps []) w [] w423) := ⟨HS.out.call hS⟩
          clear hS
          by_cases c424 : t421 = 0
          · have H := if_yes c424 H
            have c424b0 : (t421 == 0) = true := beq_iff_eq.mpr c424
            have c424b1 : (t421 != 0) = false := bne_eq_false_iff_eq.mpr c424
            clear c424
            go_wp2_with fail
            obtain ⟨t551, HA552, H⟩ := bind_some H
            refine (pool_List_nil.calls _ t551 _ ⟨Sep.start _⟩ HA552).mono ?_
            rintro e_ w553 ⟨A555, m556, n557, rfl, hS⟩
            replace HS : Aside0 (Sep (fps []) w [r7 A555 m556 n557 t551] w553) := ⟨HS.out.call hS⟩
            clear hS
            obtain rfl := (row_len (HS.out.at0)).symm
            by_cases c559 : (t551.length : Int) = 0
            · have H := if_yes c559 H
              have c559b0 : ((t551.length : Int) == 0) = true := beq_iff_eq.mpr c559
              have c559b1 : ((t551.length : Int) != 0) = false := bne_eq_false_iff_eq.mpr c559
              clear c559
              replace HS : Aside0 (Sep (fps []) w [] w553) := ⟨HS.out.sub (.cons _ .slnil)⟩
              go_wp2_with fail
              obtain ⟨t1348, HA1349, H⟩ := bind_some H
              rcases t1348 with t1350 | (t1351 | t1352)
              · have H := sum_l H
                refine (ground_New.calls _ (wrap64 ((wrap64 (Int.tmod a2 50)) + 1)) 16 1 1 (.inl t1350) _ ⟨Sep.start _⟩ HA1349).mono ?_
                rintro e_ w1353 ⟨rfl, hS⟩
                replace HS : Aside0 (Sep (fps []) w [] w1353) := ⟨HS.out.call hS⟩
                clear hS
                go_wp2_with fail
                go_ret
                rw [← some_eq H]
                exact ⟨(by first | rfl | (simp [IntKind.wrap_u32]; done)), HS.out⟩
              · have H := sum_r H
                have H := sum_l H
                refine (ground_New.calls _ (wrap64 ((wrap64 (Int.tmod a2 50)) + 1)) 16 1 1 (.inr (.inl t1351)) _ ⟨Sep.start _⟩ HA1349).mono ?_
                rintro e_ w1354 ⟨g1358, rfl, g1359, A1360, m1361, n1362, hS⟩
                replace HS : Aside0 (Sep (fps []) w [b13 g1358 g1359 t1351.1 t1351.2.1 t1351.2.2.1 t1351.2.2.2.1, b12 g1359 A1360 m1361 n1362 0, r11 A1360 m1361 n1362 t1351.2.2.2.2] w1354) := ⟨HS.out.call hS⟩
                clear hS
                obtain rfl := (row_len (HS.out.at2)).symm
                go_wp2_with fail
                obtain ⟨t2085, HA2086, H⟩ := bind_some H
                refine (pool_Open.calls _ t1351.2.2.2.2 0 t1351.1 t1351.2.1 t1351.2.2.1 t1351.2.2.2.1 g1358 g1359 A1360 ((t1351.2.2.2.2).length) n1362 t2085 _ ⟨HS.out.begin⟩ HA2086).mono ?_
                rintro e_ w2087 ⟨rfl, hS⟩
                replace HS : Aside0 (Sep (fps []) w [b13 g1358 g1359 t1351.1 t1351.2.1 t1351.2.2.1 t1351.2.2.2.1, b12 g1359 A1360 ((t1351.2.2.2.2).length) n1362 t2085.2.1, r11 A1360 ((t1351.2.2.2.2).length) n1362 t2085.2.2] w2087) := ⟨HS.out.call hS⟩
                clear hS
                by_cases c2088 : t2085.1 = true
                · have H := if_yes c2088 H
                  have c2088b0 : t2085.1 = true := c2088
                  have c2088b1 : (!t2085.1) = false := by rw [c2088b0]; rfl
                  clear c2088
                  go_wp2_with fail
                  obtain ⟨t2089, HA2090, H⟩ := bind_some H
                  refine (pool_Open.calls _ t2085.2.2 t2085.2.1 t1351.1 t1351.2.1 t1351.2.2.1 t1351.2.2.2.1 g1358 g1359 A1360 ((t1351.2.2.2.2).length) n1362 t2089 _ ⟨HS.out.begin⟩ HA2090).mono ?_
                  rintro e_ w2091 ⟨rfl, hS⟩
                  replace HS : Aside0 (Sep (fps []) w [b13 g1358 g1359 t1351.1 t1351.2.1 t1351.2.2.1 t1351.2.2.2.1, b12 g1359 A1360 ((t1351.2.2.2.2).length) n1362 t2089.2.1, r11 A1360 ((t1351.2.2.2.2).length) n1362 t2089.2.2] w2091) := ⟨HS.out.call hS⟩
                  clear hS
                  by_cases c2092 : t2089.1 = true
                  · have H := if_yes c2092 H
                    have c2092b0 : t2089.1 = true := c2092
                    have c2092b1 : (!t2089.1) = false := by rw [c2092b0]; rfl
                    try rw [c2092b1]
                    clear c2092
                    replace HS : Aside0 (Sep (fps []) w [] w2091) := ⟨HS.out.sub (.cons _ (.cons _ (.cons _ .slnil)))⟩
                    go_wp2_with fail
                    go_ret
                    rw [← some_eq H]
                    exact ⟨(by first | rfl | (simp [IntKind.wrap_u32]; done)), HS.out⟩
                  · have H := if_no c2092 H
                    have c2092b0 : t2089.1 = false := by simpa using c2092
                    have c2092b1 : (!t2089.1) = true := by rw [c2092b0]; rfl
                    try rw [c2092b1]
                    clear c2092
                    go_wp2_with fail
                    obtain ⟨t2114, HA2115, H⟩ := bind_some H
                    refine (pool_Len.calls t2089.2.2 t2089.2.1 t1351.1 t1351.2.1 t1351.2.2.1 t1351.2.2.2.1 g1358 g1359 A1360 ((t1351.2.2.2.2).length) n1362 t2114 _ ⟨HS.out.begin⟩ HA2115).mono ?_
                    rintro e_ w2116 ⟨rfl, hS⟩
                    replace HS : Aside0 (Sep (fps []) w [b13 g1358 g1359 t1351.1 t1351.2.1 t1351.2.2.1 t1351.2.2.2.1, b12 g1359 A1360 ((t1351.2.2.2.2).length) n1362 t2114.2, r11 A1360 ((t1351.2.2.2.2).length) n1362 t2089.2.2] w2116) := ⟨HS.out.call hS⟩
                    clear hS
                    by_cases c2117 : t2114.1 = (wrap64 ((wrap64 (Int.tmod a2 50)) + 1))
                    · have H := if_yes c2117 H
                      have c2117b0 : (t2114.1 == (wrap64 ((wrap64 (Int.tmod a2 50)) + 1))) = true := beq_iff_eq.mpr c2117
                      have c2117b1 : (t2114.1 != (wrap64 ((wrap64 (Int.tmod a2 50)) + 1))) = false := bne_eq_false_iff_eq.mpr c2117
                      clear c2117
                      go_wp2_with fail
                      obtain ⟨t2403, HA2404, H⟩ := bind_some H
                      refine (pool_Give.calls t2089.2.2 t2114.2 t1351.1 t1351.2.1 t1351.2.2.1 t1351.2.2.2.1 a1 g1358 g1359 A1360 ((t1351.2.2.2.2).length) n1362 t2403 _ ⟨HS.out.begin⟩ HA2404).mono ?_
                      rintro e_ w2405 ⟨rfl, hS⟩
                      replace HS : Aside0 (Sep (fps []) w [b13 g1358 g1359 t1351.1 t1351.2.1 t1351.2.2.1 t1351.2.2.2.1, b12 g1359 A1360 ((t1351.2.2.2.2).length) n1362 t2403.2.1, r11 A1360 ((t1351.2.2.2.2).length) n1362 t2403.2.2] w2405) := ⟨HS.out.call hS⟩
                      clear hS
                      by_cases c2406 : t2403.1 = true
                      · have H := if_yes c2406 H
                        have c2406b0 : t2403.1 = true := c2406
                        have c2406b1 : (!t2403.1) = false := by rw [c2406b0]; rfl
                        try rw [c2406b1]
                        clear c2406
                        replace HS : Aside0 (Sep (fps []) w [] w2405) := ⟨HS.out.sub (.cons _ (.cons _ (.cons _ .slnil)))⟩
                        go_wp2_with fail
                        go_ret
                        rw [← some_eq H]
                        exact ⟨(by first | rfl | (simp [IntKind.wrap_u32]; done)), HS.out⟩
                      · have H := if_no c2406 H
                        have c2406b0 : t2403.1 = false := by simpa using c2406
                        have c2406b1 : (!t2403.1) = true := by rw [c2406b0]; rfl
                        try rw [c2406b1]
                        clear c2406
                        go_wp2_with fail
                        obtain ⟨t2974, HA2975, H⟩ := bind_some H
                        refine (quitrentlaw10_begun.calls _ t2974 _ ⟨Sep.start _⟩ HA2975).mono ?_
                        rintro e_ w2976 ⟨rfl, hS⟩
                        replace HS : Aside0 (Sep (fps []) w [b13 g1358 g1359 t1351.1 t1351.2.1 t1351.2.2.1 t1351.2.2.2.1, b12 g1359 A1360 ((t1351.2.2.2.2).length) n1362 t2403.2.1, r11 A1360 ((t1351.2.2.2.2).length) n1362 t2403.2.2] w2976) := ⟨HS.out.call hS⟩
                        clear hS
                        replace HS : Aside0 (Sep (fps []) w [] w2976) := ⟨HS.out.sub (.cons _ (.cons _ (.cons _ .slnil)))⟩
                        go_wp2_with fail
                        go_ret
                        rw [← some_eq H]
                        exact ⟨(by first | rfl | (simp [IntKind.wrap_u32]; done)), HS.out⟩
                    · have H := if_no c2117 H
                      have c2117b0 : (t2114.1 == (wrap64 ((wrap64 (Int.tmod a2 50)) + 1))) = false := beq_eq_false_iff_ne.mpr c2117
                      have c2117b1 : (t2114.1 != (wrap64 ((wrap64 (Int.tmod a2 50)) + 1))) = true := bne_iff_ne.mpr c2117
                      clear c2117
                      replace HS : Aside0 (Sep (fps []) w [] w2116) := ⟨HS.out.sub (.cons _ (.cons _ (.cons _ .slnil)))⟩
                      go_wp2_with fail
                      go_ret
                      rw [← some_eq H]
                      exact ⟨(by first | rfl | (simp [IntKind.wrap_u32]; done)), HS.out⟩
                · have H := if_no c2088 H
                  have c2088b0 : t2085.1 = false := by simpa using c2088
                  have c2088b1 : (!t2085.1) = true := by rw [c2088b0]; rfl
                  clear c2088
                  replace HS : Aside0 (Sep (fps []) w [] w2087) := ⟨HS.out.sub (.cons _ (.cons _ (.cons _ .slnil)))⟩
                  go_wp2_with fail
                  go_ret
                  rw [← some_eq H]
                  exact ⟨(by first | rfl | (simp [IntKind.wrap_u32]; done)), HS.out⟩
              · have H := sum_r H
                have H := sum_r H
                refine (ground_New.calls _ (wrap64 ((wrap64 (Int.tmod a2 50)) + 1)) 16 1 1 (.inr (.inr t1352)) _ ⟨Sep.start _⟩ HA1349).mono ?_
                rintro e_ w2977 ⟨rfl, hS⟩
                replace HS : Aside0 (Sep (fps []) w [] w2977) := ⟨HS.out.call hS⟩
                clear hS
                by_cases c2978 : t1352 = 0
                · have H := if_yes c2978 H
                  have c2978b0 : (t1352 == 0) = true := beq_iff_eq.mpr c2978
                  have c2978b1 : (t1352 != 0) = false := bne_eq_false_iff_eq.mpr c2978
                  clear c2978
                  go_wp2_with fail
                  obtain ⟨t2085, HA2979, H⟩ := bind_some H
                  refine (pool_Open_nil.calls t2085 _ ⟨Sep.start _⟩ HA2979).mono ?_
                  rintro e_ w2980 ⟨rfl, hS⟩
                  replace HS : Aside0 (Sep (fps []) w [] w2980) := ⟨HS.out.call hS⟩
                  clear hS
                  by_cases c2981 : t2085 = true
                  · have H := if_yes c2981 H
                    have c2981b0 : t2085 = true := c2981
                    have c2981b1 : (!t2085) = false := by rw [c2981b0]; rfl
                    clear c2981
                    go_wp2_with fail
                    obtain ⟨t2089, HA2982, H⟩ := bind_some H
                    refine (pool_Open_nil.calls t2089 _ ⟨Sep.start _⟩ HA2982).mono ?_
                    rintro e_ w2983 ⟨rfl, hS⟩
                    replace HS : Aside0 (Sep (fps []) w [] w2983) := ⟨HS.out.call hS⟩
                    clear hS
                    by_cases c2984 : t2089 = true
                    · have H := if_yes c2984 H
                      have c2984b0 : t2089 = true := c2984
                      have c2984b1 : (!t2089) = false := by rw [c2984b0]; rfl
                      try rw [c2984b1]
                      clear c2984
                      go_wp2_with fail
                      go_ret
                      rw [← some_eq H]
                      exact ⟨(by first | rfl | (simp [IntKind.wrap_u32]; done)), HS.out⟩
                    · have H := if_no c2984 H
                      have c2984b0 : t2089 = false := by simpa using c2984
                      have c2984b1 : (!t2089) = true := by rw [c2984b0]; rfl
                      try rw [c2984b1]
                      clear c2984
                      go_wp2_with fail
                      obtain ⟨t2114, HA2985, H⟩ := bind_some H
                      refine (pool_Len_nil.calls t2114 _ ⟨Sep.start _⟩ HA2985).mono ?_
                      rintro e_ w2986 ⟨rfl, hS⟩
                      replace HS : Aside0 (Sep (fps []) w [] w2986) := ⟨HS.out.call hS⟩
                      clear hS
                      by_cases c2987 : t2114 = (wrap64 ((wrap64 (Int.tmod a2 50)) + 1))
                      · have H := if_yes c2987 H
                        have c2987b0 : (t2114 == (wrap64 ((wrap64 (Int.tmod a2 50)) + 1))) = true := beq_iff_eq.mpr c2987
                        have c2987b1 : (t2114 != (wrap64 ((wrap64 (Int.tmod a2 50)) + 1))) = false := bne_eq_false_iff_eq.mpr c2987
                        clear c2987
                        go_wp2_with fail
                        obtain ⟨t2403, HA2988, H⟩ := bind_some H
                        refine (pool_Give_nil.calls a1 t2403 _ ⟨Sep.start _⟩ HA2988).mono ?_
                        rintro e_ w2989 ⟨rfl, hS⟩
                        replace HS : Aside0 (Sep (fps []) w [] w2989) := ⟨HS.out.call hS⟩
                        clear hS
                        by_cases c2990 : t2403 = true
                        · have H := if_yes c2990 H
                          have c2990b0 : t2403 = true := c2990
                          have c2990b1 : (!t2403) = false := by rw [c2990b0]; rfl
                          try rw [c2990b1]
                          clear c2990
                          go_wp2_with fail
                          go_ret
                          rw [← some_eq H]
                          exact ⟨(by first | rfl | (simp [IntKind.wrap_u32]; done)), HS.out⟩
                        · have H := if_no c2990 H
                          have c2990b0 : t2403 = false := by simpa using c2990
                          have c2990b1 : (!t2403) = true := by rw [c2990b0]; rfl
                          try rw [c2990b1]
                          clear c2990
                          go_wp2_with fail
                          obtain ⟨t2974, HA2991, H⟩ := bind_some H
                          refine (quitrentlaw10_begun.calls _ t2974 _ ⟨Sep.start _⟩ HA2991).mono ?_
                          rintro e_ w2992 ⟨rfl, hS⟩
                          replace HS : Aside0 (Sep (fps []) w [] w2992) := ⟨HS.out.call hS⟩
                          clear hS
                          go_wp2_with fail
                          go_ret
                          rw [← some_eq H]
                          exact ⟨(by first | rfl | (simp [IntKind.wrap_u32]; done)), HS.out⟩
                      · have H := if_no c2987 H
                        have c2987b0 : (t2114 == (wrap64 ((wrap64 (Int.tmod a2 50)) + 1))) = false := beq_eq_false_iff_ne.mpr c2987
                        have c2987b1 : (t2114 != (wrap64 ((wrap64 (Int.tmod a2 50)) + 1))) = true := bne_iff_ne.mpr c2987
                        clear c2987
                        go_wp2_with fail
                        go_ret
                        rw [← some_eq H]
                        exact ⟨(by first | rfl | (simp [IntKind.wrap_u32]; done)), HS.out⟩
                  · have H := if_no c2981 H
                    have c2981b0 : t2085 = false := by simpa using c2981
                    have c2981b1 : (!t2085) = true := by rw [c2981b0]; rfl
                    clear c2981
                    go_wp2_with fail
                    go_ret
                    rw [← some_eq H]
                    exact ⟨(by first | rfl | (simp [IntKind.wrap_u32]; done)), HS.out⟩
                · have H := if_no c2978 H
                  have c2978b0 : (t1352 == 0) = false := beq_eq_false_iff_ne.mpr c2978
                  have c2978b1 : (t1352 != 0) = true := bne_iff_ne.mpr c2978
                  clear c2978
                  go_wp2_with fail
                  go_ret
                  rw [← some_eq H]
                  exact ⟨(by first | rfl | (simp [IntKind.wrap_u32]; done)), HS.out⟩
            · have H := if_no c559 H
              have c559b0 : ((t551.length : Int) == 0) = false := beq_eq_false_iff_ne.mpr c559
              have c559b1 : ((t551.length : Int) != 0) = true := bne_iff_ne.mpr c559
              clear c559
              replace HS : Aside0 (Sep (fps []) w [] w553) := ⟨HS.out.sub (.cons _ .slnil)⟩
              go_wp2_with fail
              go_ret
              rw [← some_eq H]
              exact ⟨(by first | rfl | (simp [IntKind.wrap_u32]; done)), HS.out⟩
          · have H := if_no c424 H
            have c424b0 : (t421 == 0) = false := beq_eq_false_iff_ne.mpr c424
            have c424b1 : (t421 != 0) = true := bne_iff_ne.mpr c424
            clear c424
            go_wp2_with fail
            go_ret
            rw [← some_eq H]
            exact ⟨(by first | rfl | (simp [IntKind.wrap_u32]; done)), HS.out⟩
    · have H := if_no c213 H
      have c213b0 : (t206.1 == 0) = false := beq_eq_false_iff_ne.mpr c213
      have c213b1 : (t206.1 != 0) = true := bne_iff_ne.mpr c213
      clear c213
      go_wp2_with fail
      go_ret
      rw [← some_eq H]
      exact ⟨(by first | rfl | (simp [IntKind.wrap_u32]; done)), HS.out⟩
end Go.Proofs.Ytobeonkddamnoaa.C

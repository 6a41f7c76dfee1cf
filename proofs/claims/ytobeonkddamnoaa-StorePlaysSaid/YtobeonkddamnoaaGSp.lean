/- Each function of the group Sp does what its plain function says, and changes nothing that was there; proved by walking its code. No condition. -/
import Derived.Test.YtobeonkddamnoaaQw
import Derived.Test.YtobeonkddamnoaaMSp
import Derived.Test.YtobeonkddamnoaaQc
namespace Go.Proofs.Ytobeonkddamnoaa.C
open Go.RowKit Go.Proofs.YtobeonkddamnoaaW.PrintWords Go.Proofs.YtobeonkddamnoaaW.PrintLast Go.Proofs.Ytobeonkddamnoaa.Q Go.Proofs.Ytobeonkddamnoaa.M
set_option linter.unusedVariables false
set_option linter.unusedSimpArgs false
def r1 (A : Option Addr) (n c : Nat) (l : List Int) : Ob := row 23 (Value.int .u32) (.slice A n c) l
def b2 (g : Nat) (x0 : Option Addr) (x1 : Nat) (x2 : Nat) (x3 : Int) : Ob := blk g #[.slice x0 x1 x2, .int .u64 x3] 115
def b3 (g : Nat) (x0 : Option Addr) (x1 : Nat) (x2 : Nat) (x3 : Int) : Ob := blk g #[.slice x0 x1 x2, .int .u64 x3] 44
abbrev s4 : Kd (Int × Int × Int × List Int) := (Kd.pair (Kd.int .u8) (Kd.pair (Kd.int .i64) (Kd.pair (Kd.int .u32) (Kd.slice 23 (Kd.int .u32)))))
theorem s4_at {w W : World} {A : Option Addr} {n : Nat} {xs : List (Int × Int × Int × List Int)} (h : Rd s4 (fps []) w A n xs) (hf : Fr (fps []) w W) (i : Int) (h0 : 0 ≤ i) (h1 : i < n) : ∃ ad A3 c3, A = some ad ∧ W.cell? (ad.add (i.toNat * 4)) = some (.int .u8 ((rdOf (0, 0, 0, []) xs i).1)) ∧ W.cell? ⟨(ad.add (i.toNat * 4)).block, (ad.add (i.toNat * 4)).off + 1, none⟩ = some (.int .i64 ((rdOf (0, 0, 0, []) xs i).2.1)) ∧ W.cell? ⟨(ad.add (i.toNat * 4)).block, (ad.add (i.toNat * 4)).off + 2, none⟩ = some (.int .u32 ((rdOf (0, 0, 0, []) xs i).2.2.1)) ∧ W.cell? ⟨(ad.add (i.toNat * 4)).block, (ad.add (i.toNat * 4)).off + 3, none⟩ = some (.slice A3 ((rdOf (0, 0, 0, []) xs i).2.2.2).length c3) ∧ Rd (Kd.int .u32) (fps []) w A3 ((rdOf (0, 0, 0, []) xs i).2.2.2).length ((rdOf (0, 0, 0, []) xs i).2.2.2) := by
  obtain ⟨ad, c, e, hl, hk, hc⟩ := Rd.el h hf (0, 0, 0, []) i h0 h1
  obtain ⟨_, _, rfl, rfl, ⟨_, _, rfl, rfl, ⟨_, _, rfl, rfl, ⟨A3, c3, rfl, _, hr3⟩⟩⟩⟩ := hk
  exact ⟨ad, A3, c3, e, hc 0 _ rfl, hc 1 _ rfl, hc 2 _ rfl, hc 3 _ rfl, Rd.of_C hr3⟩
def b5 (g : Nat) (x0 : Int) (x1 : Int) (x2 : Int) : Ob := blk g #[.int .u8 x0, .int .i64 x1, .int .u32 x2, .slice none 0 0] 41
def b6 (g : Nat) (x0 : Int) (x1 : Int) (x2 : Int) (x3 : Option Addr) (x4 : Nat) (x5 : Nat) : Ob := blk g #[.int .u8 x0, .int .i64 x1, .int .u32 x2, .slice x3 x4 x5] 41

set_option maxHeartbeats 30000000 in
set_option maxRecDepth 100000 in
theorem store_New.calls (a7 : Int) (r : Unit ⊕ (List Int)) (w : World)   (HS : Aside0 (Sep (fps []) w [] w)) (H : Aside0 (store_New.f a7 = some r)) :
    Calls Try.prog 17 #[.int .i64 a7] w fun e w' => Sum.elim (fun (r : Unit) => e = .returned (.tuple #[.pointer none, .int .i64 2]) ∧ Sep (fps []) w [] w') (fun (r : List Int) => ∃ (g43 : Nat), e = .returned (.tuple #[.pointer (some ⟨g43, 0, none⟩), .int .i64 0]) ∧ ∃ (A44 : Option Addr) (m45 : Nat) (n46 : Nat), Sep (fps []) w [b2 g43 A44 m45 n46 0, r1 A44 m45 n46 r] w') r := by
  unfold store_New.f at H
  go_enter Try.func17, Try.ntmps17
  by_cases c21 : a7 < 0
  · replace H := if_yes c21 H
    have c21b0 : decide (a7 < 0) = true := decide_eq_true c21
    clear c21
    go_wp2_with fail
    go_ret2
    rw [← some_eq H]
    exact ⟨(by first | rfl | (simp [IntKind.wrap_u32]; done)), HS.out⟩
  · replace H := if_no c21 H
    have c21b0 : decide (a7 < 0) = false := decide_eq_false c21
    clear c21
    by_cases c22 : a7 > 8388608
    · replace H := if_yes c22 H
      have c22b0 : decide (8388608 < a7) = true := decide_eq_true c22
      clear c22
      go_wp2_with fail
      go_ret2
      rw [← some_eq H]
      exact ⟨(by first | rfl | (simp [IntKind.wrap_u32]; done)), HS.out⟩
    · replace H := if_no c22 H
      have c22b0 : decide (8388608 < a7) = false := decide_eq_false c22
      clear c22
      obtain ⟨m23, HA24, H⟩ := bind_some H
      obtain ⟨hm25, hn26⟩ := mkLen_eq HA24
      have hm25H := Aside0.mk hm25
      clear hm25
      go_wp2_with (first | ((with_reducible refine gate_dst (N := 11) rfl ?_); refine make_event rfl (N := 11) rfl 22 23 (.tmp 10) (.tmp 10) rfl .i64 (.int .u32 0) 4 Try.underlying22 (by kernel_rfl) rfl (by decide) (Value.int .u32) 0 rfl m23 (by show Value.int _ _ = _; rw [hm25H.out]) (by show Value.int _ _ = _; rw [hm25H.out]) (by omega) HS.out ?_; intro g27 w28 HS1; replace HS : Aside0 (Sep (fps []) w [r1 (some ⟨g27, 0, none⟩) m23 m23 (List.replicate m23 (0 : Int))] w28) := ⟨HS1⟩; clear HS1) | ((with_reducible refine gate_dst (N := 13) rfl ?_); refine box_on ?hg (N := 13) ?hd (cs := #[.slice (some ⟨g27, 0, none⟩) m23 m23, .int .u64 0]) (t := 115) ?hr ?_; (case hd => rfl); (case hg => rfl); (case hr => first | (go_simp; done) | (go_simp; rfl)); intro g31 hg w32 hbox hb; replace HS : Aside0 (Sep (fps []) w [r1 (some ⟨g27, 0, none⟩) m23 m23 (List.replicate m23 (0 : Int)), b2 g31 (some ⟨g27, 0, none⟩) m23 m23 0] w32) := ⟨HS.out.box hg hbox hb⟩; clear hg hbox hb))
      go_ret2
      rw [← some_eq H]
      exact ⟨g31, (by first | rfl | (simp [IntKind.wrap_u32]; done)), (some ⟨g27, 0, none⟩), m23, m23, ((HS.out).front 1 (by simp)).keep (l := [b2 g31 (some ⟨g27, 0, none⟩) m23 m23 0, r1 (some ⟨g27, 0, none⟩) m23 m23 (List.replicate m23 (0 : Int))]) (rest := [])⟩

set_option maxHeartbeats 30000000 in
set_option maxRecDepth 100000 in
theorem store_Store_has.calls (l75 : List Int) (a80 : Int) (a81 : Int) (g73 : Nat) (A76 : Option Addr) (m77 : Nat) (n78 : Nat) (r : Bool) (w : World)   (HS : Aside0 (Sep (fps [b2 g73 A76 m77 n78 a80, r1 A76 m77 n78 l75]) w [b2 g73 A76 m77 n78 a80, r1 A76 m77 n78 l75] w)) (H : Aside0 (store_Store_has.f l75 a80 a81 = some r)) :
    Calls Try.prog 69 #[.pointer (some ⟨g73, 0, none⟩), .int .i64 a81] w fun e w' => e = .returned (.bool r) ∧ Sep (fps [b2 g73 A76 m77 n78 a80, r1 A76 m77 n78 l75]) w [b2 g73 A76 m77 n78 a80, r1 A76 m77 n78 l75] w' := by
  generalize (fps [b2 g73 A76 m77 n78 a80, r1 A76 m77 n78 l75]) = FF at HS ⊢
  obtain rfl := (row_len (HS.out.at1)).symm
  unfold store_Store_has.f at H
  go_enter Try.func69, Try.ntmps69
  by_cases c82 : a81 ≥ 0
  · replace H := if_yes c82 H
    have c82b0 : decide (0 ≤ a81) = true := decide_eq_true c82
    clear c82
    have hc83 : w.cell? ⟨g73, 0, none⟩ = some (.slice A76 l75.length n78) := blk_cellv (HS.out.at0) 0 rfl
    go_wp2_with fail
    clear hc83
    go_ret
    rw [← some_eq H]
    exact ⟨(by first | rfl | (simp [IntKind.wrap_u32]; done)), HS.out⟩
  · replace H := if_no c82 H
    have c82b0 : decide (0 ≤ a81) = false := decide_eq_false c82
    clear c82
    go_wp2_with fail
    go_ret
    rw [← some_eq H]
    exact ⟨(by first | rfl | (simp [IntKind.wrap_u32]; done)), HS.out⟩

set_option maxHeartbeats 30000000 in
set_option maxRecDepth 100000 in
theorem atomic_Uint64_Add.calls (l91 : List Int) (a96 : Int) (a97 : Int) (g89 : Nat) (A92 : Option Addr) (m93 : Nat) (n94 : Nat) (r : Int × Int) (w : World)   (HS : Aside0 (Sep (fps [b2 g89 A92 m93 n94 a96, r1 A92 m93 n94 l91]) w [b2 g89 A92 m93 n94 a96, r1 A92 m93 n94 l91] w)) (H : Aside0 (atomic_Uint64_Add.f l91 a96 a97 = some r)) :
    Calls Try.prog 71 #[.pointer (some ⟨g89, 1, none⟩), .int .u64 a97] w fun e w' => e = .returned (.int .u64 r.1) ∧ Sep (fps [b2 g89 A92 m93 n94 a96, r1 A92 m93 n94 l91]) w [b2 g89 A92 m93 n94 r.2, r1 A92 m93 n94 l91] w' := by
  generalize (fps [b2 g89 A92 m93 n94 a96, r1 A92 m93 n94 l91]) = FF at HS ⊢
  obtain rfl := (row_len (HS.out.at1)).symm
  unfold atomic_Uint64_Add.f at H
  go_enter Try.func71, Try.ntmps71
  obtain ⟨y107, HA108, H⟩ := bind_some H
  have hc104 : w.cell? ⟨g89, 1, none⟩ = some (.int .u64 a96) := blk_cellv (HS.out.at0) 1 rfl
  have hz106 : w.frozen? ⟨g89, 1, none⟩ = false := blk_fz (HS.out.at0) 1
  have hn105 : (callFunc 104 #[.pointer (some ⟨g89, 1, none⟩), .int .u64 a97]).run Try.prog w = .ok (.value (.int .u64 y107)) ((World.setCell w ⟨g89, 1, none⟩ (.int .u64 y107))) := (some_eq HA108) ▸ run_call_add Try.func104 (by kernel_rfl) (by kernel_rfl) (by kernel_rfl) .u64 (by kernel_rfl) hc104 hz106 (by rfl)
  go_wp2_with (first | ((with_reducible refine gate_dst (N := 9) rfl ?_); refine run_on2 (by rfl) (w1 := (World.setCell w ⟨g89, 1, none⟩ (.int .u64 y107))) (v := .int .u64 y107) ?hr ?_; (case hr => first | (go_simp; done) | (go_simp; rfl)); intro w109 hst; clear hc104 hz106; have hq0 : Sep FF w [b2 g89 A92 l91.length n94 y107, r1 A92 l91.length n94 l91] (World.setCell w ⟨g89, 1, none⟩ (.int .u64 y107)) := (HS.out).set1 (l1 := []) (l2 := [r1 A92 l91.length n94 l91]) 1 (.int .u64 y107); replace HS : Aside0 (Sep FF w [b2 g89 A92 l91.length n94 y107, r1 A92 l91.length n94 l91] w109) := ⟨by rw [hst]; exact hq0⟩; clear hst hn105 hq0))
  go_ret
  rw [← some_eq H]
  exact ⟨(by first | rfl | (simp [IntKind.wrap_u32]; done)), HS.out⟩

set_option maxHeartbeats 30000000 in
set_option maxRecDepth 100000 in
theorem store_Store_Put.calls (l64 : List Int) (a69 : Int) (a70 : Int) (a71 : Int) (g62 : Nat) (A65 : Option Addr) (m66 : Nat) (n67 : Nat) (r : Bool × Int × List Int) (w : World)   (HS : Aside0 (Sep (fps [b2 g62 A65 m66 n67 a69, r1 A65 m66 n67 l64]) w [b2 g62 A65 m66 n67 a69, r1 A65 m66 n67 l64] w)) (H : Aside0 (store_Store_Put.f l64 a69 a70 a71 = some r)) :
    Calls Try.prog 22 #[.pointer (some ⟨g62, 0, none⟩), .int .i64 a70, .int .u32 a71] w fun e w' => e = .returned (.bool r.1) ∧ Sep (fps [b2 g62 A65 m66 n67 a69, r1 A65 m66 n67 l64]) w [b2 g62 A65 m66 n67 r.2.1, r1 A65 m66 n67 r.2.2] w' := by
  generalize (fps [b2 g62 A65 m66 n67 a69, r1 A65 m66 n67 l64]) = FF at HS ⊢
  obtain rfl := (row_len (HS.out.at1)).symm
  unfold store_Store_Put.f at H
  go_enter Try.func22, Try.ntmps22
  go_wp2_with fail
  obtain ⟨t122, HA123, H⟩ := bind_some H
  refine (store_Store_has.calls l64 a69 a70 g62 A65 l64.length n67 t122 _ ⟨HS.out.begin⟩ HA123).mono ?_
  rintro e_ w124 ⟨rfl, hS⟩
  replace HS : Aside0 (Sep FF w [b2 g62 A65 l64.length n67 a69, r1 A65 l64.length n67 l64] w124) := ⟨HS.out.call hS⟩
  clear hS
  by_cases c125 : t122 = true
  · replace H := if_yes c125 H
    have c125b0 : t122 = true := c125
    have c125b1 : (!t122) = false := by rw [c125b0]; rfl
    try rw [c125b1]
    clear c125
    go_wp2_with fail
    obtain ⟨t126, HA127, H⟩ := bind_some H
    refine (atomic_Uint64_Add.calls l64 a69 1 g62 A65 l64.length n67 t126 _ ⟨HS.out.begin⟩ HA127).mono ?_
    rintro e_ w128 ⟨rfl, hS⟩
    replace HS : Aside0 (Sep FF w [b2 g62 A65 l64.length n67 t126.2, r1 A65 l64.length n67 l64] w128) := ⟨HS.out.call hS⟩
    clear hS
    by_cases c130 : 0 ≤ a70
    · replace H := if_yes c130 H
      have c130b0 : decide (0 ≤ a70) = true := decide_eq_true c130
      have c130p : (0 ≤ a70) = True := eq_true c130
      clear c130
      by_cases c131 : a70 < (l64.length : Int)
      · replace H := if_yes c131 H
        have c131b0 : decide (a70 < (l64.length : Int)) = true := decide_eq_true c131
        have c131p : (a70 < (l64.length : Int)) = True := eq_true c131
        clear c131
        obtain ⟨y134, HA135, H⟩ := bind_some H
        have hc129 : w128.cell? ⟨g62, 0, none⟩ = some (.slice A65 l64.length n67) := blk_cellv (HS.out.at0) 0 rfl
        obtain ⟨g132, ea⟩ := row_at (HS.out.at1) (by have := (of_decide_eq_true c130b0); have := (of_decide_eq_true c131b0); omega); cases ea
        have hx136 := (row_get 0 (HS.out.at1) a70 (of_decide_eq_true c130b0) (of_decide_eq_true c131b0)).1
        have hz137 := (row_get 0 (HS.out.at1) a70 (of_decide_eq_true c130b0) (of_decide_eq_true c131b0)).2
        go_wp2_with (first | ((with_reducible refine gate_store (t := 23) (p := 21) rfl ?_); refine store_event (w1 := World.setCell w128 ⟨g132, (a70).toNat, none⟩ (.int .u32 a71)) rfl (t := 23) (p := 21) rfl rfl ?hr ?_; (case hr => first | (go_simp; done) | (go_simp; rfl)); intro w133 hst; clear hc129 hx136 hz137; have hq := Sep.rowset (l1 := [b2 g62 (some ⟨g132, 0, none⟩) l64.length n67 t126.2]) (l2 := []) HS.out a70 a71; rw [← hst, some_eq HA135] at hq; replace HS : Aside0 (Sep FF w [b2 g62 (some ⟨g132, 0, none⟩) l64.length n67 t126.2, r1 (some ⟨g132, 0, none⟩) l64.length n67 y134] w133) := ⟨hq⟩; clear hst hq))
        go_ret
        rw [← some_eq H]
        exact ⟨(by first | rfl | (simp [IntKind.wrap_u32]; done)), HS.out⟩
      · replace H := if_no c131 H
        have c131b0 : decide (a70 < (l64.length : Int)) = false := decide_eq_false c131
        clear c131
        exact (none_no H).elim
    · replace H := if_no c130 H
      have c130b0 : decide (0 ≤ a70) = false := decide_eq_false c130
      clear c130
      exact (none_no H).elim
  · replace H := if_no c125 H
    have c125b0 : t122 = false := by simpa using c125
    have c125b1 : (!t122) = true := by rw [c125b0]; rfl
    try rw [c125b1]
    clear c125
    go_wp2_with fail
    go_ret
    rw [← some_eq H]
    exact ⟨(by first | rfl | (simp [IntKind.wrap_u32]; done)), HS.out⟩

set_option maxHeartbeats 30000000 in
set_option maxRecDepth 100000 in
theorem store_Store_Get.calls (l145 : List Int) (a150 : Int) (a151 : Int) (g143 : Nat) (A146 : Option Addr) (m147 : Nat) (n148 : Nat) (r : Int × Int) (w : World)   (HS : Aside0 (Sep (fps [b2 g143 A146 m147 n148 a150, r1 A146 m147 n148 l145]) w [b2 g143 A146 m147 n148 a150, r1 A146 m147 n148 l145] w)) (H : Aside0 (store_Store_Get.f l145 a150 a151 = some r)) :
    Calls Try.prog 25 #[.pointer (some ⟨g143, 0, none⟩), .int .i64 a151] w fun e w' => e = .returned (.int .u32 r.1) ∧ Sep (fps [b2 g143 A146 m147 n148 a150, r1 A146 m147 n148 l145]) w [b2 g143 A146 m147 n148 r.2, r1 A146 m147 n148 l145] w' := by
  generalize (fps [b2 g143 A146 m147 n148 a150, r1 A146 m147 n148 l145]) = FF at HS ⊢
  obtain rfl := (row_len (HS.out.at1)).symm
  unfold store_Store_Get.f at H
  go_enter Try.func25, Try.ntmps25
  go_wp2_with fail
  obtain ⟨t165, HA166, H⟩ := bind_some H
  refine (store_Store_has.calls l145 a150 a151 g143 A146 l145.length n148 t165 _ ⟨HS.out.begin⟩ HA166).mono ?_
  rintro e_ w167 ⟨rfl, hS⟩
  replace HS : Aside0 (Sep FF w [b2 g143 A146 l145.length n148 a150, r1 A146 l145.length n148 l145] w167) := ⟨HS.out.call hS⟩
  clear hS
  by_cases c168 : t165 = true
  · replace H := if_yes c168 H
    have c168b0 : t165 = true := c168
    have c168b1 : (!t165) = false := by rw [c168b0]; rfl
    try rw [c168b1]
    clear c168
    go_wp2_with fail
    obtain ⟨t169, HA170, H⟩ := bind_some H
    refine (atomic_Uint64_Add.calls l145 a150 1 g143 A146 l145.length n148 t169 _ ⟨HS.out.begin⟩ HA170).mono ?_
    rintro e_ w171 ⟨rfl, hS⟩
    replace HS : Aside0 (Sep FF w [b2 g143 A146 l145.length n148 t169.2, r1 A146 l145.length n148 l145] w171) := ⟨HS.out.call hS⟩
    clear hS
    by_cases c173 : 0 ≤ a151
    · replace H := if_yes c173 H
      have c173b0 : decide (0 ≤ a151) = true := decide_eq_true c173
      have c173p : (0 ≤ a151) = True := eq_true c173
      clear c173
      by_cases c174 : a151 < (l145.length : Int)
      · replace H := if_yes c174 H
        have c174b0 : decide (a151 < (l145.length : Int)) = true := decide_eq_true c174
        have c174p : (a151 < (l145.length : Int)) = True := eq_true c174
        clear c174
        have hc172 : w171.cell? ⟨g143, 0, none⟩ = some (.slice A146 l145.length n148) := blk_cellv (HS.out.at0) 0 rfl
        obtain ⟨g175, ea⟩ := row_at (HS.out.at1) (by have := (of_decide_eq_true c173b0); have := (of_decide_eq_true c174b0); omega); cases ea
        have hx176 := C_at_int (row_Ci (HS.out.at1)) a151 (of_decide_eq_true c173b0) (of_decide_eq_true c174b0)
        have hx177 : w171.cell? ⟨g175, (a151).toNat, none⟩ = some (.int .u32 (rd l145 a151)) := (row_get 0 (HS.out.at1) a151 (of_decide_eq_true c173b0) (of_decide_eq_true c174b0)).1
        go_wp2_with fail
        clear hc172 hx176 hx177
        go_ret
        rw [← some_eq H]
        exact ⟨(by first | rfl | (simp [IntKind.wrap_u32]; done)), HS.out⟩
      · replace H := if_no c174 H
        have c174b0 : decide (a151 < (l145.length : Int)) = false := decide_eq_false c174
        clear c174
        exact (none_no H).elim
    · replace H := if_no c173 H
      have c173b0 : decide (0 ≤ a151) = false := decide_eq_false c173
      clear c173
      exact (none_no H).elim
  · replace H := if_no c168 H
    have c168b0 : t165 = false := by simpa using c168
    have c168b1 : (!t165) = true := by rw [c168b0]; rfl
    try rw [c168b1]
    clear c168
    go_wp2_with fail
    go_ret
    rw [← some_eq H]
    exact ⟨(by first | rfl | (simp [IntKind.wrap_u32]; done)), HS.out⟩

set_option maxHeartbeats 30000000 in
set_option maxRecDepth 100000 in
theorem atomic_Uint64_Load.calls (l198 : List Int) (a203 : Int) (g196 : Nat) (A199 : Option Addr) (m200 : Nat) (n201 : Nat) (r : Int) (w : World)   (HS : Aside0 (Sep (fps [b2 g196 A199 m200 n201 a203, r1 A199 m200 n201 l198]) w [b2 g196 A199 m200 n201 a203, r1 A199 m200 n201 l198] w)) (H : Aside0 (atomic_Uint64_Load.f l198 a203 = some r)) :
    Calls Try.prog 70 #[.pointer (some ⟨g196, 1, none⟩)] w fun e w' => e = .returned (.int .u64 r) ∧ Sep (fps [b2 g196 A199 m200 n201 a203, r1 A199 m200 n201 l198]) w [b2 g196 A199 m200 n201 a203, r1 A199 m200 n201 l198] w' := by
  generalize (fps [b2 g196 A199 m200 n201 a203, r1 A199 m200 n201 l198]) = FF at HS ⊢
  obtain rfl := (row_len (HS.out.at1)).symm
  unfold atomic_Uint64_Load.f at H
  go_enter Try.func70, Try.ntmps70
  have hc204 : w.cell? ⟨g196, 1, none⟩ = some (.int .u64 a203) := blk_cellv (HS.out.at0) 1 rfl
  have hn205 : (callFunc 103 #[.pointer (some ⟨g196, 1, none⟩)]).run Try.prog w = .ok (.value (.int .u64 a203)) w := run_call_load Try.func103 (by kernel_rfl) (by kernel_rfl) (by kernel_rfl) .u64 (by kernel_rfl) hc204
  go_wp2_with (first | ((with_reducible refine gate_dst (N := 6) rfl ?_); refine run_on2 (by rfl) (w1 := w) (v := .int .u64 a203) ?hr ?_; (case hr => first | (go_simp; done) | (go_simp; rfl)); intro w206 hst; clear hc204; replace HS : Aside0 (Sep FF w [b2 g196 A199 l198.length n201 a203, r1 A199 l198.length n201 l198] w206) := ⟨by rw [hst]; exact HS.out⟩; clear hst hn205))
  go_ret
  rw [← some_eq H]
  exact ⟨(by first | rfl | (simp [IntKind.wrap_u32]; done)), HS.out⟩

set_option maxHeartbeats 30000000 in
set_option maxRecDepth 100000 in
theorem store_Store_Meter.calls (l189 : List Int) (a194 : Int) (g187 : Nat) (A190 : Option Addr) (m191 : Nat) (n192 : Nat) (r : Int) (w : World)   (HS : Aside0 (Sep (fps [b2 g187 A190 m191 n192 a194, r1 A190 m191 n192 l189]) w [b2 g187 A190 m191 n192 a194, r1 A190 m191 n192 l189] w)) (H : Aside0 (store_Store_Meter.f l189 a194 = some r)) :
    Calls Try.prog 21 #[.pointer (some ⟨g187, 0, none⟩)] w fun e w' => e = .returned (.int .u64 r) ∧ Sep (fps [b2 g187 A190 m191 n192 a194, r1 A190 m191 n192 l189]) w [b2 g187 A190 m191 n192 a194, r1 A190 m191 n192 l189] w' := by
  generalize (fps [b2 g187 A190 m191 n192 a194, r1 A190 m191 n192 l189]) = FF at HS ⊢
  obtain rfl := (row_len (HS.out.at1)).symm
  unfold store_Store_Meter.f at H
  go_enter Try.func21, Try.ntmps21
  go_wp2_with fail
  obtain ⟨t207, HA208, H⟩ := bind_some H
  refine (atomic_Uint64_Load.calls l189 a194 g187 A190 l189.length n192 t207 _ ⟨HS.out.begin⟩ HA208).mono ?_
  rintro e_ w209 ⟨rfl, hS⟩
  replace HS : Aside0 (Sep FF w [b2 g187 A190 l189.length n192 a194, r1 A190 l189.length n192 l189] w209) := ⟨HS.out.call hS⟩
  clear hS
  go_wp2_with fail
  go_ret
  rw [← some_eq H]
  exact ⟨(by first | rfl | (simp [IntKind.wrap_u32]; done)), HS.out⟩

set_option maxHeartbeats 30000000 in
set_option maxRecDepth 100000 in
theorem quitrentlaw04_begun.calls  (r : Bool) (w : World)   (HS : Aside0 (Sep (fps []) w [] w)) (H : Aside0 (quitrentlaw04_begun.f = some r)) :
    Calls Try.prog 19 #[] w fun e w' => e = .returned (.bool r) ∧ Sep (fps []) w [] w' := by
  unfold quitrentlaw04_begun.f at H
  go_enter Try.func19, Try.ntmps19
  go_wp2_with fail
  obtain ⟨t48, HA49, H⟩ := bind_some H
  rcases t48 with t50 | t51
  · have H := sum_l H
    refine (store_New.calls 3 (.inl t50) _ ⟨Sep.start _⟩ HA49).mono ?_
    rintro e_ w52 ⟨rfl, hS⟩
    replace HS : Aside0 (Sep (fps []) w [] w52) := ⟨HS.out.call hS⟩
    clear hS
    go_wp2_with fail
    go_ret
    rw [← some_eq H]
    exact ⟨(by first | rfl | (simp [IntKind.wrap_u32]; done)), HS.out⟩
  · have H := sum_r H
    refine (store_New.calls 3 (.inr t51) _ ⟨Sep.start _⟩ HA49).mono ?_
    rintro e_ w53 ⟨g56, rfl, A57, m58, n59, hS⟩
    replace HS : Aside0 (Sep (fps []) w [b2 g56 A57 m58 n59 0, r1 A57 m58 n59 t51] w53) := ⟨HS.out.call hS⟩
    clear hS
    obtain rfl := (row_len (HS.out.at1)).symm
    go_wp2_with fail
    obtain ⟨t138, HA139, H⟩ := bind_some H
    refine (store_Store_Put.calls t51 0 1 7 g56 A57 t51.length n59 t138 _ ⟨HS.out.begin⟩ HA139).mono ?_
    rintro e_ w140 ⟨rfl, hS⟩
    replace HS : Aside0 (Sep (fps []) w [b2 g56 A57 t51.length n59 t138.2.1, r1 A57 t51.length n59 t138.2.2] w140) := ⟨HS.out.call hS⟩
    clear hS
    by_cases c141 : t138.1 = true
    · replace H := if_yes c141 H
      have c141b0 : t138.1 = true := c141
      have c141b1 : (!t138.1) = false := by rw [c141b0]; rfl
      clear c141
      go_wp2_with fail
      obtain ⟨t178, HA179, H⟩ := bind_some H
      refine (store_Store_Get.calls t138.2.2 t138.2.1 1 g56 A57 t51.length n59 t178 _ ⟨HS.out.begin⟩ HA179).mono ?_
      rintro e_ w180 ⟨rfl, hS⟩
      replace HS : Aside0 (Sep (fps []) w [b2 g56 A57 t51.length n59 t178.2, r1 A57 t51.length n59 t138.2.2] w180) := ⟨HS.out.call hS⟩
      clear hS
      by_cases c181 : t178.1 = 7
      · replace H := if_yes c181 H
        have c181b0 : (t178.1 == 7) = true := beq_iff_eq.mpr c181
        have c181b1 : (t178.1 != 7) = false := bne_eq_false_iff_eq.mpr c181
        clear c181
        go_wp2_with fail
        obtain ⟨t182, HA183, H⟩ := bind_some H
        refine (store_Store_Get.calls t138.2.2 t178.2 3 g56 A57 t51.length n59 t182 _ ⟨HS.out.begin⟩ HA183).mono ?_
        rintro e_ w184 ⟨rfl, hS⟩
        replace HS : Aside0 (Sep (fps []) w [b2 g56 A57 t51.length n59 t182.2, r1 A57 t51.length n59 t138.2.2] w184) := ⟨HS.out.call hS⟩
        clear hS
        by_cases c185 : t182.1 = 0
        · replace H := if_yes c185 H
          have c185b0 : (t182.1 == 0) = true := beq_iff_eq.mpr c185
          have c185b1 : (t182.1 != 0) = false := bne_eq_false_iff_eq.mpr c185
          clear c185
          go_wp2_with fail
          obtain ⟨t210, HA211, H⟩ := bind_some H
          refine (store_Store_Meter.calls t138.2.2 t182.2 g56 A57 t51.length n59 t210 _ ⟨HS.out.begin⟩ HA211).mono ?_
          rintro e_ w212 ⟨rfl, hS⟩
          replace HS : Aside0 (Sep (fps []) w [b2 g56 A57 t51.length n59 t182.2, r1 A57 t51.length n59 t138.2.2] w212) := ⟨HS.out.call hS⟩
          clear hS
          replace HS : Aside0 (Sep (fps []) w [] w212) := ⟨HS.out.sub (.cons _ (.cons _ .slnil))⟩
          go_wp2_with fail
          go_ret
          rw [← some_eq H]
          exact ⟨(by first | rfl | (simp [IntKind.wrap_u32]; done)), HS.out⟩
        · replace H := if_no c185 H
          have c185b0 : (t182.1 == 0) = false := beq_eq_false_iff_ne.mpr c185
          have c185b1 : (t182.1 != 0) = true := bne_iff_ne.mpr c185
          clear c185
          replace HS : Aside0 (Sep (fps []) w [] w184) := ⟨HS.out.sub (.cons _ (.cons _ .slnil))⟩
          go_wp2_with fail
          go_ret
          rw [← some_eq H]
          exact ⟨(by first | rfl | (simp [IntKind.wrap_u32]; done)), HS.out⟩
      · replace H := if_no c181 H
        have c181b0 : (t178.1 == 7) = false := beq_eq_false_iff_ne.mpr c181
        have c181b1 : (t178.1 != 7) = true := bne_iff_ne.mpr c181
        clear c181
        replace HS : Aside0 (Sep (fps []) w [] w180) := ⟨HS.out.sub (.cons _ (.cons _ .slnil))⟩
        go_wp2_with fail
        go_ret
        rw [← some_eq H]
        exact ⟨(by first | rfl | (simp [IntKind.wrap_u32]; done)), HS.out⟩
    · replace H := if_no c141 H
      have c141b0 : t138.1 = false := by simpa using c141
      have c141b1 : (!t138.1) = true := by rw [c141b0]; rfl
      clear c141
      replace HS : Aside0 (Sep (fps []) w [] w140) := ⟨HS.out.sub (.cons _ (.cons _ .slnil))⟩
      go_wp2_with fail
      go_ret
      rw [← some_eq H]
      exact ⟨(by first | rfl | (simp [IntKind.wrap_u32]; done)), HS.out⟩

set_option maxHeartbeats 30000000 in
set_option maxRecDepth 100000 in
theorem quitrentref04_New.calls (a229 : Int) (r : List Int) (w : World)   (HS : Aside0 (Sep (fps []) w [] w)) (H : Aside0 (quitrentref04_New.f a229 = some r)) :
    Calls Try.prog 26 #[.int .i64 a229] w fun e w' => ∃ (g250 : Nat), e = .returned (.pointer (some ⟨g250, 0, none⟩)) ∧ ∃ (A251 : Option Addr) (m252 : Nat) (n253 : Nat), Sep (fps []) w [b3 g250 A251 m252 n253 0, r1 A251 m252 n253 r] w' := by
  unfold quitrentref04_New.f at H
  go_enter Try.func26, Try.ntmps26
  obtain ⟨m230, HA231, H⟩ := bind_some H
  obtain ⟨hm232, hn233⟩ := mkLen_eq HA231
  have hm232H := Aside0.mk hm232
  clear hm232
  go_wp2_with (first | ((with_reducible refine gate_dst (N := 4) rfl ?_); refine make_event rfl (N := 4) rfl 22 23 (.tmp 3) (.tmp 3) rfl .i64 (.int .u32 0) 4 Try.underlying22 (by kernel_rfl) rfl (by decide) (Value.int .u32) 0 rfl m230 (by show Value.int _ _ = _; rw [hm232H.out]) (by show Value.int _ _ = _; rw [hm232H.out]) (by omega) HS.out ?_; intro g234 w235 HS1; replace HS : Aside0 (Sep (fps []) w [r1 (some ⟨g234, 0, none⟩) m230 m230 (List.replicate m230 (0 : Int))] w235) := ⟨HS1⟩; clear HS1) | ((with_reducible refine gate_dst (N := 6) rfl ?_); refine box_on ?hg (N := 6) ?hd (cs := #[.slice (some ⟨g234, 0, none⟩) m230 m230, .int .u64 0]) (t := 44) ?hr ?_; (case hd => rfl); (case hg => rfl); (case hr => first | (go_simp; done) | (go_simp; rfl)); intro g238 hg w239 hbox hb; replace HS : Aside0 (Sep (fps []) w [r1 (some ⟨g234, 0, none⟩) m230 m230 (List.replicate m230 (0 : Int)), b3 g238 (some ⟨g234, 0, none⟩) m230 m230 0] w239) := ⟨HS.out.box hg hbox hb⟩; clear hg hbox hb))
  go_ret
  rw [← some_eq H]
  exact ⟨g238, (by first | rfl | (simp [IntKind.wrap_u32]; done)), (some ⟨g234, 0, none⟩), m230, m230, ((HS.out).front 1 (by simp)).keep (l := [b3 g238 (some ⟨g234, 0, none⟩) m230 m230 0, r1 (some ⟨g234, 0, none⟩) m230 m230 (List.replicate m230 (0 : Int))]) (rest := [])⟩

set_option maxHeartbeats 30000000 in
set_option maxRecDepth 100000 in
theorem quitrentref04_Store_Has.calls (l346 : List Int) (a351 : Int) (a352 : Int) (g344 : Nat) (A347 : Option Addr) (m348 : Nat) (n349 : Nat) (r : Bool) (w : World)   (HS : Aside0 (Sep (fps [b3 g344 A347 m348 n349 a351, r1 A347 m348 n349 l346]) w [b3 g344 A347 m348 n349 a351, r1 A347 m348 n349 l346] w)) (H : Aside0 (quitrentref04_Store_Has.f l346 a351 a352 = some r)) :
    Calls Try.prog 75 #[.pointer (some ⟨g344, 0, none⟩), .int .i64 a352] w fun e w' => e = .returned (.bool r) ∧ Sep (fps [b3 g344 A347 m348 n349 a351, r1 A347 m348 n349 l346]) w [b3 g344 A347 m348 n349 a351, r1 A347 m348 n349 l346] w' := by
  generalize (fps [b3 g344 A347 m348 n349 a351, r1 A347 m348 n349 l346]) = FF at HS ⊢
  obtain rfl := (row_len (HS.out.at1)).symm
  unfold quitrentref04_Store_Has.f at H
  go_enter Try.func75, Try.ntmps75
  by_cases c353 : a352 ≥ 0
  · replace H := if_yes c353 H
    have c353b0 : decide (0 ≤ a352) = true := decide_eq_true c353
    clear c353
    have hc354 : w.cell? ⟨g344, 0, none⟩ = some (.slice A347 l346.length n349) := blk_cellv (HS.out.at0) 0 rfl
    go_wp2_with fail
    clear hc354
    go_ret
    rw [← some_eq H]
    exact ⟨(by first | rfl | (simp [IntKind.wrap_u32]; done)), HS.out⟩
  · replace H := if_no c353 H
    have c353b0 : decide (0 ≤ a352) = false := decide_eq_false c353
    clear c353
    go_wp2_with fail
    go_ret
    rw [← some_eq H]
    exact ⟨(by first | rfl | (simp [IntKind.wrap_u32]; done)), HS.out⟩

set_option maxHeartbeats 30000000 in
set_option maxRecDepth 100000 in
theorem quitrentref04_Store_Get.calls (l336 : List Int) (a341 : Int) (a342 : Int) (g334 : Nat) (A337 : Option Addr) (m338 : Nat) (n339 : Nat) (r : Int × Int) (w : World)   (HS : Aside0 (Sep (fps [b3 g334 A337 m338 n339 a341, r1 A337 m338 n339 l336]) w [b3 g334 A337 m338 n339 a341, r1 A337 m338 n339 l336] w)) (H : Aside0 (quitrentref04_Store_Get.f l336 a341 a342 = some r)) :
    Calls Try.prog 73 #[.pointer (some ⟨g334, 0, none⟩), .int .i64 a342] w fun e w' => e = .returned (.int .u32 r.1) ∧ Sep (fps [b3 g334 A337 m338 n339 a341, r1 A337 m338 n339 l336]) w [b3 g334 A337 m338 n339 r.2, r1 A337 m338 n339 l336] w' := by
  generalize (fps [b3 g334 A337 m338 n339 a341, r1 A337 m338 n339 l336]) = FF at HS ⊢
  obtain rfl := (row_len (HS.out.at1)).symm
  unfold quitrentref04_Store_Get.f at H
  go_enter Try.func73, Try.ntmps73
  go_wp2_with fail
  obtain ⟨t368, HA369, H⟩ := bind_some H
  refine (quitrentref04_Store_Has.calls l336 a341 a342 g334 A337 l336.length n339 t368 _ ⟨HS.out.begin⟩ HA369).mono ?_
  rintro e_ w370 ⟨rfl, hS⟩
  replace HS : Aside0 (Sep FF w [b3 g334 A337 l336.length n339 a341, r1 A337 l336.length n339 l336] w370) := ⟨HS.out.call hS⟩
  clear hS
  by_cases c371 : t368 = true
  · replace H := if_yes c371 H
    have c371b0 : t368 = true := c371
    have c371b1 : (!t368) = false := by rw [c371b0]; rfl
    try rw [c371b1]
    clear c371
    by_cases c376 : 0 ≤ a342
    · replace H := if_yes c376 H
      have c376b0 : decide (0 ≤ a342) = true := decide_eq_true c376
      have c376p : (0 ≤ a342) = True := eq_true c376
      clear c376
      by_cases c377 : a342 < (l336.length : Int)
      · replace H := if_yes c377 H
        have c377b0 : decide (a342 < (l336.length : Int)) = true := decide_eq_true c377
        have c377p : (a342 < (l336.length : Int)) = True := eq_true c377
        clear c377
        have hc372 : w370.cell? ⟨g334, 1, none⟩ = some (.int .u64 a341) := blk_cellv (HS.out.at0) 1 rfl
        have hz373 : w370.frozen? ⟨g334, 1, none⟩ = false := blk_fz (HS.out.at0) 1
        go_wp2_with (first | ((with_reducible refine gate_store (t := 31) (p := 16) rfl ?_); refine store_event (w1 := (World.setCell w370 ⟨g334, 1, none⟩ (.int .u64 (IntKind.u64.wrap (a341 + 1))))) rfl (t := 31) (p := 16) rfl rfl ?hr ?_; (case hr => first | (go_simp; done) | (go_simp; rfl)); intro w374 hst; clear hc372 hz373; have hq0 : Sep FF w [b3 g334 A337 l336.length n339 (IntKind.u64.wrap (a341 + 1)), r1 A337 l336.length n339 l336] (World.setCell w370 ⟨g334, 1, none⟩ (.int .u64 (IntKind.u64.wrap (a341 + 1)))) := (HS.out).set1 (l1 := []) (l2 := [r1 A337 l336.length n339 l336]) 1 (.int .u64 (IntKind.u64.wrap (a341 + 1))); replace HS : Aside0 (Sep FF w [b3 g334 A337 l336.length n339 (IntKind.u64.wrap (a341 + 1)), r1 A337 l336.length n339 l336] w374) := ⟨by rw [hst]; exact hq0⟩; clear hq0; clear hst; have hc375 : w374.cell? ⟨g334, 0, none⟩ = some (.slice A337 l336.length n339) := blk_cellv (HS.out.at0) 0 rfl; obtain ⟨g378, ea⟩ := row_at (HS.out.at1) (by have := (of_decide_eq_true c376b0); have := (of_decide_eq_true c377b0); omega); cases ea; have hx379 := C_at_int (row_Ci (HS.out.at1)) a342 (of_decide_eq_true c376b0) (of_decide_eq_true c377b0); have hx380 : w374.cell? ⟨g378, (a342).toNat, none⟩ = some (.int .u32 (rd l336 a342)) := (row_get 0 (HS.out.at1) a342 (of_decide_eq_true c376b0) (of_decide_eq_true c377b0)).1))
        clear hc375 hx379 hx380
        go_ret
        rw [← some_eq H]
        exact ⟨(by first | rfl | (simp [IntKind.wrap_u32]; done)), HS.out⟩
      · replace H := if_no c377 H
        have c377b0 : decide (a342 < (l336.length : Int)) = false := decide_eq_false c377
        clear c377
        exact (none_no H).elim
    · replace H := if_no c376 H
      have c376b0 : decide (0 ≤ a342) = false := decide_eq_false c376
      clear c376
      exact (none_no H).elim
  · replace H := if_no c371 H
    have c371b0 : t368 = false := by simpa using c371
    have c371b1 : (!t368) = true := by rw [c371b0]; rfl
    try rw [c371b1]
    clear c371
    go_wp2_with fail
    go_ret
    rw [← some_eq H]
    exact ⟨(by first | rfl | (simp [IntKind.wrap_u32]; done)), HS.out⟩

set_option maxHeartbeats 30000000 in
set_option maxRecDepth 100000 in
theorem quitrentref04_Store_Put.calls (l406 : List Int) (a411 : Int) (a412 : Int) (a413 : Int) (g404 : Nat) (A407 : Option Addr) (m408 : Nat) (n409 : Nat) (r : Bool × Int × List Int) (w : World)   (HS : Aside0 (Sep (fps [b3 g404 A407 m408 n409 a411, r1 A407 m408 n409 l406]) w [b3 g404 A407 m408 n409 a411, r1 A407 m408 n409 l406] w)) (H : Aside0 (quitrentref04_Store_Put.f l406 a411 a412 a413 = some r)) :
    Calls Try.prog 74 #[.pointer (some ⟨g404, 0, none⟩), .int .i64 a412, .int .u32 a413] w fun e w' => e = .returned (.bool r.1) ∧ Sep (fps [b3 g404 A407 m408 n409 a411, r1 A407 m408 n409 l406]) w [b3 g404 A407 m408 n409 r.2.1, r1 A407 m408 n409 r.2.2] w' := by
  generalize (fps [b3 g404 A407 m408 n409 a411, r1 A407 m408 n409 l406]) = FF at HS ⊢
  obtain rfl := (row_len (HS.out.at1)).symm
  unfold quitrentref04_Store_Put.f at H
  go_enter Try.func74, Try.ntmps74
  go_wp2_with fail
  obtain ⟨t430, HA431, H⟩ := bind_some H
  refine (quitrentref04_Store_Has.calls l406 a411 a412 g404 A407 l406.length n409 t430 _ ⟨HS.out.begin⟩ HA431).mono ?_
  rintro e_ w432 ⟨rfl, hS⟩
  replace HS : Aside0 (Sep FF w [b3 g404 A407 l406.length n409 a411, r1 A407 l406.length n409 l406] w432) := ⟨HS.out.call hS⟩
  clear hS
  by_cases c433 : t430 = true
  · replace H := if_yes c433 H
    have c433b0 : t430 = true := c433
    have c433b1 : (!t430) = false := by rw [c433b0]; rfl
    try rw [c433b1]
    clear c433
    by_cases c438 : 0 ≤ a412
    · replace H := if_yes c438 H
      have c438b0 : decide (0 ≤ a412) = true := decide_eq_true c438
      have c438p : (0 ≤ a412) = True := eq_true c438
      clear c438
      by_cases c439 : a412 < (l406.length : Int)
      · replace H := if_yes c439 H
        have c439b0 : decide (a412 < (l406.length : Int)) = true := decide_eq_true c439
        have c439p : (a412 < (l406.length : Int)) = True := eq_true c439
        clear c439
        obtain ⟨y442, HA443, H⟩ := bind_some H
        have hc434 : w432.cell? ⟨g404, 1, none⟩ = some (.int .u64 a411) := blk_cellv (HS.out.at0) 1 rfl
        have hz435 : w432.frozen? ⟨g404, 1, none⟩ = false := blk_fz (HS.out.at0) 1
        go_wp2_with (first | ((with_reducible refine gate_store (t := 31) (p := 18) rfl ?_); refine store_event (w1 := (World.setCell w432 ⟨g404, 1, none⟩ (.int .u64 (IntKind.u64.wrap (a411 + 1))))) rfl (t := 31) (p := 18) rfl rfl ?hr ?_; (case hr => first | (go_simp; done) | (go_simp; rfl)); intro w436 hst; clear hc434 hz435; have hq0 : Sep FF w [b3 g404 A407 l406.length n409 (IntKind.u64.wrap (a411 + 1)), r1 A407 l406.length n409 l406] (World.setCell w432 ⟨g404, 1, none⟩ (.int .u64 (IntKind.u64.wrap (a411 + 1)))) := (HS.out).set1 (l1 := []) (l2 := [r1 A407 l406.length n409 l406]) 1 (.int .u64 (IntKind.u64.wrap (a411 + 1))); replace HS : Aside0 (Sep FF w [b3 g404 A407 l406.length n409 (IntKind.u64.wrap (a411 + 1)), r1 A407 l406.length n409 l406] w436) := ⟨by rw [hst]; exact hq0⟩; clear hq0; clear hst; have hc437 : w436.cell? ⟨g404, 0, none⟩ = some (.slice A407 l406.length n409) := blk_cellv (HS.out.at0) 0 rfl; obtain ⟨g440, ea⟩ := row_at (HS.out.at1) (by have := (of_decide_eq_true c438b0); have := (of_decide_eq_true c439b0); omega); cases ea; have hx444 := (row_get 0 (HS.out.at1) a412 (of_decide_eq_true c438b0) (of_decide_eq_true c439b0)).1; have hz445 := (row_get 0 (HS.out.at1) a412 (of_decide_eq_true c438b0) (of_decide_eq_true c439b0)).2) | ((with_reducible refine gate_store (t := 23) (p := 25) rfl ?_); refine store_event (w1 := World.setCell w436 ⟨g440, (a412).toNat, none⟩ (.int .u32 a413)) rfl (t := 23) (p := 25) rfl rfl ?hr ?_; (case hr => first | (go_simp; done) | (go_simp; rfl)); intro w441 hst; clear hc437 hx444 hz445; have hq := Sep.rowset (l1 := [b3 g404 (some ⟨g440, 0, none⟩) l406.length n409 (IntKind.u64.wrap (a411 + 1))]) (l2 := []) HS.out a412 a413; rw [← hst, some_eq HA443] at hq; replace HS : Aside0 (Sep FF w [b3 g404 (some ⟨g440, 0, none⟩) l406.length n409 (IntKind.u64.wrap (a411 + 1)), r1 (some ⟨g440, 0, none⟩) l406.length n409 y442] w441) := ⟨hq⟩; clear hst hq))
        go_ret
        rw [← some_eq H]
        exact ⟨(by first | rfl | (simp [IntKind.wrap_u32]; done)), HS.out⟩
      · replace H := if_no c439 H
        have c439b0 : decide (a412 < (l406.length : Int)) = false := decide_eq_false c439
        clear c439
        exact (none_no H).elim
    · replace H := if_no c438 H
      have c438b0 : decide (0 ≤ a412) = false := decide_eq_false c438
      clear c438
      exact (none_no H).elim
  · replace H := if_no c433 H
    have c433b0 : t430 = false := by simpa using c433
    have c433b1 : (!t430) = true := by rw [c433b0]; rfl
    try rw [c433b1]
    clear c433
    go_wp2_with fail
    go_ret
    rw [← some_eq H]
    exact ⟨(by first | rfl | (simp [IntKind.wrap_u32]; done)), HS.out⟩

set_option maxHeartbeats 30000000 in
set_option maxRecDepth 100000 in
theorem store_Store_Peek.calls (l491 : List Int) (a496 : Int) (a497 : Int) (g489 : Nat) (A492 : Option Addr) (m493 : Nat) (n494 : Nat) (r : Int) (w : World)   (HS : Aside0 (Sep (fps [b2 g489 A492 m493 n494 a496, r1 A492 m493 n494 l491]) w [b2 g489 A492 m493 n494 a496, r1 A492 m493 n494 l491] w)) (H : Aside0 (store_Store_Peek.f l491 a496 a497 = some r)) :
    Calls Try.prog 20 #[.pointer (some ⟨g489, 0, none⟩), .int .i64 a497] w fun e w' => e = .returned (.int .u32 r) ∧ Sep (fps [b2 g489 A492 m493 n494 a496, r1 A492 m493 n494 l491]) w [b2 g489 A492 m493 n494 a496, r1 A492 m493 n494 l491] w' := by
  generalize (fps [b2 g489 A492 m493 n494 a496, r1 A492 m493 n494 l491]) = FF at HS ⊢
  obtain rfl := (row_len (HS.out.at1)).symm
  unfold store_Store_Peek.f at H
  go_enter Try.func20, Try.ntmps20
  go_wp2_with fail
  obtain ⟨t498, HA499, H⟩ := bind_some H
  refine (store_Store_has.calls l491 a496 a497 g489 A492 l491.length n494 t498 _ ⟨HS.out.begin⟩ HA499).mono ?_
  rintro e_ w500 ⟨rfl, hS⟩
  replace HS : Aside0 (Sep FF w [b2 g489 A492 l491.length n494 a496, r1 A492 l491.length n494 l491] w500) := ⟨HS.out.call hS⟩
  clear hS
  by_cases c501 : t498 = true
  · replace H := if_yes c501 H
    have c501b0 : t498 = true := c501
    have c501b1 : (!t498) = false := by rw [c501b0]; rfl
    try rw [c501b1]
    clear c501
    by_cases c503 : 0 ≤ a497
    · replace H := if_yes c503 H
      have c503b0 : decide (0 ≤ a497) = true := decide_eq_true c503
      have c503p : (0 ≤ a497) = True := eq_true c503
      clear c503
      by_cases c504 : a497 < (l491.length : Int)
      · replace H := if_yes c504 H
        have c504b0 : decide (a497 < (l491.length : Int)) = true := decide_eq_true c504
        have c504p : (a497 < (l491.length : Int)) = True := eq_true c504
        clear c504
        have hc502 : w500.cell? ⟨g489, 0, none⟩ = some (.slice A492 l491.length n494) := blk_cellv (HS.out.at0) 0 rfl
        obtain ⟨g505, ea⟩ := row_at (HS.out.at1) (by have := (of_decide_eq_true c503b0); have := (of_decide_eq_true c504b0); omega); cases ea
        have hx506 := C_at_int (row_Ci (HS.out.at1)) a497 (of_decide_eq_true c503b0) (of_decide_eq_true c504b0)
        have hx507 : w500.cell? ⟨g505, (a497).toNat, none⟩ = some (.int .u32 (rd l491 a497)) := (row_get 0 (HS.out.at1) a497 (of_decide_eq_true c503b0) (of_decide_eq_true c504b0)).1
        go_wp2_with fail
        clear hc502 hx506 hx507
        go_ret
        rw [← some_eq H]
        exact ⟨(by first | rfl | (simp [IntKind.wrap_u32]; done)), HS.out⟩
      · replace H := if_no c504 H
        have c504b0 : decide (a497 < (l491.length : Int)) = false := decide_eq_false c504
        clear c504
        exact (none_no H).elim
    · replace H := if_no c503 H
      have c503b0 : decide (0 ≤ a497) = false := decide_eq_false c503
      clear c503
      exact (none_no H).elim
  · replace H := if_no c501 H
    have c501b0 : t498 = false := by simpa using c501
    have c501b1 : (!t498) = true := by rw [c501b0]; rfl
    try rw [c501b1]
    clear c501
    go_wp2_with fail
    go_ret
    rw [← some_eq H]
    exact ⟨(by first | rfl | (simp [IntKind.wrap_u32]; done)), HS.out⟩

set_option maxHeartbeats 4000000 in
set_option maxRecDepth 100000 in
theorem slices_Clone_uint32_uint32.calls (l527 : List Int) (A528 : Option Addr) (n529 : Nat) (r : List Int) (w : World) (HR530 : Aside0 (Rd (Kd.int .u32) (fps []) w A528 l527.length l527))  (HS : Aside0 (Sep (fps []) w [] w)) (H : Aside0 (slices_Clone_uint32_uint32.f l527 = some r)) :
    Calls Try.prog 72 #[.slice A528 l527.length n529] w fun e w' => ∃ (A532 : Option Addr) (m533 : Nat) (n534 : Nat), e = .returned (.slice A532 m533 n534) ∧ Sep (fps []) w [r1 A532 m533 n534 r] w' := by
  unfold slices_Clone_uint32_uint32.f at H
  by_cases hl : l527.length ≤ 35184372088832
  · have H := if_yes hl H
    have hr := some_eq H
    subst hr
    have qT : ∀ (w : World) (a : Option Addr) (n c n' c' : Nat), (binOp .eql 22 (.slice a n c) (.slice none n' c')).run Try.prog w = .ok (.bool a.isNone) w := fun w a n c n' c' => Lib.run_eql_slice_nil w _ _ a n c n' c' Try.underlying22
    have HC := Aside0.mk HR530.out.c
    rcases A528 with _ | ad
    · have h0 : l527 = [] := by
        rcases Nat.eq_zero_or_pos l527.length with h | h
        · exact List.eq_nil_of_length_eq_zero h
        · obtain ⟨ad, e, _⟩ := HC.out.2.2 h
          cases e
      subst h0
      clear HC HR530 H hl
      go_enter Try.func72, Try.ntmps72
      go_wp2
      go_ret
      exact ⟨_, _, _, rfl, HS.out.nilrow 23 (Value.int .u32)⟩
    · clear HR530 H
      go_enter Try.func72, Try.ntmps72
      go_wp2_with (first | ((with_reducible refine gate_dst (N := 5) rfl ?_); refine slice_on (n := 0) ?hg (N := 5) ?hd (cs := #[]) (t := 23) ?hr ?_; (case hd => rfl); (case hg => rfl); (case hr => first | (go_simp; done) | (go_simp; rfl)); intro g hg w1 hbox hb; have HS_ : Aside0 (Sep (fps []) w [blk g #[] 23] w1) := ⟨HS.out.box hg hbox hb⟩; have HB := Aside0.mk (Kd.C_below HC.out (HS.out.fr.below.trans hb)); clear HS hg hbox hb HC; have HS := HS_; clear HS_) | ((with_reducible refine gate_dst (N := 7) rfl ?_); refine append_event (l1 := []) (l2 := []) rfl (.tmp 5) (.tmp 6) 22 23 (.int .u32 0) 4 rfl Try.underlying22 (by kernel_rfl) rfl (by decide) (Value.int .u32) (fun _ => rfl) (.slice (some ⟨g, 0, none⟩) 0 0) ([] : List Int) l527 ad n529 rfl rfl (C_news HB.out) (Sep.litrow (l1 := []) (l2 := []) (enc := Value.int .u32) (xs := []) (n := 0) HS.out rfl (by decide)) (by simp; omega) ⟨rfl⟩ ?_; intro A1 c1 w2 HS1; have HS_ : Aside0 (Sep (fps []) w [row 23 (Value.int .u32) (.slice A1 l527.length c1) l527] w2) := ⟨HS1⟩; clear HS HS1; have HS := HS_; clear HS_))
      go_ret
      exact ⟨_, _, _, rfl, HS.out⟩
  · exact (none_no (if_no hl H)).elim

set_option maxHeartbeats 30000000 in
set_option maxRecDepth 100000 in
theorem store_Store_Words.calls (l520 : List Int) (a525 : Int) (g518 : Nat) (A521 : Option Addr) (m522 : Nat) (n523 : Nat) (r : List Int) (w : World)   (HS : Aside0 (Sep (fps [b2 g518 A521 m522 n523 a525, r1 A521 m522 n523 l520]) w [b2 g518 A521 m522 n523 a525, r1 A521 m522 n523 l520] w)) (H : Aside0 (store_Store_Words.f l520 a525 = some r)) :
    Calls Try.prog 24 #[.pointer (some ⟨g518, 0, none⟩)] w fun e w' => ∃ (A550 : Option Addr) (m551 : Nat) (n552 : Nat), e = .returned (.slice A550 m551 n552) ∧ Sep (fps [b2 g518 A521 m522 n523 a525, r1 A521 m522 n523 l520]) w [b2 g518 A521 m522 n523 a525, r1 A521 m522 n523 l520, r1 A550 m551 n552 r] w' := by
  generalize (fps [b2 g518 A521 m522 n523 a525, r1 A521 m522 n523 l520]) = FF at HS ⊢
  obtain rfl := (row_len (HS.out.at1)).symm
  unfold store_Store_Words.f at H
  go_enter Try.func24, Try.ntmps24
  have hc526 : w.cell? ⟨g518, 0, none⟩ = some (.slice A521 l520.length n523) := blk_cellv (HS.out.at0) 0 rfl
  go_wp2_with fail
  clear hc526
  obtain ⟨t536, HA537, H⟩ := bind_some H
  refine (slices_Clone_uint32_uint32.calls l520 A521 n523 t536 _ ⟨Rd.ownI (l := []) HS.out 1 rfl⟩ ⟨Sep.start _⟩ HA537).mono ?_
  rintro e_ w538 ⟨A540, m541, n542, rfl, hS⟩
  replace HS : Aside0 (Sep FF w [r1 A540 m541 n542 t536, b2 g518 A521 l520.length n523 a525, r1 A521 l520.length n523 l520] w538) := ⟨HS.out.call hS⟩
  clear hS
  obtain rfl := (row_len (HS.out.at0)).symm
  go_wp2_with fail
  go_ret
  rw [← some_eq H]
  exact ⟨A540, t536.length, n542, (by first | rfl | (simp [IntKind.wrap_u32]; done)), (((HS.out).front 2 (by simp)).front 2 (by simp)).keep (l := [b2 g518 A521 l520.length n523 a525, r1 A521 l520.length n523 l520, r1 A540 t536.length n542 t536]) (rest := [])⟩

set_option maxHeartbeats 30000000 in
set_option maxRecDepth 100000 in
theorem quitrentref01_Same.calls (k : Nat) (l562 : List Int) (l566 : List Int) (A563 : Option Addr) (n564 : Nat) (A567 : Option Addr) (n568 : Nat) (r : Bool) (w : World) (HR565 : Aside0 (Rd (Kd.int .u32) (fps []) w A563 l562.length l562)) (HR569 : Aside0 (Rd (Kd.int .u32) (fps []) w A567 l566.length l566))  (HS : Aside0 (Sep (fps []) w [] w)) (H : Aside0 (quitrentref01_Same.f k l562 l566 = some r)) :
    Calls Try.prog 23 #[.slice A563 l562.length n564, .slice A567 l566.length n568] w fun e w' => e = .returned (.bool r) ∧ Sep (fps []) w [] w' := by
  unfold quitrentref01_Same.f at H
  go_enter Try.func23, Try.ntmps23
  by_cases c570 : (l562.length : Int) = (l566.length : Int)
  · replace H := if_yes c570 H
    have c570b0 : ((l562.length : Int) == (l566.length : Int)) = true := beq_iff_eq.mpr c570
    have c570b1 : ((l562.length : Int) != (l566.length : Int)) = false := bne_eq_false_iff_eq.mpr c570
    clear c570
    go_wp2_with fail
    obtain ⟨o586, AL587, H⟩ := bind_some H
    go_loopg [5] k (fun kq v5 wc => ∃ (x590 : Int), v5 = .int .i64 x590 ∧ Aside0 (quitrentref01_Same.lo0 kq l562 l566 x590 = some o586) ∧ Aside0 (Sep (fps []) w [] wc))
    case atStart => exact ⟨(0), (by first | rfl | (simp [IntKind.wrap_u32]; done)), AL587, ⟨HS.out⟩⟩
    case round =>
      clear AL587 HS
      obtain ⟨x590, rfl, AL587, HS⟩ := hrel
      obtain ⟨w588, rfl⟩ : ∃ x : World, x = wr := ⟨_, rfl⟩
      cases gk with
      | zero => exact absurd AL587.out (by simp [quitrentref01_Same.lo0])
      | succ k589 =>
        have AL0 := AL587.out
        rw [quitrentref01_Same.lo0] at AL0
        clear AL587
        have AL587 := Aside0.mk AL0
        clear AL0
        by_cases c591 : x590 < (l562.length : Int)
        · replace AL587 := if_yes c591 AL587
          have c591b0 : decide (x590 < (l562.length : Int)) = true := decide_eq_true c591
          clear c591
          go_wp2_with fail
          refine start_ (n := 9) (S := (fun w' => Kd.C (Kd.int .u32) w' A563 l562.length l562 ∧ Kd.C (Kd.int .u32) w' A567 l566.length l566)) (ds := []) #[false, false, false, false, false, false, false, false, false] (by kernel_rfl) rfl rfl (⟨Rd.read (fun _ _ _ _ h => h) HR565.out (HS.out.drew).fr, Rd.read (fun _ _ _ _ h => h) HR569.out (HS.out.drew).fr⟩) (fun hHeld => ?_)
          have HS_ := Aside0.mk HS.out.drew
          clear HS
          generalize World.drew _ = w593 at HS_ hHeld ⊢
          have HS := HS_
          clear HS_
          refine pure_ (i := 0) (N := some 17) (v := ?_) (a' := ?_) #[true, false, false, false, false, false, false, false, false] rfl rfl (by kernel_rfl) (fun _ _ _ h => h) (Or.inl ⟨by rfl, ?_⟩) ?_ ?_
          rotate_left
          · intro w'
            go_simp
            with_reducible rfl
          rotate_left
          · simp only [Act.put, List.setIfInBounds_toArray, List.set_cons_zero, List.set_cons_succ, i64_w, i32_w]
            rfl
          refine pure_ (i := 1) (N := some 18) (v := ?_) (a' := ?_) #[true, true, false, false, false, false, false, false, false] rfl rfl (by kernel_rfl) (fun _ _ _ h => h) (Or.inl ⟨by rfl, ?_⟩) ?_ ?_
          rotate_left
          · intro w'
            go_simp
            with_reducible rfl
          rotate_left
          · simp only [Act.put, List.setIfInBounds_toArray, List.set_cons_zero, List.set_cons_succ, i64_w, i32_w]
            rfl
          by_cases c594 : 0 ≤ x590
          · replace AL587 := if_yes c594 AL587
            have c594b0 : decide (0 ≤ x590) = true := decide_eq_true c594
            have c594p : (0 ≤ x590) = True := eq_true c594
            clear c594
            have ip595 : (x590 < (l562.length : Int)) = True := eq_true (of_decide_eq_true c591b0)
            obtain ⟨ad596, ea, _⟩ := Kd.at_int (Rd.read (fun _ _ _ _ h => h) HR565.out HS.out.fr) x590 (of_decide_eq_true c594b0) (of_decide_eq_true c591b0)
            cases ea
            refine pure_ (i := 2) (N := some 19) (v := ?_) (a' := ?_) #[true, true, true, false, false, false, false, false, false] rfl rfl (by kernel_rfl) (fun _ _ _ h => h) (Or.inl ⟨by rfl, ?_⟩) ?_ ?_
            rotate_left
            · intro w'
              go_simp
              with_reducible rfl
            rotate_left
            · simp only [Act.put, List.setIfInBounds_toArray, List.set_cons_zero, List.set_cons_succ, i64_w, i32_w]
              rfl
            refine pure_ (i := 4) (N := some 21) (v := ?_) (a' := ?_) #[true, true, true, false, true, false, false, false, false] rfl rfl (by kernel_rfl) (fun _ _ _ h => h) (Or.inl ⟨by rfl, ?_⟩) ?_ ?_
            rotate_left
            · intro w'
              go_simp
              with_reducible rfl
            rotate_left
            · simp only [Act.put, List.setIfInBounds_toArray, List.set_cons_zero, List.set_cons_succ, i64_w, i32_w]
              rfl
            refine pure_ (i := 5) (N := some 22) (v := ?_) (a' := ?_) #[true, true, true, false, true, true, false, false, false] rfl rfl (by kernel_rfl) (fun _ _ _ h => h) (Or.inl ⟨by rfl, ?_⟩) ?_ ?_
            rotate_left
            · intro w'
              go_simp
              with_reducible rfl
            rotate_left
            · simp only [Act.put, List.setIfInBounds_toArray, List.set_cons_zero, List.set_cons_succ, i64_w, i32_w]
              rfl
            by_cases c597 : x590 < (l566.length : Int)
            · replace AL587 := if_yes c597 AL587
              have c597b0 : decide (x590 < (l566.length : Int)) = true := decide_eq_true c597
              have c597p : (x590 < (l566.length : Int)) = True := eq_true c597
              clear c597
              obtain ⟨ad598, ea, _⟩ := Kd.at_int (Rd.read (fun _ _ _ _ h => h) HR569.out HS.out.fr) x590 (of_decide_eq_true c594b0) (of_decide_eq_true c597b0)
              cases ea
              refine pure_ (i := 6) (N := some 23) (v := ?_) (a' := ?_) #[true, true, true, false, true, true, true, false, false] rfl rfl (by kernel_rfl) (fun _ _ _ h => h) (Or.inl ⟨by rfl, ?_⟩) ?_ ?_
              rotate_left
              · intro w'
                go_simp
                with_reducible rfl
              rotate_left
              · simp only [Act.put, List.setIfInBounds_toArray, List.set_cons_zero, List.set_cons_succ, i64_w, i32_w]
                rfl
              refine take_ (i := 3) (N := some 20) (v := ?_) (a' := ?_) #[true, true, true, true, true, true, true, false, false] rfl rfl (by kernel_rfl) (fun _ _ _ h => h) (Or.inl ⟨by rfl, ?_⟩) hHeld ?_ ?_
              rotate_left
              · rintro w' hS'
                obtain ⟨s0, s1⟩ := hS'
                have hx := C_at_int s0 x590 (of_decide_eq_true c594b0) (of_decide_eq_true c591b0)
                go_simp
                with_reducible rfl
              rotate_left
              · simp only [Act.put, List.setIfInBounds_toArray, List.set_cons_zero, List.set_cons_succ, i64_w, i32_w]
                rfl
              refine take_ (i := 7) (N := some 24) (v := ?_) (a' := ?_) #[true, true, true, true, true, true, true, true, false] rfl rfl (by kernel_rfl) (fun _ _ _ h => h) (Or.inl ⟨by rfl, ?_⟩) hHeld ?_ ?_
              rotate_left
              · rintro w' hS'
                obtain ⟨s0, s1⟩ := hS'
                have hx := C_at_int s1 x590 (of_decide_eq_true c594b0) (of_decide_eq_true c597b0)
                go_simp
                with_reducible rfl
              rotate_left
              · simp only [Act.put, List.setIfInBounds_toArray, List.set_cons_zero, List.set_cons_succ, i64_w, i32_w]
                rfl
              refine pure_ (i := 8) (N := some 25) (v := ?_) (a' := ?_) #[true, true, true, true, true, true, true, true, true] rfl rfl (by kernel_rfl) (fun _ _ _ h => h) (Or.inl ⟨by rfl, ?_⟩) ?_ ?_
              rotate_left
              · intro w'
                go_simp
                with_reducible rfl
              rotate_left
              · simp only [Act.put, List.setIfInBounds_toArray, List.set_cons_zero, List.set_cons_succ, i64_w, i32_w]
                rfl
              refine done_ (by kernel_rfl) ?_
              by_cases c599 : (rd l562 x590) = (rd l566 x590)
              · replace AL587 := if_yes c599 AL587
                have c599b0 : ((rd l562 x590) == (rd l566 x590)) = true := beq_iff_eq.mpr c599
                have c599b1 : ((rd l562 x590) != (rd l566 x590)) = false := bne_eq_false_iff_eq.mpr c599
                clear c599
                go_wp2_with fail
                go_roundg k589
                case measure => exact Nat.lt_succ_self _
                case rel => exact ⟨(wrap64 (x590 + 1)), (by first | rfl | (simp [IntKind.wrap_u32]; done)), Aside0.mk AL587.out, ⟨HS.out⟩⟩
              · replace AL587 := if_no c599 AL587
                have c599b0 : ((rd l562 x590) == (rd l566 x590)) = false := beq_eq_false_iff_ne.mpr c599
                have c599b1 : ((rd l562 x590) != (rd l566 x590)) = true := bne_iff_ne.mpr c599
                clear c599
                go_wp2_with fail
                have ho := some_eq AL587
                subst ho
                have H := lp_ret H
                go_ret
                rw [← some_eq H]
                exact ⟨(by first | rfl | (simp [IntKind.wrap_u32]; done)), HS.out⟩
            · replace AL587 := if_no c597 AL587
              have c597b0 : decide (x590 < (l566.length : Int)) = false := decide_eq_false c597
              clear c597
              exact (none_no AL587).elim
          · replace AL587 := if_no c594 AL587
            have c594b0 : decide (0 ≤ x590) = false := decide_eq_false c594
            clear c594
            exact (none_no AL587).elim
        · replace AL587 := if_no c591 AL587
          have c591b0 : decide (x590 < (l562.length : Int)) = false := decide_eq_false c591
          clear c591
          have ho := some_eq AL587
          subst ho
          clear AL587
          have H := lp_out H
          go_wp2_with fail
          go_ret
          rw [← some_eq H]
          exact ⟨(by first | rfl | (simp [IntKind.wrap_u32]; done)), HS.out⟩
  · replace H := if_no c570 H
    have c570b0 : ((l562.length : Int) == (l566.length : Int)) = false := beq_eq_false_iff_ne.mpr c570
    have c570b1 : ((l562.length : Int) != (l566.length : Int)) = true := bne_iff_ne.mpr c570
    clear c570
    go_wp2_with fail
    go_ret
    rw [← some_eq H]
    exact ⟨(by first | rfl | (simp [IntKind.wrap_u32]; done)), HS.out⟩

set_option maxHeartbeats 30000000 in
set_option maxRecDepth 100000 in
theorem store_Store_Load.calls (l617 : List Int) (a622 : Int) (l623 : List Int) (g615 : Nat) (A618 : Option Addr) (m619 : Nat) (n620 : Nat) (A624 : Option Addr) (n625 : Nat) (r : Bool × List Int) (w : World) (HR626 : Aside0 (Rd (Kd.int .u32) (fps [b2 g615 A618 m619 n620 a622, r1 A618 m619 n620 l617]) w A624 l623.length l623))  (HS : Aside0 (Sep (fps [b2 g615 A618 m619 n620 a622, r1 A618 m619 n620 l617]) w [b2 g615 A618 m619 n620 a622, r1 A618 m619 n620 l617] w)) (H : Aside0 (store_Store_Load.f l617 a622 l623 = some r)) :
    Calls Try.prog 18 #[.pointer (some ⟨g615, 0, none⟩), .slice A624 l623.length n625] w fun e w' => e = .returned (.bool r.1) ∧ Sep (fps [b2 g615 A618 m619 n620 a622, r1 A618 m619 n620 l617]) w [b2 g615 A618 m619 n620 a622, r1 A618 m619 n620 r.2] w' := by
  generalize (fps [b2 g615 A618 m619 n620 a622, r1 A618 m619 n620 l617]) = FF at HS HR626 ⊢
  obtain rfl := (row_len (HS.out.at1)).symm
  unfold store_Store_Load.f at H
  go_enter Try.func18, Try.ntmps18
  by_cases c633 : (l623.length : Int) = (l617.length : Int)
  · replace H := if_yes c633 H
    have c633b0 : ((l623.length : Int) == (l617.length : Int)) = true := beq_iff_eq.mpr c633
    have c633b1 : ((l623.length : Int) != (l617.length : Int)) = false := bne_eq_false_iff_eq.mpr c633
    clear c633
    obtain ⟨y634, HA635, H⟩ := bind_some H
    have hc632 : w.cell? ⟨g615, 0, none⟩ = some (.slice A618 l617.length n620) := blk_cellv (HS.out.at0) 0 rfl
    go_wp2_with (first | ((with_reducible refine gate_dst (N := 22) rfl ?_); refine copy_event (l1 := [b2 g615 A618 l617.length n620 a622]) (l2 := []) rfl (.tmp 20) (.tmp 21) 22 22 23 rfl Try.underlying22 (by kernel_rfl) (enc := Value.int .u32) (h1 := fun _ => rfl) 0 (.slice A618 l617.length n620) l617 l623 A624 l623.length n625 rfl rfl (Rd.read (fun _ _ _ _ h => h) HR626.out HS.out.fr) HS.out HA635 ?_; intro w636 HS1; clear hc632; replace HS : Aside0 (Sep FF w [b2 g615 A618 l617.length n620 a622, r1 A618 l617.length n620 y634] w636) := ⟨HS1⟩; clear HS1))
    go_ret
    rw [← some_eq H]
    exact ⟨(by first | rfl | (simp [IntKind.wrap_u32]; done)), HS.out⟩
  · replace H := if_no c633 H
    have c633b0 : ((l623.length : Int) == (l617.length : Int)) = false := beq_eq_false_iff_ne.mpr c633
    have c633b1 : ((l623.length : Int) != (l617.length : Int)) = true := bne_iff_ne.mpr c633
    clear c633
    have hc632 : w.cell? ⟨g615, 0, none⟩ = some (.slice A618 l617.length n620) := blk_cellv (HS.out.at0) 0 rfl
    go_wp2_with fail
    clear hc632
    go_ret
    rw [← some_eq H]
    exact ⟨(by first | rfl | (simp [IntKind.wrap_u32]; done)), HS.out⟩

set_option maxHeartbeats 30000000 in
set_option maxRecDepth 100000 in
theorem store_Store_Len.calls (l650 : List Int) (a655 : Int) (g648 : Nat) (A651 : Option Addr) (m652 : Nat) (n653 : Nat) (r : Int) (w : World)   (HS : Aside0 (Sep (fps [b2 g648 A651 m652 n653 a655, r1 A651 m652 n653 l650]) w [b2 g648 A651 m652 n653 a655, r1 A651 m652 n653 l650] w)) (H : Aside0 (store_Store_Len.f l650 a655 = some r)) :
    Calls Try.prog 28 #[.pointer (some ⟨g648, 0, none⟩)] w fun e w' => e = .returned (.int .i64 r) ∧ Sep (fps [b2 g648 A651 m652 n653 a655, r1 A651 m652 n653 l650]) w [b2 g648 A651 m652 n653 a655, r1 A651 m652 n653 l650] w' := by
  generalize (fps [b2 g648 A651 m652 n653 a655, r1 A651 m652 n653 l650]) = FF at HS ⊢
  obtain rfl := (row_len (HS.out.at1)).symm
  unfold store_Store_Len.f at H
  go_enter Try.func28, Try.ntmps28
  have hc656 : w.cell? ⟨g648, 0, none⟩ = some (.slice A651 l650.length n653) := blk_cellv (HS.out.at0) 0 rfl
  go_wp2_with fail
  clear hc656
  go_ret
  rw [← some_eq H]
  exact ⟨(by first | rfl | (simp [IntKind.wrap_u32]; done)), HS.out⟩

set_option maxHeartbeats 30000000 in
set_option maxRecDepth 100000 in
theorem quitrentlaw04_do.calls (k : Nat) (l301 : List Int) (a306 : Int) (l310 : List Int) (a315 : Int) (a316 : Int) (a317 : Int) (a318 : Int) (l319 : List Int) (g299 : Nat) (A302 : Option Addr) (m303 : Nat) (n304 : Nat) (g308 : Nat) (A311 : Option Addr) (m312 : Nat) (n313 : Nat) (A320 : Option Addr) (n321 : Nat) (r : Bool × Int × List Int × Int × List Int) (w : World) (HR322 : Aside0 (Rd (Kd.int .u32) (fps [b2 g299 A302 m303 n304 a306, r1 A302 m303 n304 l301, b3 g308 A311 m312 n313 a315, r1 A311 m312 n313 l310]) w A320 l319.length l319))  (HS : Aside0 (Sep (fps [b2 g299 A302 m303 n304 a306, r1 A302 m303 n304 l301, b3 g308 A311 m312 n313 a315, r1 A311 m312 n313 l310]) w [b2 g299 A302 m303 n304 a306, r1 A302 m303 n304 l301, b3 g308 A311 m312 n313 a315, r1 A311 m312 n313 l310] w)) (H : Aside0 (quitrentlaw04_do.f k l301 a306 l310 a315 a316 a317 a318 l319 = some r)) :
    Calls Try.prog 27 #[.pointer (some ⟨g299, 0, none⟩), .pointer (some ⟨g308, 0, none⟩), .agg #[.int .u8 a316, .int .i64 a317, .int .u32 a318, .slice A320 l319.length n321]] w fun e w' => e = .returned (.bool r.1) ∧ Sep (fps [b2 g299 A302 m303 n304 a306, r1 A302 m303 n304 l301, b3 g308 A311 m312 n313 a315, r1 A311 m312 n313 l310]) w [b2 g299 A302 m303 n304 r.2.1, r1 A302 m303 n304 r.2.2.1, b3 g308 A311 m312 n313 r.2.2.2.1, r1 A311 m312 n313 r.2.2.2.2] w' := by
  generalize (fps [b2 g299 A302 m303 n304 a306, r1 A302 m303 n304 l301, b3 g308 A311 m312 n313 a315, r1 A311 m312 n313 l310]) = FF at HS HR322 ⊢
  obtain rfl := (row_len (HS.out.at1)).symm
  obtain rfl := (row_len (HS.out.at3)).symm
  unfold quitrentlaw04_do.f at H
  go_enter Try.func27, Try.ntmps27
  by_cases c455 : a316 = 0
  · replace H := if_yes c455 H
    have c455b0 : (a316 == 0) = true := beq_iff_eq.mpr c455
    have c455b1 : (a316 != 0) = false := bne_eq_false_iff_eq.mpr c455
    clear c455
    go_wp2_with (first | ((with_reducible refine gate_dst (N := 5) rfl ?_); refine box_on ?hg (N := 5) ?hd (cs := #[.int .u8 a316, .int .i64 a317, .int .u32 a318, .slice A320 l319.length n321]) (t := 41) ?hr ?_; (case hd => rfl); (case hg => rfl); (case hr => first | (go_simp; done) | (go_simp; rfl)); intro g451 hg w452 hbox hb; replace HS : Aside0 (Sep FF w [b2 g299 A302 l301.length n304 a306, r1 A302 l301.length n304 l301, b3 g308 A311 l310.length n313 a315, r1 A311 l310.length n313 l310, b6 g451 a316 a317 a318 A320 l319.length n321] w452) := ⟨HS.out.box hg hbox hb⟩; clear hg hbox hb; have hc454 : w452.cell? ⟨g451, 0, none⟩ = some (.int .u8 a316) := blk_cellv (HS.out.at4) 0 rfl))
    clear hc454
    refine start_ (n := 10) (S := (fun w' => w'.cell? ⟨g451, 1, none⟩ = some (.int .i64 a317))) (ds := []) #[false, false, false, false, false, false, false, false, false, false] (by kernel_rfl) rfl rfl (blk_cellv ((HS.out.drew).at4) 1 rfl) (fun hHeld => ?_)
    have HS_ := Aside0.mk HS.out.drew
    clear HS
    generalize World.drew _ = w457 at HS_ hHeld ⊢
    have HS := HS_
    clear HS_
    refine pure_ (i := 0) (N := some 13) (v := ?_) (a' := ?_) #[true, false, false, false, false, false, false, false, false, false] rfl rfl (by kernel_rfl) (fun _ _ _ h => h) (Or.inl ⟨by rfl, ?_⟩) ?_ ?_
    rotate_left
    · intro w'
      go_simp
      with_reducible rfl
    rotate_left
    · simp only [Act.put, List.setIfInBounds_toArray, List.set_cons_zero, List.set_cons_succ, i64_w, i32_w]
      rfl
    refine pure_ (i := 1) (N := some 14) (v := ?_) (a' := ?_) #[true, true, false, false, false, false, false, false, false, false] rfl rfl (by kernel_rfl) (fun _ _ _ h => h) (Or.inl ⟨by rfl, ?_⟩) ?_ ?_
    rotate_left
    · intro w'
      go_simp
      with_reducible rfl
    rotate_left
    · simp only [Act.put, List.setIfInBounds_toArray, List.set_cons_zero, List.set_cons_succ, i64_w, i32_w]
      rfl
    refine pure_ (i := 4) (N := some 17) (v := ?_) (a' := ?_) #[true, true, false, false, true, false, false, false, false, false] rfl rfl (by kernel_rfl) (fun _ _ _ h => h) (Or.inl ⟨by rfl, ?_⟩) ?_ ?_
    rotate_left
    · intro w'
      go_simp
      with_reducible rfl
    rotate_left
    · simp only [Act.put, List.setIfInBounds_toArray, List.set_cons_zero, List.set_cons_succ, i64_w, i32_w]
      rfl
    refine pure_ (i := 5) (N := some 18) (v := ?_) (a' := ?_) #[true, true, false, false, true, true, false, false, false, false] rfl rfl (by kernel_rfl) (fun _ _ _ h => h) (Or.inl ⟨by rfl, ?_⟩) ?_ ?_
    rotate_left
    · intro w'
      go_simp
      with_reducible rfl
    rotate_left
    · simp only [Act.put, List.setIfInBounds_toArray, List.set_cons_zero, List.set_cons_succ, i64_w, i32_w]
      rfl
    refine take_ (i := 2) (N := some 15) (v := ?_) (a' := ?_) #[true, true, true, false, true, true, false, false, false, false] rfl rfl (by kernel_rfl) (fun _ _ _ h => h) (Or.inl ⟨by rfl, ?_⟩) hHeld ?_ ?_
    rotate_left
    · rintro w' hS'
      have s0 := hS'
      go_simp
      with_reducible rfl
    rotate_left
    · simp only [Act.put, List.setIfInBounds_toArray, List.set_cons_zero, List.set_cons_succ, i64_w, i32_w]
      rfl
    refine take_ (i := 6) (N := some 19) (v := ?_) (a' := ?_) #[true, true, true, false, true, true, true, false, false, false] rfl rfl (by kernel_rfl) (fun _ _ _ h => h) (Or.inl ⟨by rfl, ?_⟩) hHeld ?_ ?_
    rotate_left
    · rintro w' hS'
      have s0 := hS'
      go_simp
      with_reducible rfl
    rotate_left
    · simp only [Act.put, List.setIfInBounds_toArray, List.set_cons_zero, List.set_cons_succ, i64_w, i32_w]
      rfl
    refine one_ (i := 3) (N := some 16) #[true, true, true, true, true, true, true, false, false, false] rfl rfl (by kernel_rfl) (by decide) (fun K hK => ?_)
    obtain ⟨t458, HA459, H⟩ := bind_some H
    refine goes_ Try.func25 (by kernel_rfl) rfl #[.pointer (some ⟨g299, 0, none⟩), .int .i64 a317] (by rfl) rfl rfl (by (try simp only [List.map_toArray, List.map_cons, List.map_nil]); first | done | rfl) ?_
    refine (store_Store_Get.calls l301 a306 a317 g299 A302 l301.length n304 t458 _ ⟨HS.out.begin⟩ HA459).mono ?_
    rintro e_ w460 ⟨rfl, hS⟩
    replace HS : Aside0 (Sep FF w [b2 g299 A302 l301.length n304 t458.2, r1 A302 l301.length n304 l301, b3 g308 A311 l310.length n313 a315, r1 A311 l310.length n313 l310, b6 g451 a316 a317 a318 A320 l319.length n321] w460) := ⟨HS.out.call hS⟩
    clear hS
    refine ⟨_, rfl, ?_⟩
    refine hK.out _ _ (blk_cellv (HS.out.at4) 1 rfl) (fun hHeld => ?_)
    clear hK K
    refine norm_ (a' := ?_) ?_ ?_
    rotate_left
    · show Act.put _ (some 16) _ = _
      simp only [Act.put, List.setIfInBounds_toArray, List.set_cons_zero, List.set_cons_succ, i64_w, i32_w]
      rfl
    refine one_ (i := 7) (N := some 20) #[true, true, true, true, true, true, true, true, false, false] rfl rfl (by kernel_rfl) (by decide) (fun K hK => ?_)
    replace HS : Aside0 (Sep FF w [r1 A311 l310.length n313 l310, b2 g299 A302 l301.length n304 t458.2, r1 A302 l301.length n304 l301, b3 g308 A311 l310.length n313 a315, b6 g451 a316 a317 a318 A320 l319.length n321] w460) := ⟨HS.out.front 3 (by simp)⟩
    replace HS : Aside0 (Sep FF w [b3 g308 A311 l310.length n313 a315, r1 A311 l310.length n313 l310, b2 g299 A302 l301.length n304 t458.2, r1 A302 l301.length n304 l301, b6 g451 a316 a317 a318 A320 l319.length n321] w460) := ⟨HS.out.front 3 (by simp)⟩
    obtain ⟨t461, HA462, H⟩ := bind_some H
    refine goes_ Try.func73 (by kernel_rfl) rfl #[.pointer (some ⟨g308, 0, none⟩), .int .i64 a317] (by rfl) rfl rfl (by (try simp only [List.map_toArray, List.map_cons, List.map_nil]); first | done | rfl) ?_
    refine (quitrentref04_Store_Get.calls l310 a315 a317 g308 A311 l310.length n313 t461 _ ⟨HS.out.begin⟩ HA462).mono ?_
    rintro e_ w463 ⟨rfl, hS⟩
    replace HS : Aside0 (Sep FF w [b3 g308 A311 l310.length n313 t461.2, r1 A311 l310.length n313 l310, b2 g299 A302 l301.length n304 t458.2, r1 A302 l301.length n304 l301, b6 g451 a316 a317 a318 A320 l319.length n321] w463) := ⟨HS.out.call hS⟩
    clear hS
    refine ⟨_, rfl, ?_⟩
    refine hK.out _ _ (blk_cellv (HS.out.at4) 1 rfl) (fun hHeld => ?_)
    clear hK K
    refine norm_ (a' := ?_) ?_ ?_
    rotate_left
    · show Act.put _ (some 20) _ = _
      simp only [Act.put, List.setIfInBounds_toArray, List.set_cons_zero, List.set_cons_succ, i64_w, i32_w]
      rfl
    refine pure_ (i := 8) (N := some 21) (v := ?_) (a' := ?_) #[true, true, true, true, true, true, true, true, true, false] rfl rfl (by kernel_rfl) (fun _ _ _ h => h) (Or.inl ⟨by rfl, ?_⟩) ?_ ?_
    rotate_left
    · intro w'
      go_simp
      with_reducible rfl
    rotate_left
    · simp only [Act.put, List.setIfInBounds_toArray, List.set_cons_zero, List.set_cons_succ, i64_w, i32_w]
      rfl
    refine pure_ (i := 9) (N := some 6) (v := ?_) (a' := ?_) #[true, true, true, true, true, true, true, true, true, true] rfl rfl (by kernel_rfl) (fun _ _ _ h => h) (Or.inl ⟨by rfl, ?_⟩) ?_ ?_
    rotate_left
    · intro w'
      go_simp
      with_reducible rfl
    rotate_left
    · simp only [Act.put, List.setIfInBounds_toArray, List.set_cons_zero, List.set_cons_succ, i64_w, i32_w]
      rfl
    refine done_ (by kernel_rfl) ?_
    replace HS : Aside0 (Sep FF w [b3 g308 A311 l310.length n313 t461.2, r1 A311 l310.length n313 l310, b2 g299 A302 l301.length n304 t458.2, r1 A302 l301.length n304 l301] w463) := ⟨HS.out.sub (.cons_cons _ (.cons_cons _ (.cons_cons _ (.cons_cons _ (.cons _ .slnil)))))⟩
    go_wp2_with fail
    go_ret
    rw [← some_eq H]
    exact ⟨(by first | rfl | (simp [IntKind.wrap_u32]; done)), (((((HS.out).front 1 (by simp)).front 1 (by simp)).front 3 (by simp)).front 3 (by simp)).keep (l := [b2 g299 A302 l301.length n304 t458.2, r1 A302 l301.length n304 l301, b3 g308 A311 l310.length n313 t461.2, r1 A311 l310.length n313 l310]) (rest := [])⟩
  · replace H := if_no c455 H
    have c455b0 : (a316 == 0) = false := beq_eq_false_iff_ne.mpr c455
    have c455b1 : (a316 != 0) = true := bne_iff_ne.mpr c455
    clear c455
    by_cases c464 : a316 = 1
    · replace H := if_yes c464 H
      have c464b0 : (a316 == 1) = true := beq_iff_eq.mpr c464
      have c464b1 : (a316 != 1) = false := bne_eq_false_iff_eq.mpr c464
      clear c464
      go_wp2_with (first | ((with_reducible refine gate_dst (N := 5) rfl ?_); refine box_on ?hg (N := 5) ?hd (cs := #[.int .u8 a316, .int .i64 a317, .int .u32 a318, .slice A320 l319.length n321]) (t := 41) ?hr ?_; (case hd => rfl); (case hg => rfl); (case hr => first | (go_simp; done) | (go_simp; rfl)); intro g451 hg w452 hbox hb; replace HS : Aside0 (Sep FF w [b2 g299 A302 l301.length n304 a306, r1 A302 l301.length n304 l301, b3 g308 A311 l310.length n313 a315, r1 A311 l310.length n313 l310, b6 g451 a316 a317 a318 A320 l319.length n321] w452) := ⟨HS.out.box hg hbox hb⟩; clear hg hbox hb; have hc454 : w452.cell? ⟨g451, 0, none⟩ = some (.int .u8 a316) := blk_cellv (HS.out.at4) 0 rfl))
      clear hc454
      refine start_ (n := 14) (S := (fun w' => w'.cell? ⟨g451, 1, none⟩ = some (.int .i64 a317) ∧ w'.cell? ⟨g451, 2, none⟩ = some (.int .u32 a318))) (ds := []) #[false, false, false, false, false, false, false, false, false, false, false, false, false, false] (by kernel_rfl) rfl rfl (⟨blk_cellv ((HS.out.drew).at4) 1 rfl, blk_cellv ((HS.out.drew).at4) 2 rfl⟩) (fun hHeld => ?_)
      have HS_ := Aside0.mk HS.out.drew
      clear HS
      generalize World.drew _ = w466 at HS_ hHeld ⊢
      have HS := HS_
      clear HS_
      refine pure_ (i := 0) (N := some 24) (v := ?_) (a' := ?_) #[true, false, false, false, false, false, false, false, false, false, false, false, false, false] rfl rfl (by kernel_rfl) (fun _ _ _ h => h) (Or.inl ⟨by rfl, ?_⟩) ?_ ?_
      rotate_left
      · intro w'
        go_simp
        with_reducible rfl
      rotate_left
      · simp only [Act.put, List.setIfInBounds_toArray, List.set_cons_zero, List.set_cons_succ, i64_w, i32_w]
        rfl
      refine pure_ (i := 1) (N := some 25) (v := ?_) (a' := ?_) #[true, true, false, false, false, false, false, false, false, false, false, false, false, false] rfl rfl (by kernel_rfl) (fun _ _ _ h => h) (Or.inl ⟨by rfl, ?_⟩) ?_ ?_
      rotate_left
      · intro w'
        go_simp
        with_reducible rfl
      rotate_left
      · simp only [Act.put, List.setIfInBounds_toArray, List.set_cons_zero, List.set_cons_succ, i64_w, i32_w]
        rfl
      refine pure_ (i := 3) (N := some 27) (v := ?_) (a' := ?_) #[true, true, false, true, false, false, false, false, false, false, false, false, false, false] rfl rfl (by kernel_rfl) (fun _ _ _ h => h) (Or.inl ⟨by rfl, ?_⟩) ?_ ?_
      rotate_left
      · intro w'
        go_simp
        with_reducible rfl
      rotate_left
      · simp only [Act.put, List.setIfInBounds_toArray, List.set_cons_zero, List.set_cons_succ, i64_w, i32_w]
        rfl
      refine pure_ (i := 6) (N := some 30) (v := ?_) (a' := ?_) #[true, true, false, true, false, false, true, false, false, false, false, false, false, false] rfl rfl (by kernel_rfl) (fun _ _ _ h => h) (Or.inl ⟨by rfl, ?_⟩) ?_ ?_
      rotate_left
      · intro w'
        go_simp
        with_reducible rfl
      rotate_left
      · simp only [Act.put, List.setIfInBounds_toArray, List.set_cons_zero, List.set_cons_succ, i64_w, i32_w]
        rfl
      refine pure_ (i := 7) (N := some 31) (v := ?_) (a' := ?_) #[true, true, false, true, false, false, true, true, false, false, false, false, false, false] rfl rfl (by kernel_rfl) (fun _ _ _ h => h) (Or.inl ⟨by rfl, ?_⟩) ?_ ?_
      rotate_left
      · intro w'
        go_simp
        with_reducible rfl
      rotate_left
      · simp only [Act.put, List.setIfInBounds_toArray, List.set_cons_zero, List.set_cons_succ, i64_w, i32_w]
        rfl
      refine pure_ (i := 9) (N := some 33) (v := ?_) (a' := ?_) #[true, true, false, true, false, false, true, true, false, true, false, false, false, false] rfl rfl (by kernel_rfl) (fun _ _ _ h => h) (Or.inl ⟨by rfl, ?_⟩) ?_ ?_
      rotate_left
      · intro w'
        go_simp
        with_reducible rfl
      rotate_left
      · simp only [Act.put, List.setIfInBounds_toArray, List.set_cons_zero, List.set_cons_succ, i64_w, i32_w]
        rfl
      refine take_ (i := 2) (N := some 26) (v := ?_) (a' := ?_) #[true, true, true, true, false, false, true, true, false, true, false, false, false, false] rfl rfl (by kernel_rfl) (fun _ _ _ h => h) (Or.inl ⟨by rfl, ?_⟩) hHeld ?_ ?_
      rotate_left
      · rintro w' hS'
        obtain ⟨s0, s1⟩ := hS'
        go_simp
        with_reducible rfl
      rotate_left
      · simp only [Act.put, List.setIfInBounds_toArray, List.set_cons_zero, List.set_cons_succ, i64_w, i32_w]
        rfl
      refine take_ (i := 4) (N := some 28) (v := ?_) (a' := ?_) #[true, true, true, true, true, false, true, true, false, true, false, false, false, false] rfl rfl (by kernel_rfl) (fun _ _ _ h => h) (Or.inl ⟨by rfl, ?_⟩) hHeld ?_ ?_
      rotate_left
      · rintro w' hS'
        obtain ⟨s0, s1⟩ := hS'
        go_simp
        with_reducible rfl
      rotate_left
      · simp only [Act.put, List.setIfInBounds_toArray, List.set_cons_zero, List.set_cons_succ, i64_w, i32_w]
        rfl
      refine take_ (i := 8) (N := some 32) (v := ?_) (a' := ?_) #[true, true, true, true, true, false, true, true, true, true, false, false, false, false] rfl rfl (by kernel_rfl) (fun _ _ _ h => h) (Or.inl ⟨by rfl, ?_⟩) hHeld ?_ ?_
      rotate_left
      · rintro w' hS'
        obtain ⟨s0, s1⟩ := hS'
        go_simp
        with_reducible rfl
      rotate_left
      · simp only [Act.put, List.setIfInBounds_toArray, List.set_cons_zero, List.set_cons_succ, i64_w, i32_w]
        rfl
      refine take_ (i := 10) (N := some 34) (v := ?_) (a' := ?_) #[true, true, true, true, true, false, true, true, true, true, true, false, false, false] rfl rfl (by kernel_rfl) (fun _ _ _ h => h) (Or.inl ⟨by rfl, ?_⟩) hHeld ?_ ?_
      rotate_left
      · rintro w' hS'
        obtain ⟨s0, s1⟩ := hS'
        go_simp
        with_reducible rfl
      rotate_left
      · simp only [Act.put, List.setIfInBounds_toArray, List.set_cons_zero, List.set_cons_succ, i64_w, i32_w]
        rfl
      refine one_ (i := 5) (N := some 29) #[true, true, true, true, true, true, true, true, true, true, true, false, false, false] rfl rfl (by kernel_rfl) (by decide) (fun K hK => ?_)
      obtain ⟨t467, HA468, H⟩ := bind_some H
      refine goes_ Try.func22 (by kernel_rfl) rfl #[.pointer (some ⟨g299, 0, none⟩), .int .i64 a317, .int .u32 a318] (by rfl) rfl rfl (by (try simp only [List.map_toArray, List.map_cons, List.map_nil]); first | done | rfl) ?_
      refine (store_Store_Put.calls l301 a306 a317 a318 g299 A302 l301.length n304 t467 _ ⟨HS.out.begin⟩ HA468).mono ?_
      rintro e_ w469 ⟨rfl, hS⟩
      replace HS : Aside0 (Sep FF w [b2 g299 A302 l301.length n304 t467.2.1, r1 A302 l301.length n304 t467.2.2, b3 g308 A311 l310.length n313 a315, r1 A311 l310.length n313 l310, b6 g451 a316 a317 a318 A320 l319.length n321] w469) := ⟨HS.out.call hS⟩
      clear hS
      refine ⟨_, rfl, ?_⟩
      refine hK.out _ _ (⟨blk_cellv (HS.out.at4) 1 rfl, blk_cellv (HS.out.at4) 2 rfl⟩) (fun hHeld => ?_)
      clear hK K
      refine norm_ (a' := ?_) ?_ ?_
      rotate_left
      · show Act.put _ (some 29) _ = _
        simp only [Act.put, List.setIfInBounds_toArray, List.set_cons_zero, List.set_cons_succ, i64_w, i32_w]
        rfl
      refine one_ (i := 11) (N := some 35) #[true, true, true, true, true, true, true, true, true, true, true, true, false, false] rfl rfl (by kernel_rfl) (by decide) (fun K hK => ?_)
      replace HS : Aside0 (Sep FF w [r1 A311 l310.length n313 l310, b2 g299 A302 l301.length n304 t467.2.1, r1 A302 l301.length n304 t467.2.2, b3 g308 A311 l310.length n313 a315, b6 g451 a316 a317 a318 A320 l319.length n321] w469) := ⟨HS.out.front 3 (by simp)⟩
      replace HS : Aside0 (Sep FF w [b3 g308 A311 l310.length n313 a315, r1 A311 l310.length n313 l310, b2 g299 A302 l301.length n304 t467.2.1, r1 A302 l301.length n304 t467.2.2, b6 g451 a316 a317 a318 A320 l319.length n321] w469) := ⟨HS.out.front 3 (by simp)⟩
      obtain ⟨t470, HA471, H⟩ := bind_some H
      refine goes_ Try.func74 (by kernel_rfl) rfl #[.pointer (some ⟨g308, 0, none⟩), .int .i64 a317, .int .u32 a318] (by rfl) rfl rfl (by (try simp only [List.map_toArray, List.map_cons, List.map_nil]); first | done | rfl) ?_
      refine (quitrentref04_Store_Put.calls l310 a315 a317 a318 g308 A311 l310.length n313 t470 _ ⟨HS.out.begin⟩ HA471).mono ?_
      rintro e_ w472 ⟨rfl, hS⟩
      replace HS : Aside0 (Sep FF w [b3 g308 A311 l310.length n313 t470.2.1, r1 A311 l310.length n313 t470.2.2, b2 g299 A302 l301.length n304 t467.2.1, r1 A302 l301.length n304 t467.2.2, b6 g451 a316 a317 a318 A320 l319.length n321] w472) := ⟨HS.out.call hS⟩
      clear hS
      refine ⟨_, rfl, ?_⟩
      refine hK.out _ _ (⟨blk_cellv (HS.out.at4) 1 rfl, blk_cellv (HS.out.at4) 2 rfl⟩) (fun hHeld => ?_)
      clear hK K
      refine norm_ (a' := ?_) ?_ ?_
      rotate_left
      · show Act.put _ (some 35) _ = _
        simp only [Act.put, List.setIfInBounds_toArray, List.set_cons_zero, List.set_cons_succ, i64_w, i32_w]
        rfl
      by_cases c473 : t467.1 = true
      · replace H := if_yes c473 H
        have c473b0 : t467.1 = true := c473
        have c473b1 : (!t467.1) = false := by rw [c473b0]; rfl
        clear c473
        by_cases c474 : t470.1 = true
        · replace H := if_yes c474 H
          have c474b0 : t470.1 = true := c474
          have c474b1 : (!t470.1) = false := by rw [c474b0]; rfl
          clear c474
          refine pure_ (i := 12) (N := some 36) (v := ?_) (a' := ?_) #[true, true, true, true, true, true, true, true, true, true, true, true, true, false] rfl rfl (by kernel_rfl) (fun _ _ _ h => h) (Or.inl ⟨by rfl, ?_⟩) ?_ ?_
          rotate_left
          · intro w'
            go_simp
            with_reducible rfl
          rotate_left
          · simp only [Act.put, List.setIfInBounds_toArray, List.set_cons_zero, List.set_cons_succ, i64_w, i32_w]
            rfl
          refine pure_ (i := 13) (N := some 6) (v := ?_) (a' := ?_) #[true, true, true, true, true, true, true, true, true, true, true, true, true, true] rfl rfl (by kernel_rfl) (fun _ _ _ h => h) (Or.inl ⟨by rfl, ?_⟩) ?_ ?_
          rotate_left
          · intro w'
            go_simp
            with_reducible rfl
          rotate_left
          · simp only [Act.put, List.setIfInBounds_toArray, List.set_cons_zero, List.set_cons_succ, i64_w, i32_w]
            rfl
          refine done_ (by kernel_rfl) ?_
          replace HS : Aside0 (Sep FF w [b3 g308 A311 l310.length n313 t470.2.1, r1 A311 l310.length n313 t470.2.2, b2 g299 A302 l301.length n304 t467.2.1, r1 A302 l301.length n304 t467.2.2] w472) := ⟨HS.out.sub (.cons_cons _ (.cons_cons _ (.cons_cons _ (.cons_cons _ (.cons _ .slnil)))))⟩
          go_wp2_with fail
          go_ret
          rw [← some_eq H]
          exact ⟨(by first | rfl | (simp [IntKind.wrap_u32]; done)), (((((HS.out).front 1 (by simp)).front 1 (by simp)).front 3 (by simp)).front 3 (by simp)).keep (l := [b2 g299 A302 l301.length n304 t467.2.1, r1 A302 l301.length n304 t467.2.2, b3 g308 A311 l310.length n313 t470.2.1, r1 A311 l310.length n313 t470.2.2]) (rest := [])⟩
        · replace H := if_no c474 H
          have c474b0 : t470.1 = false := by simpa using c474
          have c474b1 : (!t470.1) = true := by rw [c474b0]; rfl
          clear c474
          refine pure_ (i := 12) (N := some 36) (v := ?_) (a' := ?_) #[true, true, true, true, true, true, true, true, true, true, true, true, true, false] rfl rfl (by kernel_rfl) (fun _ _ _ h => h) (Or.inl ⟨by rfl, ?_⟩) ?_ ?_
          rotate_left
          · intro w'
            go_simp
            with_reducible rfl
          rotate_left
          · simp only [Act.put, List.setIfInBounds_toArray, List.set_cons_zero, List.set_cons_succ, i64_w, i32_w]
            rfl
          refine pure_ (i := 13) (N := some 6) (v := ?_) (a' := ?_) #[true, true, true, true, true, true, true, true, true, true, true, true, true, true] rfl rfl (by kernel_rfl) (fun _ _ _ h => h) (Or.inl ⟨by rfl, ?_⟩) ?_ ?_
          rotate_left
          · intro w'
            go_simp
            with_reducible rfl
          rotate_left
          · simp only [Act.put, List.setIfInBounds_toArray, List.set_cons_zero, List.set_cons_succ, i64_w, i32_w]
            rfl
          refine done_ (by kernel_rfl) ?_
          replace HS : Aside0 (Sep FF w [b3 g308 A311 l310.length n313 t470.2.1, r1 A311 l310.length n313 t470.2.2, b2 g299 A302 l301.length n304 t467.2.1, r1 A302 l301.length n304 t467.2.2] w472) := ⟨HS.out.sub (.cons_cons _ (.cons_cons _ (.cons_cons _ (.cons_cons _ (.cons _ .slnil)))))⟩
          go_wp2_with fail
          go_ret
          rw [← some_eq H]
          exact ⟨(by first | rfl | (simp [IntKind.wrap_u32]; done)), (((((HS.out).front 1 (by simp)).front 1 (by simp)).front 3 (by simp)).front 3 (by simp)).keep (l := [b2 g299 A302 l301.length n304 t467.2.1, r1 A302 l301.length n304 t467.2.2, b3 g308 A311 l310.length n313 t470.2.1, r1 A311 l310.length n313 t470.2.2]) (rest := [])⟩
      · replace H := if_no c473 H
        have c473b0 : t467.1 = false := by simpa using c473
        have c473b1 : (!t467.1) = true := by rw [c473b0]; rfl
        clear c473
        by_cases c475 : t470.1 = true
        · replace H := if_yes c475 H
          have c475b0 : t470.1 = true := c475
          have c475b1 : (!t470.1) = false := by rw [c475b0]; rfl
          clear c475
          refine pure_ (i := 12) (N := some 36) (v := ?_) (a' := ?_) #[true, true, true, true, true, true, true, true, true, true, true, true, true, false] rfl rfl (by kernel_rfl) (fun _ _ _ h => h) (Or.inl ⟨by rfl, ?_⟩) ?_ ?_
          rotate_left
          · intro w'
            go_simp
            with_reducible rfl
          rotate_left
          · simp only [Act.put, List.setIfInBounds_toArray, List.set_cons_zero, List.set_cons_succ, i64_w, i32_w]
            rfl
          refine pure_ (i := 13) (N := some 6) (v := ?_) (a' := ?_) #[true, true, true, true, true, true, true, true, true, true, true, true, true, true] rfl rfl (by kernel_rfl) (fun _ _ _ h => h) (Or.inl ⟨by rfl, ?_⟩) ?_ ?_
          rotate_left
          · intro w'
            go_simp
            with_reducible rfl
          rotate_left
          · simp only [Act.put, List.setIfInBounds_toArray, List.set_cons_zero, List.set_cons_succ, i64_w, i32_w]
            rfl
          refine done_ (by kernel_rfl) ?_
          replace HS : Aside0 (Sep FF w [b3 g308 A311 l310.length n313 t470.2.1, r1 A311 l310.length n313 t470.2.2, b2 g299 A302 l301.length n304 t467.2.1, r1 A302 l301.length n304 t467.2.2] w472) := ⟨HS.out.sub (.cons_cons _ (.cons_cons _ (.cons_cons _ (.cons_cons _ (.cons _ .slnil)))))⟩
          go_wp2_with fail
          go_ret
          rw [← some_eq H]
          exact ⟨(by first | rfl | (simp [IntKind.wrap_u32]; done)), (((((HS.out).front 1 (by simp)).front 1 (by simp)).front 3 (by simp)).front 3 (by simp)).keep (l := [b2 g299 A302 l301.length n304 t467.2.1, r1 A302 l301.length n304 t467.2.2, b3 g308 A311 l310.length n313 t470.2.1, r1 A311 l310.length n313 t470.2.2]) (rest := [])⟩
        · replace H := if_no c475 H
          have c475b0 : t470.1 = false := by simpa using c475
          have c475b1 : (!t470.1) = true := by rw [c475b0]; rfl
          clear c475
          refine pure_ (i := 12) (N := some 36) (v := ?_) (a' := ?_) #[true, true, true, true, true, true, true, true, true, true, true, true, true, false] rfl rfl (by kernel_rfl) (fun _ _ _ h => h) (Or.inl ⟨by rfl, ?_⟩) ?_ ?_
          rotate_left
          · intro w'
            go_simp
            with_reducible rfl
          rotate_left
          · simp only [Act.put, List.setIfInBounds_toArray, List.set_cons_zero, List.set_cons_succ, i64_w, i32_w]
            rfl
          refine pure_ (i := 13) (N := some 6) (v := ?_) (a' := ?_) #[true, true, true, true, true, true, true, true, true, true, true, true, true, true] rfl rfl (by kernel_rfl) (fun _ _ _ h => h) (Or.inl ⟨by rfl, ?_⟩) ?_ ?_
          rotate_left
          · intro w'
            go_simp
            with_reducible rfl
          rotate_left
          · simp only [Act.put, List.setIfInBounds_toArray, List.set_cons_zero, List.set_cons_succ, i64_w, i32_w]
            rfl
          refine done_ (by kernel_rfl) ?_
          replace HS : Aside0 (Sep FF w [b3 g308 A311 l310.length n313 t470.2.1, r1 A311 l310.length n313 t470.2.2, b2 g299 A302 l301.length n304 t467.2.1, r1 A302 l301.length n304 t467.2.2] w472) := ⟨HS.out.sub (.cons_cons _ (.cons_cons _ (.cons_cons _ (.cons_cons _ (.cons _ .slnil)))))⟩
          go_wp2_with fail
          go_ret
          rw [← some_eq H]
          exact ⟨(by first | rfl | (simp [IntKind.wrap_u32]; done)), (((((HS.out).front 1 (by simp)).front 1 (by simp)).front 3 (by simp)).front 3 (by simp)).keep (l := [b2 g299 A302 l301.length n304 t467.2.1, r1 A302 l301.length n304 t467.2.2, b3 g308 A311 l310.length n313 t470.2.1, r1 A311 l310.length n313 t470.2.2]) (rest := [])⟩
    · replace H := if_no c464 H
      have c464b0 : (a316 == 1) = false := beq_eq_false_iff_ne.mpr c464
      have c464b1 : (a316 != 1) = true := bne_iff_ne.mpr c464
      clear c464
      by_cases c476 : a316 = 2
      · replace H := if_yes c476 H
        have c476b0 : (a316 == 2) = true := beq_iff_eq.mpr c476
        have c476b1 : (a316 != 2) = false := bne_eq_false_iff_eq.mpr c476
        clear c476
        go_wp2_with (first | ((with_reducible refine gate_dst (N := 5) rfl ?_); refine box_on ?hg (N := 5) ?hd (cs := #[.int .u8 a316, .int .i64 a317, .int .u32 a318, .slice A320 l319.length n321]) (t := 41) ?hr ?_; (case hd => rfl); (case hg => rfl); (case hr => first | (go_simp; done) | (go_simp; rfl)); intro g451 hg w452 hbox hb; replace HS : Aside0 (Sep FF w [b2 g299 A302 l301.length n304 a306, r1 A302 l301.length n304 l301, b3 g308 A311 l310.length n313 a315, r1 A311 l310.length n313 l310, b6 g451 a316 a317 a318 A320 l319.length n321] w452) := ⟨HS.out.box hg hbox hb⟩; clear hg hbox hb; have hc454 : w452.cell? ⟨g451, 0, none⟩ = some (.int .u8 a316) := blk_cellv (HS.out.at4) 0 rfl; have hc477 : w452.cell? ⟨g451, 1, none⟩ = some (.int .i64 a317) := blk_cellv (HS.out.at4) 1 rfl))
        clear hc454 hc477
        replace HS : Aside0 (Sep FF w [r1 A311 l310.length n313 l310, b2 g299 A302 l301.length n304 a306, r1 A302 l301.length n304 l301, b3 g308 A311 l310.length n313 a315, b6 g451 a316 a317 a318 A320 l319.length n321] w452) := ⟨HS.out.front 3 (by simp)⟩
        replace HS : Aside0 (Sep FF w [b3 g308 A311 l310.length n313 a315, r1 A311 l310.length n313 l310, b2 g299 A302 l301.length n304 a306, r1 A302 l301.length n304 l301, b6 g451 a316 a317 a318 A320 l319.length n321] w452) := ⟨HS.out.front 3 (by simp)⟩
        obtain ⟨t478, HA479, H⟩ := bind_some H
        refine (quitrentref04_Store_Has.calls l310 a315 a317 g308 A311 l310.length n313 t478 _ ⟨HS.out.begin⟩ HA479).mono ?_
        rintro e_ w480 ⟨rfl, hS⟩
        replace HS : Aside0 (Sep FF w [b3 g308 A311 l310.length n313 a315, r1 A311 l310.length n313 l310, b2 g299 A302 l301.length n304 a306, r1 A302 l301.length n304 l301, b6 g451 a316 a317 a318 A320 l319.length n321] w480) := ⟨HS.out.call hS⟩
        clear hS
        by_cases c481 : t478 = true
        · replace H := if_yes c481 H
          have c481b0 : t478 = true := c481
          have c481b1 : (!t478) = false := by rw [c481b0]; rfl
          clear c481
          go_wp2_with fail
          refine start_ (n := 9) (S := (fun w' => w'.cell? ⟨g308, 0, none⟩ = some (.slice A311 l310.length n313) ∧ w'.cell? ⟨g451, 1, none⟩ = some (.int .i64 a317) ∧ Kd.C (Kd.int .u32) w' A311 l310.length l310)) (ds := []) #[false, false, false, false, false, false, false, false, false] (by kernel_rfl) rfl rfl (⟨blk_cellv ((HS.out.drew).at0) 0 rfl, blk_cellv ((HS.out.drew).at4) 1 rfl, row_Ci ((HS.out.drew).at1)⟩) (fun hHeld => ?_)
          have HS_ := Aside0.mk HS.out.drew
          clear HS
          generalize World.drew _ = w483 at HS_ hHeld ⊢
          have HS := HS_
          clear HS_
          refine pure_ (i := 0) (N := some 43) (v := ?_) (a' := ?_) #[true, false, false, false, false, false, false, false, false] rfl rfl (by kernel_rfl) (fun _ _ _ h => h) (Or.inl ⟨by rfl, ?_⟩) ?_ ?_
          rotate_left
          · intro w'
            go_simp
            with_reducible rfl
          rotate_left
          · simp only [Act.put, List.setIfInBounds_toArray, List.set_cons_zero, List.set_cons_succ, i64_w, i32_w]
            rfl
          refine pure_ (i := 1) (N := some 44) (v := ?_) (a' := ?_) #[true, true, false, false, false, false, false, false, false] rfl rfl (by kernel_rfl) (fun _ _ _ h => h) (Or.inl ⟨by rfl, ?_⟩) ?_ ?_
          rotate_left
          · intro w'
            go_simp
            with_reducible rfl
          rotate_left
          · simp only [Act.put, List.setIfInBounds_toArray, List.set_cons_zero, List.set_cons_succ, i64_w, i32_w]
            rfl
          refine pure_ (i := 2) (N := some 45) (v := ?_) (a' := ?_) #[true, true, true, false, false, false, false, false, false] rfl rfl (by kernel_rfl) (fun _ _ _ h => h) (Or.inl ⟨by rfl, ?_⟩) ?_ ?_
          rotate_left
          · intro w'
            go_simp
            with_reducible rfl
          rotate_left
          · simp only [Act.put, List.setIfInBounds_toArray, List.set_cons_zero, List.set_cons_succ, i64_w, i32_w]
            rfl
          refine pure_ (i := 4) (N := some 47) (v := ?_) (a' := ?_) #[true, true, true, false, true, false, false, false, false] rfl rfl (by kernel_rfl) (fun _ _ _ h => h) (Or.inl ⟨by rfl, ?_⟩) ?_ ?_
          rotate_left
          · intro w'
            go_simp
            with_reducible rfl
          rotate_left
          · simp only [Act.put, List.setIfInBounds_toArray, List.set_cons_zero, List.set_cons_succ, i64_w, i32_w]
            rfl
          refine take_ (i := 3) (N := some 46) (v := ?_) (a' := ?_) #[true, true, true, true, true, false, false, false, false] rfl rfl (by kernel_rfl) (fun _ _ _ h => h) (Or.inl ⟨by rfl, ?_⟩) hHeld ?_ ?_
          rotate_left
          · rintro w' hS'
            obtain ⟨s0, s1, s2⟩ := hS'
            go_simp
            with_reducible rfl
          rotate_left
          · simp only [Act.put, List.setIfInBounds_toArray, List.set_cons_zero, List.set_cons_succ, i64_w, i32_w]
            rfl
          refine take_ (i := 5) (N := some 48) (v := ?_) (a' := ?_) #[true, true, true, true, true, true, false, false, false] rfl rfl (by kernel_rfl) (fun _ _ _ h => h) (Or.inl ⟨by rfl, ?_⟩) hHeld ?_ ?_
          rotate_left
          · rintro w' hS'
            obtain ⟨s0, s1, s2⟩ := hS'
            go_simp
            with_reducible rfl
          rotate_left
          · simp only [Act.put, List.setIfInBounds_toArray, List.set_cons_zero, List.set_cons_succ, i64_w, i32_w]
            rfl
          by_cases c484 : 0 ≤ a317
          · replace H := if_yes c484 H
            have c484b0 : decide (0 ≤ a317) = true := decide_eq_true c484
            have c484p : (0 ≤ a317) = True := eq_true c484
            clear c484
            by_cases c485 : a317 < (l310.length : Int)
            · replace H := if_yes c485 H
              have c485b0 : decide (a317 < (l310.length : Int)) = true := decide_eq_true c485
              have c485p : (a317 < (l310.length : Int)) = True := eq_true c485
              clear c485
              obtain ⟨ad486, ea, _⟩ := Kd.at_int (row_Ci (HS.out.at1)) a317 (of_decide_eq_true c484b0) (of_decide_eq_true c485b0)
              cases ea
              refine pure_ (i := 6) (N := some 49) (v := ?_) (a' := ?_) #[true, true, true, true, true, true, true, false, false] rfl rfl (by kernel_rfl) (fun _ _ _ h => h) (Or.inl ⟨by rfl, ?_⟩) ?_ ?_
              rotate_left
              · intro w'
                go_simp
                with_reducible rfl
              rotate_left
              · simp only [Act.put, List.setIfInBounds_toArray, List.set_cons_zero, List.set_cons_succ, i64_w, i32_w]
                rfl
              refine take_ (i := 7) (N := some 50) (v := ?_) (a' := ?_) #[true, true, true, true, true, true, true, true, false] rfl rfl (by kernel_rfl) (fun _ _ _ h => h) (Or.inl ⟨by rfl, ?_⟩) hHeld ?_ ?_
              rotate_left
              · rintro w' hS'
                obtain ⟨s0, s1, s2⟩ := hS'
                have hx := C_at_int s2 a317 (of_decide_eq_true c484b0) (of_decide_eq_true c485b0)
                go_simp
                with_reducible rfl
              rotate_left
              · simp only [Act.put, List.setIfInBounds_toArray, List.set_cons_zero, List.set_cons_succ, i64_w, i32_w]
                rfl
              refine pure_ (i := 8) (N := some 7) (v := ?_) (a' := ?_) #[true, true, true, true, true, true, true, true, true] rfl rfl (by kernel_rfl) (fun _ _ _ h => h) (Or.inl ⟨by rfl, ?_⟩) ?_ ?_
              rotate_left
              · intro w'
                go_simp
                with_reducible rfl
              rotate_left
              · simp only [Act.put, List.setIfInBounds_toArray, List.set_cons_zero, List.set_cons_succ, i64_w, i32_w]
                rfl
              refine done_ (by kernel_rfl) ?_
              have hc487 : w483.cell? ⟨g451, 1, none⟩ = some (.int .i64 a317) := blk_cellv (HS.out.at4) 1 rfl
              go_wp2_with fail
              clear hc487
              replace HS : Aside0 (Sep FF w [r1 A302 l301.length n304 l301, b3 g308 (some ad486) l310.length n313 a315, r1 (some ad486) l310.length n313 l310, b2 g299 A302 l301.length n304 a306, b6 g451 a316 a317 a318 A320 l319.length n321] w483) := ⟨HS.out.front 3 (by simp)⟩
              replace HS : Aside0 (Sep FF w [b2 g299 A302 l301.length n304 a306, r1 A302 l301.length n304 l301, b3 g308 (some ad486) l310.length n313 a315, r1 (some ad486) l310.length n313 l310, b6 g451 a316 a317 a318 A320 l319.length n321] w483) := ⟨HS.out.front 3 (by simp)⟩
              obtain ⟨t508, HA509, H⟩ := bind_some H
              refine (store_Store_Peek.calls l301 a306 a317 g299 A302 l301.length n304 t508 _ ⟨HS.out.begin⟩ HA509).mono ?_
              rintro e_ w510 ⟨rfl, hS⟩
              replace HS : Aside0 (Sep FF w [b2 g299 A302 l301.length n304 a306, r1 A302 l301.length n304 l301, b3 g308 (some ad486) l310.length n313 a315, r1 (some ad486) l310.length n313 l310, b6 g451 a316 a317 a318 A320 l319.length n321] w510) := ⟨HS.out.call hS⟩
              clear hS
              replace HS : Aside0 (Sep FF w [b2 g299 A302 l301.length n304 a306, r1 A302 l301.length n304 l301, b3 g308 (some ad486) l310.length n313 a315, r1 (some ad486) l310.length n313 l310] w510) := ⟨HS.out.sub (.cons_cons _ (.cons_cons _ (.cons_cons _ (.cons_cons _ (.cons _ .slnil)))))⟩
              go_wp2_with fail
              go_ret
              rw [← some_eq H]
              exact ⟨(by first | rfl | (simp [IntKind.wrap_u32]; done)), HS.out⟩
            · replace H := if_no c485 H
              have c485b0 : decide (a317 < (l310.length : Int)) = false := decide_eq_false c485
              clear c485
              exact (none_no H).elim
          · replace H := if_no c484 H
            have c484b0 : decide (0 ≤ a317) = false := decide_eq_false c484
            clear c484
            exact (none_no H).elim
        · replace H := if_no c481 H
          have c481b0 : t478 = false := by simpa using c481
          have c481b1 : (!t478) = true := by rw [c481b0]; rfl
          clear c481
          have hc511 : w480.cell? ⟨g451, 1, none⟩ = some (.int .i64 a317) := blk_cellv (HS.out.at4) 1 rfl
          go_wp2_with fail
          clear hc511
          replace HS : Aside0 (Sep FF w [r1 A302 l301.length n304 l301, b3 g308 A311 l310.length n313 a315, r1 A311 l310.length n313 l310, b2 g299 A302 l301.length n304 a306, b6 g451 a316 a317 a318 A320 l319.length n321] w480) := ⟨HS.out.front 3 (by simp)⟩
          replace HS : Aside0 (Sep FF w [b2 g299 A302 l301.length n304 a306, r1 A302 l301.length n304 l301, b3 g308 A311 l310.length n313 a315, r1 A311 l310.length n313 l310, b6 g451 a316 a317 a318 A320 l319.length n321] w480) := ⟨HS.out.front 3 (by simp)⟩
          obtain ⟨t508, HA512, H⟩ := bind_some H
          refine (store_Store_Peek.calls l301 a306 a317 g299 A302 l301.length n304 t508 _ ⟨HS.out.begin⟩ HA512).mono ?_
          rintro e_ w513 ⟨rfl, hS⟩
          replace HS : Aside0 (Sep FF w [b2 g299 A302 l301.length n304 a306, r1 A302 l301.length n304 l301, b3 g308 A311 l310.length n313 a315, r1 A311 l310.length n313 l310, b6 g451 a316 a317 a318 A320 l319.length n321] w513) := ⟨HS.out.call hS⟩
          clear hS
          replace HS : Aside0 (Sep FF w [b2 g299 A302 l301.length n304 a306, r1 A302 l301.length n304 l301, b3 g308 A311 l310.length n313 a315, r1 A311 l310.length n313 l310] w513) := ⟨HS.out.sub (.cons_cons _ (.cons_cons _ (.cons_cons _ (.cons_cons _ (.cons _ .slnil)))))⟩
          go_wp2_with fail
          go_ret
          rw [← some_eq H]
          exact ⟨(by first | rfl | (simp [IntKind.wrap_u32]; done)), HS.out⟩
      · replace H := if_no c476 H
        have c476b0 : (a316 == 2) = false := beq_eq_false_iff_ne.mpr c476
        have c476b1 : (a316 != 2) = true := bne_iff_ne.mpr c476
        clear c476
        by_cases c514 : a316 = 3
        · replace H := if_yes c514 H
          have c514b0 : (a316 == 3) = true := beq_iff_eq.mpr c514
          have c514b1 : (a316 != 3) = false := bne_eq_false_iff_eq.mpr c514
          clear c514
          go_wp2_with (first | ((with_reducible refine gate_dst (N := 5) rfl ?_); refine box_on ?hg (N := 5) ?hd (cs := #[.int .u8 a316, .int .i64 a317, .int .u32 a318, .slice A320 l319.length n321]) (t := 41) ?hr ?_; (case hd => rfl); (case hg => rfl); (case hr => first | (go_simp; done) | (go_simp; rfl)); intro g451 hg w452 hbox hb; replace HS : Aside0 (Sep FF w [b2 g299 A302 l301.length n304 a306, r1 A302 l301.length n304 l301, b3 g308 A311 l310.length n313 a315, r1 A311 l310.length n313 l310, b6 g451 a316 a317 a318 A320 l319.length n321] w452) := ⟨HS.out.box hg hbox hb⟩; clear hg hbox hb; have hc454 : w452.cell? ⟨g451, 0, none⟩ = some (.int .u8 a316) := blk_cellv (HS.out.at4) 0 rfl))
          clear hc454
          refine start_ (n := 8) (S := (fun w' => w'.cell? ⟨g308, 0, none⟩ = some (.slice A311 l310.length n313))) (ds := []) #[false, false, false, false, false, false, false, false] (by kernel_rfl) rfl rfl (blk_cellv ((HS.out.drew).at2) 0 rfl) (fun hHeld => ?_)
          have HS_ := Aside0.mk HS.out.drew
          clear HS
          generalize World.drew _ = w516 at HS_ hHeld ⊢
          have HS := HS_
          clear HS_
          refine pure_ (i := 0) (N := some 59) (v := ?_) (a' := ?_) #[true, false, false, false, false, false, false, false] rfl rfl (by kernel_rfl) (fun _ _ _ h => h) (Or.inl ⟨by rfl, ?_⟩) ?_ ?_
          rotate_left
          · intro w'
            go_simp
            with_reducible rfl
          rotate_left
          · simp only [Act.put, List.setIfInBounds_toArray, List.set_cons_zero, List.set_cons_succ, i64_w, i32_w]
            rfl
          refine pure_ (i := 2) (N := some 61) (v := ?_) (a' := ?_) #[true, false, true, false, false, false, false, false] rfl rfl (by kernel_rfl) (fun _ _ _ h => h) (Or.inl ⟨by rfl, ?_⟩) ?_ ?_
          rotate_left
          · intro w'
            go_simp
            with_reducible rfl
          rotate_left
          · simp only [Act.put, List.setIfInBounds_toArray, List.set_cons_zero, List.set_cons_succ, i64_w, i32_w]
            rfl
          refine pure_ (i := 3) (N := some 62) (v := ?_) (a' := ?_) #[true, false, true, true, false, false, false, false] rfl rfl (by kernel_rfl) (fun _ _ _ h => h) (Or.inl ⟨by rfl, ?_⟩) ?_ ?_
          rotate_left
          · intro w'
            go_simp
            with_reducible rfl
          rotate_left
          · simp only [Act.put, List.setIfInBounds_toArray, List.set_cons_zero, List.set_cons_succ, i64_w, i32_w]
            rfl
          refine pure_ (i := 4) (N := some 63) (v := ?_) (a' := ?_) #[true, false, true, true, true, false, false, false] rfl rfl (by kernel_rfl) (fun _ _ _ h => h) (Or.inl ⟨by rfl, ?_⟩) ?_ ?_
          rotate_left
          · intro w'
            go_simp
            with_reducible rfl
          rotate_left
          · simp only [Act.put, List.setIfInBounds_toArray, List.set_cons_zero, List.set_cons_succ, i64_w, i32_w]
            rfl
          refine take_ (i := 5) (N := some 64) (v := ?_) (a' := ?_) #[true, false, true, true, true, true, false, false] rfl rfl (by kernel_rfl) (fun _ _ _ h => h) (Or.inl ⟨by rfl, ?_⟩) hHeld ?_ ?_
          rotate_left
          · rintro w' hS'
            have s0 := hS'
            go_simp
            with_reducible rfl
          rotate_left
          · simp only [Act.put, List.setIfInBounds_toArray, List.set_cons_zero, List.set_cons_succ, i64_w, i32_w]
            rfl
          refine one_ (i := 1) (N := some 60) #[true, true, true, true, true, true, false, false] rfl rfl (by kernel_rfl) (by decide) (fun K hK => ?_)
          obtain ⟨t554, HA555, H⟩ := bind_some H
          refine goes_ Try.func24 (by kernel_rfl) rfl #[.pointer (some ⟨g299, 0, none⟩)] (by rfl) rfl rfl (by (try simp only [List.map_toArray, List.map_cons, List.map_nil]); first | done | rfl) ?_
          refine (store_Store_Words.calls l301 a306 g299 A302 l301.length n304 t554 _ ⟨HS.out.begin⟩ HA555).mono ?_
          rintro e_ w556 ⟨A558, m559, n560, rfl, hS⟩
          replace HS : Aside0 (Sep FF w [b2 g299 A302 l301.length n304 a306, r1 A302 l301.length n304 l301, r1 A558 m559 n560 t554, b3 g308 A311 l310.length n313 a315, r1 A311 l310.length n313 l310, b6 g451 a316 a317 a318 A320 l319.length n321] w556) := ⟨HS.out.call hS⟩
          clear hS
          obtain rfl := (row_len (HS.out.at2)).symm
          refine ⟨_, rfl, ?_⟩
          refine hK.out _ _ (blk_cellv (HS.out.at3) 0 rfl) (fun hHeld => ?_)
          clear hK K
          refine norm_ (a' := ?_) ?_ ?_
          rotate_left
          · show Act.put _ (some 60) _ = _
            simp only [Act.put, List.setIfInBounds_toArray, List.set_cons_zero, List.set_cons_succ, i64_w, i32_w]
            rfl
          refine one_ (i := 6) (N := some 65) #[true, true, true, true, true, true, true, false] rfl rfl (by kernel_rfl) (by decide) (fun K hK => ?_)
          obtain ⟨t601, HA602, H⟩ := bind_some H
          refine goes_ Try.func23 (by kernel_rfl) rfl #[.slice A558 t554.length n560, .slice A311 l310.length n313] (by rfl) rfl rfl (by (try simp only [List.map_toArray, List.map_cons, List.map_nil]); first | done | rfl) ?_
          refine (quitrentref01_Same.calls _ t554 l310 A558 n560 A311 n313 t601 _ ⟨Rd.ownI (l := []) HS.out 2 rfl⟩ ⟨Rd.ownI (l := []) HS.out 4 rfl⟩ ⟨Sep.start _⟩ HA602).mono ?_
          rintro e_ w603 ⟨rfl, hS⟩
          replace HS : Aside0 (Sep FF w [b2 g299 A302 l301.length n304 a306, r1 A302 l301.length n304 l301, r1 A558 t554.length n560 t554, b3 g308 A311 l310.length n313 a315, r1 A311 l310.length n313 l310, b6 g451 a316 a317 a318 A320 l319.length n321] w603) := ⟨HS.out.call hS⟩
          clear hS
          refine ⟨_, rfl, ?_⟩
          refine hK.out _ _ (blk_cellv (HS.out.at3) 0 rfl) (fun hHeld => ?_)
          clear hK K
          refine norm_ (a' := ?_) ?_ ?_
          rotate_left
          · show Act.put _ (some 65) _ = _
            simp only [Act.put, List.setIfInBounds_toArray, List.set_cons_zero, List.set_cons_succ, i64_w, i32_w]
            rfl
          refine pure_ (i := 7) (N := some 6) (v := ?_) (a' := ?_) #[true, true, true, true, true, true, true, true] rfl rfl (by kernel_rfl) (fun _ _ _ h => h) (Or.inl ⟨by rfl, ?_⟩) ?_ ?_
          rotate_left
          · intro w'
            go_simp
            with_reducible rfl
          rotate_left
          · simp only [Act.put, List.setIfInBounds_toArray, List.set_cons_zero, List.set_cons_succ, i64_w, i32_w]
            rfl
          refine done_ (by kernel_rfl) ?_
          replace HS : Aside0 (Sep FF w [b2 g299 A302 l301.length n304 a306, r1 A302 l301.length n304 l301, b3 g308 A311 l310.length n313 a315, r1 A311 l310.length n313 l310] w603) := ⟨HS.out.sub (.cons_cons _ (.cons_cons _ (.cons _ (.cons_cons _ (.cons_cons _ (.cons _ .slnil))))))⟩
          go_wp2_with fail
          go_ret
          rw [← some_eq H]
          exact ⟨(by first | rfl | (simp [IntKind.wrap_u32]; done)), HS.out⟩
        · replace H := if_no c514 H
          have c514b0 : (a316 == 3) = false := beq_eq_false_iff_ne.mpr c514
          have c514b1 : (a316 != 3) = true := bne_iff_ne.mpr c514
          clear c514
          by_cases c604 : a316 = 4
          · replace H := if_yes c604 H
            have c604b0 : (a316 == 4) = true := beq_iff_eq.mpr c604
            have c604b1 : (a316 != 4) = false := bne_eq_false_iff_eq.mpr c604
            clear c604
            go_wp2_with (first | ((with_reducible refine gate_dst (N := 5) rfl ?_); refine box_on ?hg (N := 5) ?hd (cs := #[.int .u8 a316, .int .i64 a317, .int .u32 a318, .slice A320 l319.length n321]) (t := 41) ?hr ?_; (case hd => rfl); (case hg => rfl); (case hr => first | (go_simp; done) | (go_simp; rfl)); intro g451 hg w452 hbox hb; replace HS : Aside0 (Sep FF w [b2 g299 A302 l301.length n304 a306, r1 A302 l301.length n304 l301, b3 g308 A311 l310.length n313 a315, r1 A311 l310.length n313 l310, b6 g451 a316 a317 a318 A320 l319.length n321] w452) := ⟨HS.out.box hg hbox hb⟩; clear hg hbox hb; have hc454 : w452.cell? ⟨g451, 0, none⟩ = some (.int .u8 a316) := blk_cellv (HS.out.at4) 0 rfl))
            clear hc454
            refine start_ (n := 10) (S := (fun w' => w'.cell? ⟨g451, 3, none⟩ = some (.slice A320 l319.length n321) ∧ w'.cell? ⟨g308, 0, none⟩ = some (.slice A311 l310.length n313))) (ds := []) #[false, false, false, false, false, false, false, false, false, false] (by kernel_rfl) rfl rfl (⟨blk_cellv ((HS.out.drew).at4) 3 rfl, blk_cellv ((HS.out.drew).at2) 0 rfl⟩) (fun hHeld => ?_)
            have HS_ := Aside0.mk HS.out.drew
            clear HS
            generalize World.drew _ = w606 at HS_ hHeld ⊢
            have HS := HS_
            clear HS_
            refine pure_ (i := 0) (N := some 68) (v := ?_) (a' := ?_) #[true, false, false, false, false, false, false, false, false, false] rfl rfl (by kernel_rfl) (fun _ _ _ h => h) (Or.inl ⟨by rfl, ?_⟩) ?_ ?_
            rotate_left
            · intro w'
              go_simp
              with_reducible rfl
            rotate_left
            · simp only [Act.put, List.setIfInBounds_toArray, List.set_cons_zero, List.set_cons_succ, i64_w, i32_w]
              rfl
            refine pure_ (i := 3) (N := some 71) (v := ?_) (a' := ?_) #[true, false, false, true, false, false, false, false, false, false] rfl rfl (by kernel_rfl) (fun _ _ _ h => h) (Or.inl ⟨by rfl, ?_⟩) ?_ ?_
            rotate_left
            · intro w'
              go_simp
              with_reducible rfl
            rotate_left
            · simp only [Act.put, List.setIfInBounds_toArray, List.set_cons_zero, List.set_cons_succ, i64_w, i32_w]
              rfl
            refine pure_ (i := 4) (N := some 72) (v := ?_) (a' := ?_) #[true, false, false, true, true, false, false, false, false, false] rfl rfl (by kernel_rfl) (fun _ _ _ h => h) (Or.inl ⟨by rfl, ?_⟩) ?_ ?_
            rotate_left
            · intro w'
              go_simp
              with_reducible rfl
            rotate_left
            · simp only [Act.put, List.setIfInBounds_toArray, List.set_cons_zero, List.set_cons_succ, i64_w, i32_w]
              rfl
            refine pure_ (i := 5) (N := some 73) (v := ?_) (a' := ?_) #[true, false, false, true, true, true, false, false, false, false] rfl rfl (by kernel_rfl) (fun _ _ _ h => h) (Or.inl ⟨by rfl, ?_⟩) ?_ ?_
            rotate_left
            · intro w'
              go_simp
              with_reducible rfl
            rotate_left
            · simp only [Act.put, List.setIfInBounds_toArray, List.set_cons_zero, List.set_cons_succ, i64_w, i32_w]
              rfl
            refine take_ (i := 1) (N := some 69) (v := ?_) (a' := ?_) #[true, true, false, true, true, true, false, false, false, false] rfl rfl (by kernel_rfl) (fun _ _ _ h => h) (Or.inl ⟨by rfl, ?_⟩) hHeld ?_ ?_
            rotate_left
            · rintro w' hS'
              obtain ⟨s0, s1⟩ := hS'
              go_simp
              with_reducible rfl
            rotate_left
            · simp only [Act.put, List.setIfInBounds_toArray, List.set_cons_zero, List.set_cons_succ, i64_w, i32_w]
              rfl
            refine pure_ (i := 2) (N := some 70) (v := ?_) (a' := ?_) #[true, true, true, true, true, true, false, false, false, false] rfl rfl (by kernel_rfl) (fun _ _ _ h => h) (Or.inl ⟨by rfl, ?_⟩) ?_ ?_
            rotate_left
            · intro w'
              go_simp
              with_reducible rfl
            rotate_left
            · simp only [Act.put, List.setIfInBounds_toArray, List.set_cons_zero, List.set_cons_succ, i64_w, i32_w]
              rfl
            refine take_ (i := 6) (N := some 74) (v := ?_) (a' := ?_) #[true, true, true, true, true, true, true, false, false, false] rfl rfl (by kernel_rfl) (fun _ _ _ h => h) (Or.inl ⟨by rfl, ?_⟩) hHeld ?_ ?_
            rotate_left
            · rintro w' hS'
              obtain ⟨s0, s1⟩ := hS'
              go_simp
              with_reducible rfl
            rotate_left
            · simp only [Act.put, List.setIfInBounds_toArray, List.set_cons_zero, List.set_cons_succ, i64_w, i32_w]
              rfl
            refine pure_ (i := 7) (N := some 75) (v := ?_) (a' := ?_) #[true, true, true, true, true, true, true, true, false, false] rfl rfl (by kernel_rfl) (fun _ _ _ h => h) (Or.inl ⟨by rfl, ?_⟩) ?_ ?_
            rotate_left
            · intro w'
              go_simp
              with_reducible rfl
            rotate_left
            · simp only [Act.put, List.setIfInBounds_toArray, List.set_cons_zero, List.set_cons_succ, i64_w, i32_w]
              rfl
            refine pure_ (i := 8) (N := some 76) (v := ?_) (a' := ?_) #[true, true, true, true, true, true, true, true, true, false] rfl rfl (by kernel_rfl) (fun _ _ _ h => h) (Or.inl ⟨by rfl, ?_⟩) ?_ ?_
            rotate_left
            · intro w'
              go_simp
              with_reducible rfl
            rotate_left
            · simp only [Act.put, List.setIfInBounds_toArray, List.set_cons_zero, List.set_cons_succ, i64_w, i32_w]
              rfl
            refine pure_ (i := 9) (N := some 8) (v := ?_) (a' := ?_) #[true, true, true, true, true, true, true, true, true, true] rfl rfl (by kernel_rfl) (fun _ _ _ h => h) (Or.inl ⟨by rfl, ?_⟩) ?_ ?_
            rotate_left
            · intro w'
              go_simp
              with_reducible rfl
            rotate_left
            · simp only [Act.put, List.setIfInBounds_toArray, List.set_cons_zero, List.set_cons_succ, i64_w, i32_w]
              rfl
            refine done_ (by kernel_rfl) ?_
            by_cases c607 : (l319.length : Int) = (l310.length : Int)
            · replace H := if_yes c607 H
              have c607b0 : ((l319.length : Int) == (l310.length : Int)) = true := beq_iff_eq.mpr c607
              have c607b1 : ((l319.length : Int) != (l310.length : Int)) = false := bne_eq_false_iff_eq.mpr c607
              clear c607
              go_wp2_with fail
              refine start_ (n := 7) (S := (fun w' => w'.cell? ⟨g308, 0, none⟩ = some (.slice A311 l310.length n313) ∧ w'.cell? ⟨g451, 3, none⟩ = some (.slice A320 l319.length n321))) (ds := []) #[false, false, false, false, false, false, false] (by kernel_rfl) rfl rfl (⟨blk_cellv ((HS.out.drew).at2) 0 rfl, blk_cellv ((HS.out.drew).at4) 3 rfl⟩) (fun hHeld => ?_)
              have HS_ := Aside0.mk HS.out.drew
              clear HS
              generalize World.drew _ = w609 at HS_ hHeld ⊢
              have HS := HS_
              clear HS_
              refine pure_ (i := 0) (N := some 78) (v := ?_) (a' := ?_) #[true, false, false, false, false, false, false] rfl rfl (by kernel_rfl) (fun _ _ _ h => h) (Or.inl ⟨by rfl, ?_⟩) ?_ ?_
              rotate_left
              · intro w'
                go_simp
                with_reducible rfl
              rotate_left
              · simp only [Act.put, List.setIfInBounds_toArray, List.set_cons_zero, List.set_cons_succ, i64_w, i32_w]
                rfl
              refine pure_ (i := 1) (N := some 79) (v := ?_) (a' := ?_) #[true, true, false, false, false, false, false] rfl rfl (by kernel_rfl) (fun _ _ _ h => h) (Or.inl ⟨by rfl, ?_⟩) ?_ ?_
              rotate_left
              · intro w'
                go_simp
                with_reducible rfl
              rotate_left
              · simp only [Act.put, List.setIfInBounds_toArray, List.set_cons_zero, List.set_cons_succ, i64_w, i32_w]
                rfl
              refine pure_ (i := 2) (N := some 80) (v := ?_) (a' := ?_) #[true, true, true, false, false, false, false] rfl rfl (by kernel_rfl) (fun _ _ _ h => h) (Or.inl ⟨by rfl, ?_⟩) ?_ ?_
              rotate_left
              · intro w'
                go_simp
                with_reducible rfl
              rotate_left
              · simp only [Act.put, List.setIfInBounds_toArray, List.set_cons_zero, List.set_cons_succ, i64_w, i32_w]
                rfl
              refine pure_ (i := 4) (N := some 82) (v := ?_) (a' := ?_) #[true, true, true, false, true, false, false] rfl rfl (by kernel_rfl) (fun _ _ _ h => h) (Or.inl ⟨by rfl, ?_⟩) ?_ ?_
              rotate_left
              · intro w'
                go_simp
                with_reducible rfl
              rotate_left
              · simp only [Act.put, List.setIfInBounds_toArray, List.set_cons_zero, List.set_cons_succ, i64_w, i32_w]
                rfl
              refine take_ (i := 3) (N := some 81) (v := ?_) (a' := ?_) #[true, true, true, true, true, false, false] rfl rfl (by kernel_rfl) (fun _ _ _ h => h) (Or.inl ⟨by rfl, ?_⟩) hHeld ?_ ?_
              rotate_left
              · rintro w' hS'
                obtain ⟨s0, s1⟩ := hS'
                go_simp
                with_reducible rfl
              rotate_left
              · simp only [Act.put, List.setIfInBounds_toArray, List.set_cons_zero, List.set_cons_succ, i64_w, i32_w]
                rfl
              refine take_ (i := 5) (N := some 83) (v := ?_) (a' := ?_) #[true, true, true, true, true, true, false] rfl rfl (by kernel_rfl) (fun _ _ _ h => h) (Or.inl ⟨by rfl, ?_⟩) hHeld ?_ ?_
              rotate_left
              · rintro w' hS'
                obtain ⟨s0, s1⟩ := hS'
                go_simp
                with_reducible rfl
              rotate_left
              · simp only [Act.put, List.setIfInBounds_toArray, List.set_cons_zero, List.set_cons_succ, i64_w, i32_w]
                rfl
              refine one_ (i := 6) (N := some 84) #[true, true, true, true, true, true, true] rfl rfl (by kernel_rfl) (by decide) (fun K hK => ?_)
              obtain ⟨y610, HA611, H⟩ := bind_some H
              refine copy_step (l1 := [b2 g299 A302 l301.length n304 a306, r1 A302 l301.length n304 l301, b3 g308 A311 l310.length n313 a315]) (l2 := [b6 g451 a316 a317 a318 A320 l319.length n321]) (by rfl) (.tmp 81) (.tmp 83) 22 22 23 rfl Try.underlying22 (by kernel_rfl) (enc := Value.int .u32) (h1 := fun _ => rfl) 0 (.slice A311 l310.length n313) l310 l319 A320 l319.length n321 rfl rfl (Rd.read (fun _ _ _ _ h => h) HR322.out HS.out.fr) HS.out HA611 ?_
              intro w612 HS1
              replace HS : Aside0 (Sep FF w [b2 g299 A302 l301.length n304 a306, r1 A302 l301.length n304 l301, b3 g308 A311 l310.length n313 a315, r1 A311 l310.length n313 y610, b6 g451 a316 a317 a318 A320 l319.length n321] w612) := ⟨HS1⟩
              clear HS1
              refine hK.out _ _ (⟨blk_cellv (HS.out.at2) 0 rfl, blk_cellv (HS.out.at4) 3 rfl⟩) (fun hHeld => ?_)
              clear hK K
              refine norm_ (a' := ?_) ?_ ?_
              rotate_left
              · show Act.put _ (some 84) _ = _
                simp only [Act.put, List.setIfInBounds_toArray, List.set_cons_zero, List.set_cons_succ, i64_w, i32_w]
                rfl
              refine done_ (by kernel_rfl) ?_
              have hc613 : w612.cell? ⟨g451, 3, none⟩ = some (.slice A320 l319.length n321) := blk_cellv (HS.out.at4) 3 rfl
              go_wp2_with fail
              clear hc613
              obtain ⟨t637, HA638, H⟩ := bind_some H
              refine (store_Store_Load.calls l301 a306 l319 g299 A302 l301.length n304 A320 n321 t637 _ ⟨Rd.pass  (by decide) (fun _ _ _ _ h => h) HR322.out HS.out⟩ ⟨HS.out.begin⟩ HA638).mono ?_
              rintro e_ w639 ⟨rfl, hS⟩
              replace HS : Aside0 (Sep FF w [b2 g299 A302 l301.length n304 a306, r1 A302 l301.length n304 t637.2, b3 g308 A311 l310.length n313 a315, r1 A311 l310.length n313 y610, b6 g451 a316 a317 a318 A320 l319.length n321] w639) := ⟨HS.out.call hS⟩
              clear hS
              by_cases c640 : t637.1 = true
              · replace H := if_yes c640 H
                have c640b0 : t637.1 = true := c640
                have c640b1 : (!t637.1) = false := by rw [c640b0]; rfl
                clear c640
                replace HS : Aside0 (Sep FF w [b2 g299 A302 l301.length n304 a306, r1 A302 l301.length n304 t637.2, b3 g308 A311 l310.length n313 a315, r1 A311 l310.length n313 y610] w639) := ⟨HS.out.sub (.cons_cons _ (.cons_cons _ (.cons_cons _ (.cons_cons _ (.cons _ .slnil)))))⟩
                go_wp2_with fail
                go_ret
                rw [← some_eq H]
                exact ⟨(by first | rfl | (simp [IntKind.wrap_u32]; done)), HS.out⟩
              · replace H := if_no c640 H
                have c640b0 : t637.1 = false := by simpa using c640
                have c640b1 : (!t637.1) = true := by rw [c640b0]; rfl
                clear c640
                replace HS : Aside0 (Sep FF w [b2 g299 A302 l301.length n304 a306, r1 A302 l301.length n304 t637.2, b3 g308 A311 l310.length n313 a315, r1 A311 l310.length n313 y610] w639) := ⟨HS.out.sub (.cons_cons _ (.cons_cons _ (.cons_cons _ (.cons_cons _ (.cons _ .slnil)))))⟩
                go_wp2_with fail
                go_ret
                rw [← some_eq H]
                exact ⟨(by first | rfl | (simp [IntKind.wrap_u32]; done)), HS.out⟩
            · replace H := if_no c607 H
              have c607b0 : ((l319.length : Int) == (l310.length : Int)) = false := beq_eq_false_iff_ne.mpr c607
              have c607b1 : ((l319.length : Int) != (l310.length : Int)) = true := bne_iff_ne.mpr c607
              clear c607
              have hc641 : w606.cell? ⟨g451, 3, none⟩ = some (.slice A320 l319.length n321) := blk_cellv (HS.out.at4) 3 rfl
              go_wp2_with fail
              clear hc641
              obtain ⟨t637, HA642, H⟩ := bind_some H
              refine (store_Store_Load.calls l301 a306 l319 g299 A302 l301.length n304 A320 n321 t637 _ ⟨Rd.pass  (by decide) (fun _ _ _ _ h => h) HR322.out HS.out⟩ ⟨HS.out.begin⟩ HA642).mono ?_
              rintro e_ w643 ⟨rfl, hS⟩
              replace HS : Aside0 (Sep FF w [b2 g299 A302 l301.length n304 a306, r1 A302 l301.length n304 t637.2, b3 g308 A311 l310.length n313 a315, r1 A311 l310.length n313 l310, b6 g451 a316 a317 a318 A320 l319.length n321] w643) := ⟨HS.out.call hS⟩
              clear hS
              by_cases c644 : t637.1 = true
              · replace H := if_yes c644 H
                have c644b0 : t637.1 = true := c644
                have c644b1 : (!t637.1) = false := by rw [c644b0]; rfl
                clear c644
                replace HS : Aside0 (Sep FF w [b2 g299 A302 l301.length n304 a306, r1 A302 l301.length n304 t637.2, b3 g308 A311 l310.length n313 a315, r1 A311 l310.length n313 l310] w643) := ⟨HS.out.sub (.cons_cons _ (.cons_cons _ (.cons_cons _ (.cons_cons _ (.cons _ .slnil)))))⟩
                go_wp2_with fail
                go_ret
                rw [← some_eq H]
                exact ⟨(by first | rfl | (simp [IntKind.wrap_u32]; done)), HS.out⟩
              · replace H := if_no c644 H
                have c644b0 : t637.1 = false := by simpa using c644
                have c644b1 : (!t637.1) = true := by rw [c644b0]; rfl
                clear c644
                replace HS : Aside0 (Sep FF w [b2 g299 A302 l301.length n304 a306, r1 A302 l301.length n304 t637.2, b3 g308 A311 l310.length n313 a315, r1 A311 l310.length n313 l310] w643) := ⟨HS.out.sub (.cons_cons _ (.cons_cons _ (.cons_cons _ (.cons_cons _ (.cons _ .slnil)))))⟩
                go_wp2_with fail
                go_ret
                rw [← some_eq H]
                exact ⟨(by first | rfl | (simp [IntKind.wrap_u32]; done)), HS.out⟩
          · replace H := if_no c604 H
            have c604b0 : (a316 == 4) = false := beq_eq_false_iff_ne.mpr c604
            have c604b1 : (a316 != 4) = true := bne_iff_ne.mpr c604
            clear c604
            go_wp2_with (first | ((with_reducible refine gate_dst (N := 5) rfl ?_); refine box_on ?hg (N := 5) ?hd (cs := #[.int .u8 a316, .int .i64 a317, .int .u32 a318, .slice A320 l319.length n321]) (t := 41) ?hr ?_; (case hd => rfl); (case hg => rfl); (case hr => first | (go_simp; done) | (go_simp; rfl)); intro g451 hg w452 hbox hb; replace HS : Aside0 (Sep FF w [b2 g299 A302 l301.length n304 a306, r1 A302 l301.length n304 l301, b3 g308 A311 l310.length n313 a315, r1 A311 l310.length n313 l310, b6 g451 a316 a317 a318 A320 l319.length n321] w452) := ⟨HS.out.box hg hbox hb⟩; clear hg hbox hb; have hc454 : w452.cell? ⟨g451, 0, none⟩ = some (.int .u8 a316) := blk_cellv (HS.out.at4) 0 rfl))
            clear hc454
            refine start_ (n := 9) (S := (fun w' => w'.cell? ⟨g308, 0, none⟩ = some (.slice A311 l310.length n313))) (ds := []) #[false, false, false, false, false, false, false, false, false] (by kernel_rfl) rfl rfl (blk_cellv ((HS.out.drew).at2) 0 rfl) (fun hHeld => ?_)
            have HS_ := Aside0.mk HS.out.drew
            clear HS
            generalize World.drew _ = w646 at HS_ hHeld ⊢
            have HS := HS_
            clear HS_
            refine pure_ (i := 0) (N := some 91) (v := ?_) (a' := ?_) #[true, false, false, false, false, false, false, false, false] rfl rfl (by kernel_rfl) (fun _ _ _ h => h) (Or.inl ⟨by rfl, ?_⟩) ?_ ?_
            rotate_left
            · intro w'
              go_simp
              with_reducible rfl
            rotate_left
            · simp only [Act.put, List.setIfInBounds_toArray, List.set_cons_zero, List.set_cons_succ, i64_w, i32_w]
              rfl
            refine pure_ (i := 2) (N := some 93) (v := ?_) (a' := ?_) #[true, false, true, false, false, false, false, false, false] rfl rfl (by kernel_rfl) (fun _ _ _ h => h) (Or.inl ⟨by rfl, ?_⟩) ?_ ?_
            rotate_left
            · intro w'
              go_simp
              with_reducible rfl
            rotate_left
            · simp only [Act.put, List.setIfInBounds_toArray, List.set_cons_zero, List.set_cons_succ, i64_w, i32_w]
              rfl
            refine pure_ (i := 3) (N := some 94) (v := ?_) (a' := ?_) #[true, false, true, true, false, false, false, false, false] rfl rfl (by kernel_rfl) (fun _ _ _ h => h) (Or.inl ⟨by rfl, ?_⟩) ?_ ?_
            rotate_left
            · intro w'
              go_simp
              with_reducible rfl
            rotate_left
            · simp only [Act.put, List.setIfInBounds_toArray, List.set_cons_zero, List.set_cons_succ, i64_w, i32_w]
              rfl
            refine pure_ (i := 4) (N := some 95) (v := ?_) (a' := ?_) #[true, false, true, true, true, false, false, false, false] rfl rfl (by kernel_rfl) (fun _ _ _ h => h) (Or.inl ⟨by rfl, ?_⟩) ?_ ?_
            rotate_left
            · intro w'
              go_simp
              with_reducible rfl
            rotate_left
            · simp only [Act.put, List.setIfInBounds_toArray, List.set_cons_zero, List.set_cons_succ, i64_w, i32_w]
              rfl
            refine take_ (i := 5) (N := some 96) (v := ?_) (a' := ?_) #[true, false, true, true, true, true, false, false, false] rfl rfl (by kernel_rfl) (fun _ _ _ h => h) (Or.inl ⟨by rfl, ?_⟩) hHeld ?_ ?_
            rotate_left
            · rintro w' hS'
              have s0 := hS'
              go_simp
              with_reducible rfl
            rotate_left
            · simp only [Act.put, List.setIfInBounds_toArray, List.set_cons_zero, List.set_cons_succ, i64_w, i32_w]
              rfl
            refine pure_ (i := 6) (N := some 97) (v := ?_) (a' := ?_) #[true, false, true, true, true, true, true, false, false] rfl rfl (by kernel_rfl) (fun _ _ _ h => h) (Or.inl ⟨by rfl, ?_⟩) ?_ ?_
            rotate_left
            · intro w'
              go_simp
              with_reducible rfl
            rotate_left
            · simp only [Act.put, List.setIfInBounds_toArray, List.set_cons_zero, List.set_cons_succ, i64_w, i32_w]
              rfl
            refine one_ (i := 1) (N := some 92) #[true, true, true, true, true, true, true, false, false] rfl rfl (by kernel_rfl) (by decide) (fun K hK => ?_)
            obtain ⟨t657, HA658, H⟩ := bind_some H
            refine goes_ Try.func28 (by kernel_rfl) rfl #[.pointer (some ⟨g299, 0, none⟩)] (by rfl) rfl rfl (by (try simp only [List.map_toArray, List.map_cons, List.map_nil]); first | done | rfl) ?_
            refine (store_Store_Len.calls l301 a306 g299 A302 l301.length n304 t657 _ ⟨HS.out.begin⟩ HA658).mono ?_
            rintro e_ w659 ⟨rfl, hS⟩
            replace HS : Aside0 (Sep FF w [b2 g299 A302 l301.length n304 a306, r1 A302 l301.length n304 l301, b3 g308 A311 l310.length n313 a315, r1 A311 l310.length n313 l310, b6 g451 a316 a317 a318 A320 l319.length n321] w659) := ⟨HS.out.call hS⟩
            clear hS
            refine ⟨_, rfl, ?_⟩
            refine hK.out _ _ (blk_cellv (HS.out.at2) 0 rfl) (fun hHeld => ?_)
            clear hK K
            refine norm_ (a' := ?_) ?_ ?_
            rotate_left
            · show Act.put _ (some 92) _ = _
              simp only [Act.put, List.setIfInBounds_toArray, List.set_cons_zero, List.set_cons_succ, i64_w, i32_w]
              rfl
            refine pure_ (i := 7) (N := some 98) (v := ?_) (a' := ?_) #[true, true, true, true, true, true, true, true, false] rfl rfl (by kernel_rfl) (fun _ _ _ h => h) (Or.inl ⟨by rfl, ?_⟩) ?_ ?_
            rotate_left
            · intro w'
              go_simp
              with_reducible rfl
            rotate_left
            · simp only [Act.put, List.setIfInBounds_toArray, List.set_cons_zero, List.set_cons_succ, i64_w, i32_w]
              rfl
            refine pure_ (i := 8) (N := some 6) (v := ?_) (a' := ?_) #[true, true, true, true, true, true, true, true, true] rfl rfl (by kernel_rfl) (fun _ _ _ h => h) (Or.inl ⟨by rfl, ?_⟩) ?_ ?_
            rotate_left
            · intro w'
              go_simp
              with_reducible rfl
            rotate_left
            · simp only [Act.put, List.setIfInBounds_toArray, List.set_cons_zero, List.set_cons_succ, i64_w, i32_w]
              rfl
            refine done_ (by kernel_rfl) ?_
            replace HS : Aside0 (Sep FF w [b2 g299 A302 l301.length n304 a306, r1 A302 l301.length n304 l301, b3 g308 A311 l310.length n313 a315, r1 A311 l310.length n313 l310] w659) := ⟨HS.out.sub (.cons_cons _ (.cons_cons _ (.cons_cons _ (.cons_cons _ (.cons _ .slnil)))))⟩
            go_wp2_with fail
            go_ret
            rw [← some_eq H]
            exact ⟨(by first | rfl | (simp [IntKind.wrap_u32]; done)), HS.out⟩

set_option maxHeartbeats 30000000 in
set_option maxRecDepth 100000 in
theorem quitrentlaw04_StorePlays.calls (k : Nat) (a1 : Int) (l2 : List (Int × Int × Int × List Int)) (A3 : Option Addr) (n4 : Nat) (r : Bool) (w : World) (HR5 : Aside0 (Rd s4 (fps []) w A3 l2.length l2))  (HS : Aside0 (Sep (fps []) w [] w)) (H : Aside0 (quitrentlaw04_StorePlays.f k a1 l2 = some r)) :
    Calls Try.prog 4 #[.int .u8 a1, .slice A3 l2.length n4] w fun e w' => e = .returned (.bool r) ∧ Sep (fps []) w [] w' := by
  unfold quitrentlaw04_StorePlays.f at H
  go_enter Try.func4, Try.ntmps4
  by_cases c6 : (l2.length : Int) > 200
  · replace H := if_yes c6 H
    have c6b0 : decide (200 < (l2.length : Int)) = true := decide_eq_true c6
    have c6b1 : decide (200 < l2.length) = true := decide_eq_true (by omega)
    clear c6
    go_wp2_with fail
    obtain ⟨t213, HA214, H⟩ := bind_some H
    refine (quitrentlaw04_begun.calls t213 _ ⟨Sep.start _⟩ HA214).mono ?_
    rintro e_ w215 ⟨rfl, hS⟩
    replace HS : Aside0 (Sep (fps []) w [] w215) := ⟨HS.out.call hS⟩
    clear hS
    go_wp2_with fail
    go_ret
    rw [← some_eq H]
    exact ⟨(by first | rfl | (simp [IntKind.wrap_u32]; done)), HS.out⟩
  · replace H := if_no c6 H
    have c6b0 : decide (200 < (l2.length : Int)) = false := decide_eq_false c6
    have c6b1 : decide (200 < l2.length) = false := decide_eq_false (by omega)
    clear c6
    go_wp2_with fail
    obtain ⟨t216, HA217, H⟩ := bind_some H
    rcases t216 with t218 | t219
    · have H := sum_l H
      refine (store_New.calls (wrap64 (a1)) (.inl t218) _ ⟨Sep.start _⟩ HA217).mono ?_
      rintro e_ w220 ⟨rfl, hS⟩
      replace HS : Aside0 (Sep (fps []) w [] w220) := ⟨HS.out.call hS⟩
      clear hS
      go_wp2_with fail
      go_ret
      rw [← some_eq H]
      exact ⟨(by first | rfl | (simp [IntKind.wrap_u32]; done)), HS.out⟩
    · have H := sum_r H
      refine (store_New.calls (wrap64 (a1)) (.inr t219) _ ⟨Sep.start _⟩ HA217).mono ?_
      rintro e_ w221 ⟨g224, rfl, A225, m226, n227, hS⟩
      replace HS : Aside0 (Sep (fps []) w [b2 g224 A225 m226 n227 0, r1 A225 m226 n227 t219] w221) := ⟨HS.out.call hS⟩
      clear hS
      obtain rfl := (row_len (HS.out.at1)).symm
      go_wp2_with fail
      obtain ⟨t255, HA256, H⟩ := bind_some H
      refine (quitrentref04_New.calls (wrap64 (a1)) t255 _ ⟨Sep.start _⟩ HA256).mono ?_
      rintro e_ w257 ⟨g260, rfl, A261, m262, n263, hS⟩
      replace HS : Aside0 (Sep (fps []) w [b3 g260 A261 m262 n263 0, r1 A261 m262 n263 t255, b2 g224 A225 t219.length n227 0, r1 A225 t219.length n227 t219] w257) := ⟨HS.out.call hS⟩
      clear hS
      obtain rfl := (row_len (HS.out.at1)).symm
      go_wp2_with fail
      obtain ⟨o710, AL711, H⟩ := bind_some H
      go_loopg [31] k (fun kq v31 wc => ∃ (x714 : Int) (x715 : List Int) (x716 : List Int) (x717 : Int) (x718 : Int), v31 = .int .i64 x714 ∧ Aside0 (quitrentlaw04_StorePlays.lo0 kq l2 x714 x715 x716 x717 x718 = some o710) ∧ Aside0 (Sep (fps []) w [b3 g260 A261 t255.length n263 x717, r1 A261 t255.length n263 x715, b2 g224 A225 t219.length n227 x718, r1 A225 t219.length n227 x716] wc))
      case atStart => exact ⟨(0), (t255), (t219), (0), (0), (by first | rfl | (simp [IntKind.wrap_u32]; done)), AL711, ⟨HS.out⟩⟩
      case round =>
        clear AL711 HS
        obtain ⟨x714, x715, x716, x717, x718, rfl, AL711, HS⟩ := hrel
        obtain ⟨w712, rfl⟩ : ∃ x : World, x = wr := ⟨_, rfl⟩
        cases gk with
        | zero => exact absurd AL711.out (by simp [quitrentlaw04_StorePlays.lo0])
        | succ k713 =>
          have AL0 := AL711.out
          rw [quitrentlaw04_StorePlays.lo0] at AL0
          clear AL711
          have AL711 := Aside0.mk AL0
          clear AL0
          by_cases c719 : x714 < (l2.length : Int)
          · replace AL711 := if_yes c719 AL711
            have c719b0 : decide (x714 < (l2.length : Int)) = true := decide_eq_true c719
            clear c719
            by_cases c720 : 0 ≤ x714
            · replace AL711 := if_yes c720 AL711
              have c720b0 : decide (0 ≤ x714) = true := decide_eq_true c720
              have c720p : (0 ≤ x714) = True := eq_true c720
              clear c720
              have ip721 : (x714 < (l2.length : Int)) = True := eq_true (of_decide_eq_true c719b0)
              obtain ⟨hx722a, A723, n724, hx722e, hx726, hx727, hx728, hx729, HR725_⟩ := s4_at HR5.out HS.out.fr x714 (of_decide_eq_true c720b0) (of_decide_eq_true c719b0); cases hx722e; have HR725 := Aside0.mk HR725_; clear HR725_
              go_wp2_with (first | ((with_reducible refine gate_dst (N := 9) rfl ?_); refine box_on ?hg (N := 9) ?hd (cs := #[.int .u8 0, .int .i64 0, .int .u32 0, .slice none 0 0]) (t := 41) ?hr ?_; (case hd => rfl); (case hg => rfl); (case hr => first | (go_simp; done) | (go_simp; rfl)); intro g730 hg w731 hbox hb; clear hx726 hx727 hx728 hx729; replace HS : Aside0 (Sep (fps []) w [b3 g260 A261 t255.length n263 x717, r1 A261 t255.length n263 x715, b2 g224 A225 t219.length n227 x718, r1 A225 t219.length n227 x716, b5 g730 0 0 0] w731) := ⟨HS.out.box hg hbox hb⟩; clear hg hbox hb; replace HS : Aside0 (Sep (fps []) w [r1 none 0 0 [], b3 g260 A261 t255.length n263 x717, r1 A261 t255.length n263 x715, b2 g224 A225 t219.length n227 x718, r1 A225 t219.length n227 x716, b6 g730 0 0 0 none 0 0] w731) := ⟨HS.out.nilrow 23 (Value.int .u32)⟩; have hc735 : w731.cell? ⟨g730, 0, none⟩ = some (.int .u8 0) := blk_cellv (HS.out.at5) 0 rfl; have hz736 : w731.frozen? ⟨g730, 0, none⟩ = false := blk_fz (HS.out.at5) 0; have hc737 : w731.cell? ⟨g730, 1, none⟩ = some (.int .i64 0) := blk_cellv (HS.out.at5) 1 rfl; have hz738 : w731.frozen? ⟨g730, 1, none⟩ = false := blk_fz (HS.out.at5) 1; have hc739 : w731.cell? ⟨g730, 2, none⟩ = some (.int .u32 0) := blk_cellv (HS.out.at5) 2 rfl; have hz740 : w731.frozen? ⟨g730, 2, none⟩ = false := blk_fz (HS.out.at5) 2; have hc741 : w731.cell? ⟨g730, 3, none⟩ = some (.slice none 0 0) := blk_cellv (HS.out.at5) 3 rfl; have hz742 : w731.frozen? ⟨g730, 3, none⟩ = false := blk_fz (HS.out.at5) 3) | ((with_reducible refine gate_store (t := 41) (p := 9) rfl ?_); refine store_event (w1 := (World.setCell (World.setCell (World.setCell (World.setCell w731 ⟨g730, 0, none⟩ (.int .u8 ((rdOf (0, 0, 0, []) l2 x714).1))) ⟨g730, 1, none⟩ (.int .i64 ((rdOf (0, 0, 0, []) l2 x714).2.1))) ⟨g730, 2, none⟩ (.int .u32 ((rdOf (0, 0, 0, []) l2 x714).2.2.1))) ⟨g730, 3, none⟩ (.slice A723 (((rdOf (0, 0, 0, []) l2 x714).2.2.2).length) n724))) rfl (t := 41) (p := 9) rfl rfl ?hr ?_; (case hr => first | (go_simp; done) | (go_simp; rfl)); intro w743 hst; clear hc735 hz736 hc737 hz738 hc739 hz740 hc741 hz742; replace HS : Aside0 (Sep (fps []) w [r1 none 0 0 [], b3 g260 A261 t255.length n263 x717, r1 A261 t255.length n263 x715, b2 g224 A225 t219.length n227 x718, r1 A225 t219.length n227 x716, b6 g730 ((rdOf (0, 0, 0, []) l2 x714).1) ((rdOf (0, 0, 0, []) l2 x714).2.1) ((rdOf (0, 0, 0, []) l2 x714).2.2.1) A723 (((rdOf (0, 0, 0, []) l2 x714).2.2.2).length) n724] w743) := ⟨by rw [hst]; exact HS.out.setAll (l1 := [r1 none 0 0 [], b3 g260 A261 t255.length n263 x717, r1 A261 t255.length n263 x715, b2 g224 A225 t219.length n227 x718, r1 A225 t219.length n227 x716]) (l2 := []) [.int .u8 ((rdOf (0, 0, 0, []) l2 x714).1), .int .i64 ((rdOf (0, 0, 0, []) l2 x714).2.1), .int .u32 ((rdOf (0, 0, 0, []) l2 x714).2.2.1), .slice A723 (((rdOf (0, 0, 0, []) l2 x714).2.2.2).length) n724] rfl⟩; clear hst; replace HS : Aside0 (Sep (fps []) w [b3 g260 A261 t255.length n263 x717, r1 A261 t255.length n263 x715, b2 g224 A225 t219.length n227 x718, r1 A225 t219.length n227 x716, b6 g730 ((rdOf (0, 0, 0, []) l2 x714).1) ((rdOf (0, 0, 0, []) l2 x714).2.1) ((rdOf (0, 0, 0, []) l2 x714).2.2.1) A723 (((rdOf (0, 0, 0, []) l2 x714).2.2.2).length) n724] w743) := ⟨HS.out.sub (.cons _ (.cons_cons _ (.cons_cons _ (.cons_cons _ (.cons_cons _ (.cons_cons _ .slnil))))))⟩))
              refine start_ (n := 14) (S := (fun w' => w'.cell? ⟨g730, 0, none⟩ = some (.int .u8 ((rdOf (0, 0, 0, []) l2 x714).1)) ∧ w'.cell? ⟨g730, 1, none⟩ = some (.int .i64 ((rdOf (0, 0, 0, []) l2 x714).2.1)) ∧ w'.cell? ⟨g730, 2, none⟩ = some (.int .u32 ((rdOf (0, 0, 0, []) l2 x714).2.2.1)) ∧ w'.cell? ⟨g730, 3, none⟩ = some (.slice A723 (((rdOf (0, 0, 0, []) l2 x714).2.2.2).length) n724))) (ds := []) #[false, false, false, false, false, false, false, false, false, false, false, false, false, false] (by kernel_rfl) rfl rfl (⟨blk_cellv ((HS.out.drew).at4) 0 rfl, blk_cellv ((HS.out.drew).at4) 1 rfl, blk_cellv ((HS.out.drew).at4) 2 rfl, blk_cellv ((HS.out.drew).at4) 3 rfl⟩) (fun hHeld => ?_)
              have HS_ := Aside0.mk HS.out.drew
              clear HS
              generalize World.drew _ = w753 at HS_ hHeld ⊢
              have HS := HS_
              clear HS_
              refine pure_ (i := 0) (N := some 35) (v := ?_) (a' := ?_) #[true, false, false, false, false, false, false, false, false, false, false, false, false, false] rfl rfl (by kernel_rfl) (fun _ _ _ h => h) (Or.inl ⟨by rfl, ?_⟩) ?_ ?_
              rotate_left
              · intro w'
                go_simp
                with_reducible rfl
              rotate_left
              · simp only [Act.put, List.setIfInBounds_toArray, List.set_cons_zero, List.set_cons_succ, i64_w, i32_w]
                rfl
              refine pure_ (i := 1) (N := some 36) (v := ?_) (a' := ?_) #[true, true, false, false, false, false, false, false, false, false, false, false, false, false] rfl rfl (by kernel_rfl) (fun _ _ _ h => h) (Or.inl ⟨by rfl, ?_⟩) ?_ ?_
              rotate_left
              · intro w'
                go_simp
                with_reducible rfl
              rotate_left
              · simp only [Act.put, List.setIfInBounds_toArray, List.set_cons_zero, List.set_cons_succ, i64_w, i32_w]
                rfl
              refine take_ (i := 2) (N := some 37) (v := ?_) (a' := ?_) #[true, true, true, false, false, false, false, false, false, false, false, false, false, false] rfl rfl (by kernel_rfl) (fun _ _ _ h => h) (Or.inl ⟨by rfl, ?_⟩) hHeld ?_ ?_
              rotate_left
              · rintro w' hS'
                obtain ⟨s0, s1, s2, s3⟩ := hS'
                go_simp
                with_reducible rfl
              rotate_left
              · simp only [Act.put, List.setIfInBounds_toArray, List.set_cons_zero, List.set_cons_succ, i64_w, i32_w]
                rfl
              refine one_ (i := 3) (N := some 38) #[true, true, true, true, false, false, false, false, false, false, false, false, false, false] rfl rfl (by kernel_rfl) (by decide) (fun K hK => ?_)
              replace HS : Aside0 (Sep (fps []) w [r1 A261 t255.length n263 x715, b3 g260 A261 t255.length n263 x717, b2 g224 A225 t219.length n227 x718, r1 A225 t219.length n227 x716, b6 g730 ((rdOf (0, 0, 0, []) l2 x714).1) ((rdOf (0, 0, 0, []) l2 x714).2.1) ((rdOf (0, 0, 0, []) l2 x714).2.2.1) A723 (((rdOf (0, 0, 0, []) l2 x714).2.2.2).length) n724] w753) := ⟨HS.out.front 1 (by simp)⟩
              replace HS : Aside0 (Sep (fps []) w [b3 g260 A261 t255.length n263 x717, r1 A261 t255.length n263 x715, b2 g224 A225 t219.length n227 x718, r1 A225 t219.length n227 x716, b6 g730 ((rdOf (0, 0, 0, []) l2 x714).1) ((rdOf (0, 0, 0, []) l2 x714).2.1) ((rdOf (0, 0, 0, []) l2 x714).2.2.1) A723 (((rdOf (0, 0, 0, []) l2 x714).2.2.2).length) n724] w753) := ⟨HS.out.front 1 (by simp)⟩
              replace HS : Aside0 (Sep (fps []) w [r1 A225 t219.length n227 x716, b3 g260 A261 t255.length n263 x717, r1 A261 t255.length n263 x715, b2 g224 A225 t219.length n227 x718, b6 g730 ((rdOf (0, 0, 0, []) l2 x714).1) ((rdOf (0, 0, 0, []) l2 x714).2.1) ((rdOf (0, 0, 0, []) l2 x714).2.2.1) A723 (((rdOf (0, 0, 0, []) l2 x714).2.2.2).length) n724] w753) := ⟨HS.out.front 3 (by simp)⟩
              replace HS : Aside0 (Sep (fps []) w [b2 g224 A225 t219.length n227 x718, r1 A225 t219.length n227 x716, b3 g260 A261 t255.length n263 x717, r1 A261 t255.length n263 x715, b6 g730 ((rdOf (0, 0, 0, []) l2 x714).1) ((rdOf (0, 0, 0, []) l2 x714).2.1) ((rdOf (0, 0, 0, []) l2 x714).2.2.1) A723 (((rdOf (0, 0, 0, []) l2 x714).2.2.2).length) n724] w753) := ⟨HS.out.front 3 (by simp)⟩
              obtain ⟨t660, HA754, AL711⟩ := bind_some AL711
              refine goes_ Try.func27 (by kernel_rfl) rfl #[.pointer (some ⟨g224, 0, none⟩), .pointer (some ⟨g260, 0, none⟩), .agg #[.int .u8 ((rdOf (0, 0, 0, []) l2 x714).1), .int .i64 ((rdOf (0, 0, 0, []) l2 x714).2.1), .int .u32 ((rdOf (0, 0, 0, []) l2 x714).2.2.1), .slice A723 (((rdOf (0, 0, 0, []) l2 x714).2.2.2).length) n724]] (by rfl) rfl rfl (by (try simp only [List.map_toArray, List.map_cons, List.map_nil]); first | done | rfl) ?_
              refine (quitrentlaw04_do.calls _ x716 x718 x715 x717 ((rdOf (0, 0, 0, []) l2 x714).1) ((rdOf (0, 0, 0, []) l2 x714).2.1) ((rdOf (0, 0, 0, []) l2 x714).2.2.1) ((rdOf (0, 0, 0, []) l2 x714).2.2.2) g224 A225 t219.length n227 g260 A261 t255.length n263 A723 n724 t660 _ ⟨Rd.pass  (by decide) (fun _ _ _ _ h => h) HR725.out HS.out⟩ ⟨HS.out.begin⟩ HA754).mono ?_
              rintro e_ w755 ⟨rfl, hS⟩
              replace HS : Aside0 (Sep (fps []) w [b2 g224 A225 t219.length n227 t660.2.1, r1 A225 t219.length n227 t660.2.2.1, b3 g260 A261 t255.length n263 t660.2.2.2.1, r1 A261 t255.length n263 t660.2.2.2.2, b6 g730 ((rdOf (0, 0, 0, []) l2 x714).1) ((rdOf (0, 0, 0, []) l2 x714).2.1) ((rdOf (0, 0, 0, []) l2 x714).2.2.1) A723 (((rdOf (0, 0, 0, []) l2 x714).2.2.2).length) n724] w755) := ⟨HS.out.call hS⟩
              clear hS
              refine ⟨_, rfl, ?_⟩
              refine hK.out _ _ (⟨blk_cellv (HS.out.at4) 0 rfl, blk_cellv (HS.out.at4) 1 rfl, blk_cellv (HS.out.at4) 2 rfl, blk_cellv (HS.out.at4) 3 rfl⟩) (fun hHeld => ?_)
              clear hK K
              refine norm_ (a' := ?_) ?_ ?_
              rotate_left
              · show Act.put _ (some 38) _ = _
                simp only [Act.put, List.setIfInBounds_toArray, List.set_cons_zero, List.set_cons_succ, i64_w, i32_w]
                rfl
              refine pure_ (i := 4) (N := some 39) (v := ?_) (a' := ?_) #[true, true, true, true, true, false, false, false, false, false, false, false, false, false] rfl rfl (by kernel_rfl) (fun _ _ _ h => h) (Or.inl ⟨by rfl, ?_⟩) ?_ ?_
              rotate_left
              · intro w'
                go_simp
                with_reducible rfl
              rotate_left
              · simp only [Act.put, List.setIfInBounds_toArray, List.set_cons_zero, List.set_cons_succ, i64_w, i32_w]
                rfl
              refine pure_ (i := 5) (N := some 40) (v := ?_) (a' := ?_) #[true, true, true, true, true, true, false, false, false, false, false, false, false, false] rfl rfl (by kernel_rfl) (fun _ _ _ h => h) (Or.inl ⟨by rfl, ?_⟩) ?_ ?_
              rotate_left
              · intro w'
                go_simp
                with_reducible rfl
              rotate_left
              · simp only [Act.put, List.setIfInBounds_toArray, List.set_cons_zero, List.set_cons_succ, i64_w, i32_w]
                rfl
              by_cases c756 : t660.1 = true
              · replace AL711 := if_yes c756 AL711
                have c756b0 : t660.1 = true := c756
                have c756b1 : (!t660.1) = false := by rw [c756b0]; rfl
                try rw [c756b1]
                clear c756
                try simp only [c756b0, Bool.not_true, Bool.not_false]
                refine pure_ (i := 6) (N := some 41) (v := ?_) (a' := ?_) #[true, true, true, true, true, true, true, false, false, false, false, false, false, false] rfl rfl (by kernel_rfl) (fun _ _ _ h => h) (Or.inl ⟨by rfl, ?_⟩) ?_ ?_
                rotate_left
                · intro w'
                  go_simp
                  with_reducible rfl
                rotate_left
                · simp only [Act.put, List.setIfInBounds_toArray, List.set_cons_zero, List.set_cons_succ, i64_w, i32_w]
                  rfl
                try simp only [c756b0, Bool.not_true, Bool.not_false]
                refine pure_ (i := 8) (N := some 43) (v := ?_) (a' := ?_) #[true, true, true, true, true, true, true, false, true, false, false, false, false, false] rfl rfl (by kernel_rfl) (fun _ _ _ h => h) (Or.inl ⟨by rfl, ?_⟩) ?_ ?_
                rotate_left
                · intro w'
                  go_simp
                  with_reducible rfl
                rotate_left
                · simp only [Act.put, List.setIfInBounds_toArray, List.set_cons_zero, List.set_cons_succ, i64_w, i32_w]
                  rfl
                try simp only [c756b0, Bool.not_true, Bool.not_false]
                refine pure_ (i := 9) (N := some 44) (v := ?_) (a' := ?_) #[true, true, true, true, true, true, true, false, true, true, false, false, false, false] rfl rfl (by kernel_rfl) (fun _ _ _ h => h) (Or.inl ⟨by rfl, ?_⟩) ?_ ?_
                rotate_left
                · intro w'
                  go_simp
                  with_reducible rfl
                rotate_left
                · simp only [Act.put, List.setIfInBounds_toArray, List.set_cons_zero, List.set_cons_succ, i64_w, i32_w]
                  rfl
                try simp only [c756b0, Bool.not_true, Bool.not_false]
                refine pure_ (i := 10) (N := some 45) (v := ?_) (a' := ?_) #[true, true, true, true, true, true, true, false, true, true, true, false, false, false] rfl rfl (by kernel_rfl) (fun _ _ _ h => h) (Or.inl ⟨by rfl, ?_⟩) ?_ ?_
                rotate_left
                · intro w'
                  go_simp
                  with_reducible rfl
                rotate_left
                · simp only [Act.put, List.setIfInBounds_toArray, List.set_cons_zero, List.set_cons_succ, i64_w, i32_w]
                  rfl
                refine two_ (i := 7) (j := 11) (Ni := some 42) (Nj := some 46) #[true, true, true, true, true, true, true, true, true, true, true, false, false, false] #[true, true, true, true, true, true, true, false, true, true, true, true, false, false] rfl rfl rfl rfl (by kernel_rfl) (by decide) (by decide) (fun K hK => ?_) (fun K hK => ?_)
                · obtain ⟨t664, HA757, AL711⟩ := bind_some AL711
                  refine goes_ Try.func21 (by kernel_rfl) rfl #[.pointer (some ⟨g224, 0, none⟩)] (by rfl) rfl rfl (by (try simp only [List.map_toArray, List.map_cons, List.map_nil]); first | done | rfl) ?_
                  refine (store_Store_Meter.calls t660.2.2.1 t660.2.1 g224 A225 t219.length n227 t664 _ ⟨HS.out.begin⟩ HA757).mono ?_
                  rintro e_ w758 ⟨rfl, hS⟩
                  replace HS : Aside0 (Sep (fps []) w [b2 g224 A225 t219.length n227 t660.2.1, r1 A225 t219.length n227 t660.2.2.1, b3 g260 A261 t255.length n263 t660.2.2.2.1, r1 A261 t255.length n263 t660.2.2.2.2, b6 g730 ((rdOf (0, 0, 0, []) l2 x714).1) ((rdOf (0, 0, 0, []) l2 x714).2.1) ((rdOf (0, 0, 0, []) l2 x714).2.2.1) A723 (((rdOf (0, 0, 0, []) l2 x714).2.2.2).length) n724] w758) := ⟨HS.out.call hS⟩
                  clear hS
                  refine ⟨_, rfl, ?_⟩
                  refine hK.out _ _ (⟨blk_cellv (HS.out.at4) 0 rfl, blk_cellv (HS.out.at4) 1 rfl, blk_cellv (HS.out.at4) 2 rfl, blk_cellv (HS.out.at4) 3 rfl⟩) (fun hHeld => ?_)
                  clear hK K
                  refine norm_ (a' := ?_) ?_ ?_
                  rotate_left
                  · show Act.put _ (some 42) _ = _
                    simp only [Act.put, List.setIfInBounds_toArray, List.set_cons_zero, List.set_cons_succ, i64_w, i32_w]
                    rfl
                  try simp only [c756b0, Bool.not_true, Bool.not_false]
                  refine one_ (i := 11) (N := some 46) #[true, true, true, true, true, true, true, true, true, true, true, true, false, false] rfl rfl (by kernel_rfl) (by decide) (fun K hK => ?_)
                  have hc759 : w758.cell? ⟨g260, 1, none⟩ = some (.int .u64 t660.2.2.2.1) := blk_cellv (HS.out.at2) 1 rfl
                  refine event_step (by rfl) (w1 := w758) (v := .int .u64 t660.2.2.2.1) ?hr ?_
                  case hr => first | (go_simp; done) | (go_simp; rfl)
                  clear hc759
                  refine hK.out _ _ (⟨blk_cellv (HS.out.at4) 0 rfl, blk_cellv (HS.out.at4) 1 rfl, blk_cellv (HS.out.at4) 2 rfl, blk_cellv (HS.out.at4) 3 rfl⟩) (fun hHeld => ?_)
                  clear hK K
                  refine norm_ (a' := ?_) ?_ ?_
                  rotate_left
                  · show Act.put _ (some 46) _ = _
                    simp only [Act.put, List.setIfInBounds_toArray, List.set_cons_zero, List.set_cons_succ, i64_w, i32_w]
                    rfl
                  try simp only [c756b0, Bool.not_true, Bool.not_false]
                  refine pure_ (i := 12) (N := some 47) (v := ?_) (a' := ?_) #[true, true, true, true, true, true, true, true, true, true, true, true, true, false] rfl rfl (by kernel_rfl) (fun _ _ _ h => h) (Or.inl ⟨by rfl, ?_⟩) ?_ ?_
                  rotate_left
                  · intro w'
                    go_simp
                    with_reducible rfl
                  rotate_left
                  · simp only [Act.put, List.setIfInBounds_toArray, List.set_cons_zero, List.set_cons_succ, i64_w, i32_w]
                    rfl
                  refine pure_ (i := 13) (N := some 48) (v := ?_) (a' := ?_) #[true, true, true, true, true, true, true, true, true, true, true, true, true, true] rfl rfl (by kernel_rfl) (fun _ _ _ h => h) (Or.inl ⟨by rfl, ?_⟩) ?_ ?_
                  rotate_left
                  · intro w'
                    go_simp
                    with_reducible rfl
                  rotate_left
                  · simp only [Act.put, List.setIfInBounds_toArray, List.set_cons_zero, List.set_cons_succ, i64_w, i32_w]
                    rfl
                  refine done_ (by kernel_rfl) ?_
                  by_cases c760 : t664 = t660.2.2.2.1
                  · replace AL711 := if_yes c760 AL711
                    have c760b0 : (t664 == t660.2.2.2.1) = true := beq_iff_eq.mpr c760
                    have c760b1 : (t664 != t660.2.2.2.1) = false := bne_eq_false_iff_eq.mpr c760
                    clear c760
                    replace HS : Aside0 (Sep (fps []) w [b2 g224 A225 t219.length n227 t660.2.1, r1 A225 t219.length n227 t660.2.2.1, b3 g260 A261 t255.length n263 t660.2.2.2.1, r1 A261 t255.length n263 t660.2.2.2.2] w758) := ⟨HS.out.sub (.cons_cons _ (.cons_cons _ (.cons_cons _ (.cons_cons _ (.cons _ .slnil)))))⟩
                    go_wp2_with fail
                    go_roundg k713
                    case measure => exact Nat.lt_succ_self _
                    case rel => exact ⟨(wrap64 (x714 + 1)), (t660.2.2.2.2), (t660.2.2.1), (t660.2.2.2.1), (t660.2.1), (by first | rfl | (simp [IntKind.wrap_u32]; done)), Aside0.mk AL711.out, ⟨(((((HS.out).front 1 (by simp)).front 1 (by simp)).front 3 (by simp)).front 3 (by simp)).keep (l := [b3 g260 A261 t255.length n263 t660.2.2.2.1, r1 A261 t255.length n263 t660.2.2.2.2, b2 g224 A225 t219.length n227 t660.2.1, r1 A225 t219.length n227 t660.2.2.1]) (rest := [])⟩⟩
                  · replace AL711 := if_no c760 AL711
                    have c760b0 : (t664 == t660.2.2.2.1) = false := beq_eq_false_iff_ne.mpr c760
                    have c760b1 : (t664 != t660.2.2.2.1) = true := bne_iff_ne.mpr c760
                    clear c760
                    replace HS : Aside0 (Sep (fps []) w [b2 g224 A225 t219.length n227 t660.2.1, r1 A225 t219.length n227 t660.2.2.1, b3 g260 A261 t255.length n263 t660.2.2.2.1, r1 A261 t255.length n263 t660.2.2.2.2] w758) := ⟨HS.out.sub (.cons_cons _ (.cons_cons _ (.cons_cons _ (.cons_cons _ (.cons _ .slnil)))))⟩
                    go_wp2_with fail
                    have ho := some_eq AL711
                    subst ho
                    have H := lp_ret H
                    go_ret
                    rw [← some_eq H]
                    exact ⟨(by first | rfl | (simp [IntKind.wrap_u32]; done)), HS.out.sub (.cons _ (.cons _ (.cons _ (.cons _ .slnil))))⟩
                · have hc761 : w755.cell? ⟨g260, 1, none⟩ = some (.int .u64 t660.2.2.2.1) := blk_cellv (HS.out.at2) 1 rfl
                  refine event_step (by rfl) (w1 := w755) (v := .int .u64 t660.2.2.2.1) ?hr ?_
                  case hr => first | (go_simp; done) | (go_simp; rfl)
                  clear hc761
                  refine hK.out _ _ (⟨blk_cellv (HS.out.at4) 0 rfl, blk_cellv (HS.out.at4) 1 rfl, blk_cellv (HS.out.at4) 2 rfl, blk_cellv (HS.out.at4) 3 rfl⟩) (fun hHeld => ?_)
                  clear hK K
                  refine norm_ (a' := ?_) ?_ ?_
                  rotate_left
                  · show Act.put _ (some 46) _ = _
                    simp only [Act.put, List.setIfInBounds_toArray, List.set_cons_zero, List.set_cons_succ, i64_w, i32_w]
                    rfl
                  try simp only [c756b0, Bool.not_true, Bool.not_false]
                  refine one_ (i := 7) (N := some 42) #[true, true, true, true, true, true, true, true, true, true, true, true, false, false] rfl rfl (by kernel_rfl) (by decide) (fun K hK => ?_)
                  obtain ⟨t664, HA762, AL711⟩ := bind_some AL711
                  refine goes_ Try.func21 (by kernel_rfl) rfl #[.pointer (some ⟨g224, 0, none⟩)] (by rfl) rfl rfl (by (try simp only [List.map_toArray, List.map_cons, List.map_nil]); first | done | rfl) ?_
                  refine (store_Store_Meter.calls t660.2.2.1 t660.2.1 g224 A225 t219.length n227 t664 _ ⟨HS.out.begin⟩ HA762).mono ?_
                  rintro e_ w763 ⟨rfl, hS⟩
                  replace HS : Aside0 (Sep (fps []) w [b2 g224 A225 t219.length n227 t660.2.1, r1 A225 t219.length n227 t660.2.2.1, b3 g260 A261 t255.length n263 t660.2.2.2.1, r1 A261 t255.length n263 t660.2.2.2.2, b6 g730 ((rdOf (0, 0, 0, []) l2 x714).1) ((rdOf (0, 0, 0, []) l2 x714).2.1) ((rdOf (0, 0, 0, []) l2 x714).2.2.1) A723 (((rdOf (0, 0, 0, []) l2 x714).2.2.2).length) n724] w763) := ⟨HS.out.call hS⟩
                  clear hS
                  refine ⟨_, rfl, ?_⟩
                  refine hK.out _ _ (⟨blk_cellv (HS.out.at4) 0 rfl, blk_cellv (HS.out.at4) 1 rfl, blk_cellv (HS.out.at4) 2 rfl, blk_cellv (HS.out.at4) 3 rfl⟩) (fun hHeld => ?_)
                  clear hK K
                  refine norm_ (a' := ?_) ?_ ?_
                  rotate_left
                  · show Act.put _ (some 42) _ = _
                    simp only [Act.put, List.setIfInBounds_toArray, List.set_cons_zero, List.set_cons_succ, i64_w, i32_w]
                    rfl
                  try simp only [c756b0, Bool.not_true, Bool.not_false]
                  refine pure_ (i := 12) (N := some 47) (v := ?_) (a' := ?_) #[true, true, true, true, true, true, true, true, true, true, true, true, true, false] rfl rfl (by kernel_rfl) (fun _ _ _ h => h) (Or.inl ⟨by rfl, ?_⟩) ?_ ?_
                  rotate_left
                  · intro w'
                    go_simp
                    with_reducible rfl
                  rotate_left
                  · simp only [Act.put, List.setIfInBounds_toArray, List.set_cons_zero, List.set_cons_succ, i64_w, i32_w]
                    rfl
                  refine pure_ (i := 13) (N := some 48) (v := ?_) (a' := ?_) #[true, true, true, true, true, true, true, true, true, true, true, true, true, true] rfl rfl (by kernel_rfl) (fun _ _ _ h => h) (Or.inl ⟨by rfl, ?_⟩) ?_ ?_
                  rotate_left
                  · intro w'
                    go_simp
                    with_reducible rfl
                  rotate_left
                  · simp only [Act.put, List.setIfInBounds_toArray, List.set_cons_zero, List.set_cons_succ, i64_w, i32_w]
                    rfl
                  refine done_ (by kernel_rfl) ?_
                  by_cases c764 : t664 = t660.2.2.2.1
                  · replace AL711 := if_yes c764 AL711
                    have c764b0 : (t664 == t660.2.2.2.1) = true := beq_iff_eq.mpr c764
                    have c764b1 : (t664 != t660.2.2.2.1) = false := bne_eq_false_iff_eq.mpr c764
                    clear c764
                    replace HS : Aside0 (Sep (fps []) w [b2 g224 A225 t219.length n227 t660.2.1, r1 A225 t219.length n227 t660.2.2.1, b3 g260 A261 t255.length n263 t660.2.2.2.1, r1 A261 t255.length n263 t660.2.2.2.2] w763) := ⟨HS.out.sub (.cons_cons _ (.cons_cons _ (.cons_cons _ (.cons_cons _ (.cons _ .slnil)))))⟩
                    go_wp2_with fail
                    go_roundg k713
                    case measure => exact Nat.lt_succ_self _
                    case rel => exact ⟨(wrap64 (x714 + 1)), (t660.2.2.2.2), (t660.2.2.1), (t660.2.2.2.1), (t660.2.1), (by first | rfl | (simp [IntKind.wrap_u32]; done)), Aside0.mk AL711.out, ⟨(((((HS.out).front 1 (by simp)).front 1 (by simp)).front 3 (by simp)).front 3 (by simp)).keep (l := [b3 g260 A261 t255.length n263 t660.2.2.2.1, r1 A261 t255.length n263 t660.2.2.2.2, b2 g224 A225 t219.length n227 t660.2.1, r1 A225 t219.length n227 t660.2.2.1]) (rest := [])⟩⟩
                  · replace AL711 := if_no c764 AL711
                    have c764b0 : (t664 == t660.2.2.2.1) = false := beq_eq_false_iff_ne.mpr c764
                    have c764b1 : (t664 != t660.2.2.2.1) = true := bne_iff_ne.mpr c764
                    clear c764
                    replace HS : Aside0 (Sep (fps []) w [b2 g224 A225 t219.length n227 t660.2.1, r1 A225 t219.length n227 t660.2.2.1, b3 g260 A261 t255.length n263 t660.2.2.2.1, r1 A261 t255.length n263 t660.2.2.2.2] w763) := ⟨HS.out.sub (.cons_cons _ (.cons_cons _ (.cons_cons _ (.cons_cons _ (.cons _ .slnil)))))⟩
                    go_wp2_with fail
                    have ho := some_eq AL711
                    subst ho
                    have H := lp_ret H
                    go_ret
                    rw [← some_eq H]
                    exact ⟨(by first | rfl | (simp [IntKind.wrap_u32]; done)), HS.out.sub (.cons _ (.cons _ (.cons _ (.cons _ .slnil))))⟩
              · replace AL711 := if_no c756 AL711
                have c756b0 : t660.1 = false := by simpa using c756
                have c756b1 : (!t660.1) = true := by rw [c756b0]; rfl
                try rw [c756b1]
                clear c756
                try simp only [c756b0, Bool.not_true, Bool.not_false]
                refine pure_ (i := 6) (N := some 41) (v := undef) (a' := ?_) #[true, true, true, true, true, true, true, false, false, false, false, false, false, false] rfl rfl (by kernel_rfl) (fun _ _ _ h => h) (Or.inr ⟨by rfl, rfl⟩) ?_ ?_
                rotate_left
                · simp only [Act.put, List.setIfInBounds_toArray, List.set_cons_zero, List.set_cons_succ, i64_w, i32_w]
                  rfl
                try simp only [c756b0, Bool.not_true, Bool.not_false]
                refine pure_ (i := 7) (N := some 42) (v := undef) (a' := ?_) #[true, true, true, true, true, true, true, true, false, false, false, false, false, false] rfl rfl (by kernel_rfl) (fun _ _ _ h => h) (Or.inr ⟨by rfl, rfl⟩) ?_ ?_
                rotate_left
                · simp only [Act.put, List.setIfInBounds_toArray, List.set_cons_zero, List.set_cons_succ, i64_w, i32_w]
                  rfl
                try simp only [c756b0, Bool.not_true, Bool.not_false]
                refine pure_ (i := 8) (N := some 43) (v := undef) (a' := ?_) #[true, true, true, true, true, true, true, true, true, false, false, false, false, false] rfl rfl (by kernel_rfl) (fun _ _ _ h => h) (Or.inr ⟨by rfl, rfl⟩) ?_ ?_
                rotate_left
                · simp only [Act.put, List.setIfInBounds_toArray, List.set_cons_zero, List.set_cons_succ, i64_w, i32_w]
                  rfl
                try simp only [c756b0, Bool.not_true, Bool.not_false]
                refine pure_ (i := 9) (N := some 44) (v := undef) (a' := ?_) #[true, true, true, true, true, true, true, true, true, true, false, false, false, false] rfl rfl (by kernel_rfl) (fun _ _ _ h => h) (Or.inr ⟨by rfl, rfl⟩) ?_ ?_
                rotate_left
                · simp only [Act.put, List.setIfInBounds_toArray, List.set_cons_zero, List.set_cons_succ, i64_w, i32_w]
                  rfl
                try simp only [c756b0, Bool.not_true, Bool.not_false]
                refine pure_ (i := 10) (N := some 45) (v := undef) (a' := ?_) #[true, true, true, true, true, true, true, true, true, true, true, false, false, false] rfl rfl (by kernel_rfl) (fun _ _ _ h => h) (Or.inr ⟨by rfl, rfl⟩) ?_ ?_
                rotate_left
                · simp only [Act.put, List.setIfInBounds_toArray, List.set_cons_zero, List.set_cons_succ, i64_w, i32_w]
                  rfl
                try simp only [c756b0, Bool.not_true, Bool.not_false]
                refine pure_ (i := 11) (N := some 46) (v := undef) (a' := ?_) #[true, true, true, true, true, true, true, true, true, true, true, true, false, false] rfl rfl (by kernel_rfl) (fun _ _ _ h => h) (Or.inr ⟨by rfl, rfl⟩) ?_ ?_
                rotate_left
                · simp only [Act.put, List.setIfInBounds_toArray, List.set_cons_zero, List.set_cons_succ, i64_w, i32_w]
                  rfl
                try simp only [c756b0, Bool.not_true, Bool.not_false]
                refine pure_ (i := 12) (N := some 47) (v := undef) (a' := ?_) #[true, true, true, true, true, true, true, true, true, true, true, true, true, false] rfl rfl (by kernel_rfl) (fun _ _ _ h => h) (Or.inr ⟨by rfl, rfl⟩) ?_ ?_
                rotate_left
                · simp only [Act.put, List.setIfInBounds_toArray, List.set_cons_zero, List.set_cons_succ, i64_w, i32_w]
                  rfl
                refine pure_ (i := 13) (N := some 48) (v := ?_) (a' := ?_) #[true, true, true, true, true, true, true, true, true, true, true, true, true, true] rfl rfl (by kernel_rfl) (fun _ _ _ h => h) (Or.inl ⟨by rfl, ?_⟩) ?_ ?_
                rotate_left
                · intro w'
                  go_simp
                  with_reducible rfl
                rotate_left
                · simp only [Act.put, List.setIfInBounds_toArray, List.set_cons_zero, List.set_cons_succ, i64_w, i32_w]
                  rfl
                refine done_ (by kernel_rfl) ?_
                replace HS : Aside0 (Sep (fps []) w [b2 g224 A225 t219.length n227 t660.2.1, r1 A225 t219.length n227 t660.2.2.1, b3 g260 A261 t255.length n263 t660.2.2.2.1, r1 A261 t255.length n263 t660.2.2.2.2] w755) := ⟨HS.out.sub (.cons_cons _ (.cons_cons _ (.cons_cons _ (.cons_cons _ (.cons _ .slnil)))))⟩
                go_wp2_with fail
                have ho := some_eq AL711
                subst ho
                have H := lp_ret H
                go_ret
                rw [← some_eq H]
                exact ⟨(by first | rfl | (simp [IntKind.wrap_u32]; done)), HS.out.sub (.cons _ (.cons _ (.cons _ (.cons _ .slnil))))⟩
            · replace AL711 := if_no c720 AL711
              have c720b0 : decide (0 ≤ x714) = false := decide_eq_false c720
              clear c720
              exact (none_no AL711).elim
          · replace AL711 := if_no c719 AL711
            have c719b0 : decide (x714 < (l2.length : Int)) = false := decide_eq_false c719
            clear c719
            have ho := some_eq AL711
            subst ho
            clear AL711
            have H := lp_out H
            go_wp2_with fail
            have hl_ := row_len (HS.out.at1)
            rw [← hl_] at HS
            try rw [← hl_]
            clear hl_
            refine start_ (n := 11) (S := (fun _ => True)) (ds := []) #[false, false, false, false, false, false, false, false, false, false, false] (by kernel_rfl) rfl rfl (trivial) (fun hHeld => ?_)
            have HS_ := Aside0.mk HS.out.drew
            clear HS
            generalize World.drew _ = w795 at HS_ hHeld ⊢
            have HS := HS_
            clear HS_
            refine one_ (i := 0) (N := some 50) #[true, false, false, false, false, false, false, false, false, false, false] rfl rfl (by kernel_rfl) (by decide) (fun K hK => ?_)
            obtain ⟨t767, HA796, H⟩ := bind_some H
            refine goes_ Try.func19 (by kernel_rfl) rfl #[] (by rfl) rfl rfl (by (try simp only [List.map_toArray, List.map_cons, List.map_nil]); first | done | rfl) ?_
            refine (quitrentlaw04_begun.calls t767 _ ⟨Sep.start _⟩ HA796).mono ?_
            rintro e_ w797 ⟨rfl, hS⟩
            replace HS : Aside0 (Sep (fps []) w [b3 g260 A261 x715.length n263 x717, r1 A261 x715.length n263 x715, b2 g224 A225 t219.length n227 x718, r1 A225 t219.length n227 x716] w797) := ⟨HS.out.call hS⟩
            clear hS
            refine ⟨_, rfl, ?_⟩
            refine hK.out _ _ (trivial) (fun hHeld => ?_)
            clear hK K
            refine norm_ (a' := ?_) ?_ ?_
            rotate_left
            · show Act.put _ (some 50) _ = _
              simp only [Act.put, List.setIfInBounds_toArray, List.set_cons_zero, List.set_cons_succ, i64_w, i32_w]
              rfl
            refine pure_ (i := 1) (N := some 51) (v := ?_) (a' := ?_) #[true, true, false, false, false, false, false, false, false, false, false] rfl rfl (by kernel_rfl) (fun _ _ _ h => h) (Or.inl ⟨by rfl, ?_⟩) ?_ ?_
            rotate_left
            · intro w'
              go_simp
              with_reducible rfl
            rotate_left
            · simp only [Act.put, List.setIfInBounds_toArray, List.set_cons_zero, List.set_cons_succ, i64_w, i32_w]
              rfl
            by_cases c798 : t767 = true
            · replace H := if_yes c798 H
              have c798b0 : t767 = true := c798
              have c798b1 : (!t767) = false := by rw [c798b0]; rfl
              clear c798
              try simp only [c798b0, Bool.not_true, Bool.not_false]
              refine pure_ (i := 2) (N := some 52) (v := ?_) (a' := ?_) #[true, true, true, false, false, false, false, false, false, false, false] rfl rfl (by kernel_rfl) (fun _ _ _ h => h) (Or.inl ⟨by rfl, ?_⟩) ?_ ?_
              rotate_left
              · intro w'
                go_simp
                with_reducible rfl
              rotate_left
              · simp only [Act.put, List.setIfInBounds_toArray, List.set_cons_zero, List.set_cons_succ, i64_w, i32_w]
                rfl
              try simp only [c798b0, Bool.not_true, Bool.not_false]
              refine pure_ (i := 4) (N := some 54) (v := ?_) (a' := ?_) #[true, true, true, false, true, false, false, false, false, false, false] rfl rfl (by kernel_rfl) (fun _ _ _ h => h) (Or.inl ⟨by rfl, ?_⟩) ?_ ?_
              rotate_left
              · intro w'
                go_simp
                with_reducible rfl
              rotate_left
              · simp only [Act.put, List.setIfInBounds_toArray, List.set_cons_zero, List.set_cons_succ, i64_w, i32_w]
                rfl
              try simp only [c798b0, Bool.not_true, Bool.not_false]
              refine pure_ (i := 5) (N := some 55) (v := ?_) (a' := ?_) #[true, true, true, false, true, true, false, false, false, false, false] rfl rfl (by kernel_rfl) (fun _ _ _ h => h) (Or.inl ⟨by rfl, ?_⟩) ?_ ?_
              rotate_left
              · intro w'
                go_simp
                with_reducible rfl
              rotate_left
              · simp only [Act.put, List.setIfInBounds_toArray, List.set_cons_zero, List.set_cons_succ, i64_w, i32_w]
                rfl
              try simp only [c798b0, Bool.not_true, Bool.not_false]
              refine pure_ (i := 6) (N := some 56) (v := ?_) (a' := ?_) #[true, true, true, false, true, true, true, false, false, false, false] rfl rfl (by kernel_rfl) (fun _ _ _ h => h) (Or.inl ⟨by rfl, ?_⟩) ?_ ?_
              rotate_left
              · intro w'
                go_simp
                with_reducible rfl
              rotate_left
              · simp only [Act.put, List.setIfInBounds_toArray, List.set_cons_zero, List.set_cons_succ, i64_w, i32_w]
                rfl
              refine two_ (i := 3) (j := 7) (Ni := some 53) (Nj := some 57) #[true, true, true, true, true, true, true, false, false, false, false] #[true, true, true, false, true, true, true, true, false, false, false] rfl rfl rfl rfl (by kernel_rfl) (by decide) (by decide) (fun K hK => ?_) (fun K hK => ?_)
              · have HS_ : Aside0 (Sep (fps []) w [r1 A225 t219.length n227 x716, b3 g260 A261 x715.length n263 x717, r1 A261 x715.length n263 x715, b2 g224 A225 t219.length n227 x718] w797) := ⟨HS.out.front 3 (by simp)⟩
                clear HS
                have HS := HS_
                clear HS_
                replace HS : Aside0 (Sep (fps []) w [b2 g224 A225 t219.length n227 x718, r1 A225 t219.length n227 x716, b3 g260 A261 x715.length n263 x717, r1 A261 x715.length n263 x715] w797) := ⟨HS.out.front 3 (by simp)⟩
                obtain ⟨t771, HA799, H⟩ := bind_some H
                refine goes_ Try.func24 (by kernel_rfl) rfl #[.pointer (some ⟨g224, 0, none⟩)] (by rfl) rfl rfl (by (try simp only [List.map_toArray, List.map_cons, List.map_nil]); first | done | rfl) ?_
                refine (store_Store_Words.calls x716 x718 g224 A225 t219.length n227 t771 _ ⟨HS.out.begin⟩ HA799).mono ?_
                rintro e_ w800 ⟨A802, m803, n804, rfl, hS⟩
                replace HS : Aside0 (Sep (fps []) w [b2 g224 A225 t219.length n227 x718, r1 A225 t219.length n227 x716, r1 A802 m803 n804 t771, b3 g260 A261 x715.length n263 x717, r1 A261 x715.length n263 x715] w800) := ⟨HS.out.call hS⟩
                clear hS
                obtain rfl := (row_len (HS.out.at2)).symm
                refine ⟨_, rfl, ?_⟩
                refine hK.out _ _ (trivial) (fun hHeld => ?_)
                clear hK K
                refine norm_ (a' := ?_) ?_ ?_
                rotate_left
                · show Act.put _ (some 53) _ = _
                  simp only [Act.put, List.setIfInBounds_toArray, List.set_cons_zero, List.set_cons_succ, i64_w, i32_w]
                  rfl
                try simp only [c798b0, Bool.not_true, Bool.not_false]
                refine one_ (i := 7) (N := some 57) #[true, true, true, true, true, true, true, true, false, false, false] rfl rfl (by kernel_rfl) (by decide) (fun K hK => ?_)
                have hc806 : w800.cell? ⟨g260, 0, none⟩ = some (.slice A261 x715.length n263) := blk_cellv (HS.out.at3) 0 rfl
                refine event_step (by rfl) (w1 := w800) (v := .slice A261 x715.length n263) ?hr ?_
                case hr => first | (go_simp; done) | (go_simp; rfl)
                clear hc806
                refine hK.out _ _ (trivial) (fun hHeld => ?_)
                clear hK K
                refine norm_ (a' := ?_) ?_ ?_
                rotate_left
                · show Act.put _ (some 57) _ = _
                  simp only [Act.put, List.setIfInBounds_toArray, List.set_cons_zero, List.set_cons_succ, i64_w, i32_w]
                  rfl
                try simp only [c798b0, Bool.not_true, Bool.not_false]
                refine one_ (i := 8) (N := some 58) #[true, true, true, true, true, true, true, true, true, false, false] rfl rfl (by kernel_rfl) (by decide) (fun K hK => ?_)
                obtain ⟨t791, HA807, H⟩ := bind_some H
                refine goes_ Try.func23 (by kernel_rfl) rfl #[.slice A802 t771.length n804, .slice A261 x715.length n263] (by rfl) rfl rfl (by (try simp only [List.map_toArray, List.map_cons, List.map_nil]); first | done | rfl) ?_
                refine (quitrentref01_Same.calls _ t771 x715 A802 n804 A261 n263 t791 _ ⟨Rd.ownI (l := []) HS.out 2 rfl⟩ ⟨Rd.ownI (l := []) HS.out 4 rfl⟩ ⟨Sep.start _⟩ HA807).mono ?_
                rintro e_ w808 ⟨rfl, hS⟩
                replace HS : Aside0 (Sep (fps []) w [b2 g224 A225 t219.length n227 x718, r1 A225 t219.length n227 x716, r1 A802 t771.length n804 t771, b3 g260 A261 x715.length n263 x717, r1 A261 x715.length n263 x715] w808) := ⟨HS.out.call hS⟩
                clear hS
                refine ⟨_, rfl, ?_⟩
                refine hK.out _ _ (trivial) (fun hHeld => ?_)
                clear hK K
                refine norm_ (a' := ?_) ?_ ?_
                rotate_left
                · show Act.put _ (some 58) _ = _
                  simp only [Act.put, List.setIfInBounds_toArray, List.set_cons_zero, List.set_cons_succ, i64_w, i32_w]
                  rfl
                refine pure_ (i := 9) (N := some 59) (v := ?_) (a' := ?_) #[true, true, true, true, true, true, true, true, true, true, false] rfl rfl (by kernel_rfl) (fun _ _ _ h => h) (Or.inl ⟨by rfl, ?_⟩) ?_ ?_
                rotate_left
                · intro w'
                  go_simp
                  with_reducible rfl
                rotate_left
                · simp only [Act.put, List.setIfInBounds_toArray, List.set_cons_zero, List.set_cons_succ, i64_w, i32_w]
                  rfl
                refine pure_ (i := 10) (N := some 4) (v := ?_) (a' := ?_) #[true, true, true, true, true, true, true, true, true, true, true] rfl rfl (by kernel_rfl) (fun _ _ _ h => h) (Or.inl ⟨by rfl, ?_⟩) ?_ ?_
                rotate_left
                · intro w'
                  go_simp
                  with_reducible rfl
                rotate_left
                · simp only [Act.put, List.setIfInBounds_toArray, List.set_cons_zero, List.set_cons_succ, i64_w, i32_w]
                  rfl
                refine done_ (by kernel_rfl) ?_
                replace HS : Aside0 (Sep (fps []) w [] w808) := ⟨HS.out.sub (.cons _ (.cons _ (.cons _ (.cons _ (.cons _ .slnil)))))⟩
                go_wp2_with fail
                go_ret
                rw [← some_eq H]
                exact ⟨(by first | rfl | (simp [IntKind.wrap_u32]; done)), HS.out⟩
              · have hc809 : w797.cell? ⟨g260, 0, none⟩ = some (.slice A261 x715.length n263) := blk_cellv (HS.out.at0) 0 rfl
                refine event_step (by rfl) (w1 := w797) (v := .slice A261 x715.length n263) ?hr ?_
                case hr => first | (go_simp; done) | (go_simp; rfl)
                clear hc809
                refine hK.out _ _ (trivial) (fun hHeld => ?_)
                clear hK K
                refine norm_ (a' := ?_) ?_ ?_
                rotate_left
                · show Act.put _ (some 57) _ = _
                  simp only [Act.put, List.setIfInBounds_toArray, List.set_cons_zero, List.set_cons_succ, i64_w, i32_w]
                  rfl
                try simp only [c798b0, Bool.not_true, Bool.not_false]
                refine one_ (i := 3) (N := some 53) #[true, true, true, true, true, true, true, true, false, false, false] rfl rfl (by kernel_rfl) (by decide) (fun K hK => ?_)
                replace HS : Aside0 (Sep (fps []) w [r1 A225 t219.length n227 x716, b3 g260 A261 x715.length n263 x717, r1 A261 x715.length n263 x715, b2 g224 A225 t219.length n227 x718] w797) := ⟨HS.out.front 3 (by simp)⟩
                replace HS : Aside0 (Sep (fps []) w [b2 g224 A225 t219.length n227 x718, r1 A225 t219.length n227 x716, b3 g260 A261 x715.length n263 x717, r1 A261 x715.length n263 x715] w797) := ⟨HS.out.front 3 (by simp)⟩
                obtain ⟨t771, HA810, H⟩ := bind_some H
                refine goes_ Try.func24 (by kernel_rfl) rfl #[.pointer (some ⟨g224, 0, none⟩)] (by rfl) rfl rfl (by (try simp only [List.map_toArray, List.map_cons, List.map_nil]); first | done | rfl) ?_
                refine (store_Store_Words.calls x716 x718 g224 A225 t219.length n227 t771 _ ⟨HS.out.begin⟩ HA810).mono ?_
                rintro e_ w811 ⟨A813, m814, n815, rfl, hS⟩
                replace HS : Aside0 (Sep (fps []) w [b2 g224 A225 t219.length n227 x718, r1 A225 t219.length n227 x716, r1 A813 m814 n815 t771, b3 g260 A261 x715.length n263 x717, r1 A261 x715.length n263 x715] w811) := ⟨HS.out.call hS⟩
                clear hS
                obtain rfl := (row_len (HS.out.at2)).symm
                refine ⟨_, rfl, ?_⟩
                refine hK.out _ _ (trivial) (fun hHeld => ?_)
                clear hK K
                refine norm_ (a' := ?_) ?_ ?_
                rotate_left
                · show Act.put _ (some 53) _ = _
                  simp only [Act.put, List.setIfInBounds_toArray, List.set_cons_zero, List.set_cons_succ, i64_w, i32_w]
                  rfl
                try simp only [c798b0, Bool.not_true, Bool.not_false]
                refine one_ (i := 8) (N := some 58) #[true, true, true, true, true, true, true, true, true, false, false] rfl rfl (by kernel_rfl) (by decide) (fun K hK => ?_)
                obtain ⟨t791, HA817, H⟩ := bind_some H
                refine goes_ Try.func23 (by kernel_rfl) rfl #[.slice A813 t771.length n815, .slice A261 x715.length n263] (by rfl) rfl rfl (by (try simp only [List.map_toArray, List.map_cons, List.map_nil]); first | done | rfl) ?_
                refine (quitrentref01_Same.calls _ t771 x715 A813 n815 A261 n263 t791 _ ⟨Rd.ownI (l := []) HS.out 2 rfl⟩ ⟨Rd.ownI (l := []) HS.out 4 rfl⟩ ⟨Sep.start _⟩ HA817).mono ?_
                rintro e_ w818 ⟨rfl, hS⟩
                replace HS : Aside0 (Sep (fps []) w [b2 g224 A225 t219.length n227 x718, r1 A225 t219.length n227 x716, r1 A813 t771.length n815 t771, b3 g260 A261 x715.length n263 x717, r1 A261 x715.length n263 x715] w818) := ⟨HS.out.call hS⟩
                clear hS
                refine ⟨_, rfl, ?_⟩
                refine hK.out _ _ (trivial) (fun hHeld => ?_)
                clear hK K
                refine norm_ (a' := ?_) ?_ ?_
                rotate_left
                · show Act.put _ (some 58) _ = _
                  simp only [Act.put, List.setIfInBounds_toArray, List.set_cons_zero, List.set_cons_succ, i64_w, i32_w]
                  rfl
                refine pure_ (i := 9) (N := some 59) (v := ?_) (a' := ?_) #[true, true, true, true, true, true, true, true, true, true, false] rfl rfl (by kernel_rfl) (fun _ _ _ h => h) (Or.inl ⟨by rfl, ?_⟩) ?_ ?_
                rotate_left
                · intro w'
                  go_simp
                  with_reducible rfl
                rotate_left
                · simp only [Act.put, List.setIfInBounds_toArray, List.set_cons_zero, List.set_cons_succ, i64_w, i32_w]
                  rfl
                refine pure_ (i := 10) (N := some 4) (v := ?_) (a' := ?_) #[true, true, true, true, true, true, true, true, true, true, true] rfl rfl (by kernel_rfl) (fun _ _ _ h => h) (Or.inl ⟨by rfl, ?_⟩) ?_ ?_
                rotate_left
                · intro w'
                  go_simp
                  with_reducible rfl
                rotate_left
                · simp only [Act.put, List.setIfInBounds_toArray, List.set_cons_zero, List.set_cons_succ, i64_w, i32_w]
                  rfl
                refine done_ (by kernel_rfl) ?_
                replace HS : Aside0 (Sep (fps []) w [] w818) := ⟨HS.out.sub (.cons _ (.cons _ (.cons _ (.cons _ (.cons _ .slnil)))))⟩
                go_wp2_with fail
                go_ret
                rw [← some_eq H]
                exact ⟨(by first | rfl | (simp [IntKind.wrap_u32]; done)), HS.out⟩
            · replace H := if_no c798 H
              have c798b0 : t767 = false := by simpa using c798
              have c798b1 : (!t767) = true := by rw [c798b0]; rfl
              clear c798
              try simp only [c798b0, Bool.not_true, Bool.not_false]
              refine pure_ (i := 2) (N := some 52) (v := undef) (a' := ?_) #[true, true, true, false, false, false, false, false, false, false, false] rfl rfl (by kernel_rfl) (fun _ _ _ h => h) (Or.inr ⟨by rfl, rfl⟩) ?_ ?_
              rotate_left
              · simp only [Act.put, List.setIfInBounds_toArray, List.set_cons_zero, List.set_cons_succ, i64_w, i32_w]
                rfl
              try simp only [c798b0, Bool.not_true, Bool.not_false]
              refine pure_ (i := 3) (N := some 53) (v := undef) (a' := ?_) #[true, true, true, true, false, false, false, false, false, false, false] rfl rfl (by kernel_rfl) (fun _ _ _ h => h) (Or.inr ⟨by rfl, rfl⟩) ?_ ?_
              rotate_left
              · simp only [Act.put, List.setIfInBounds_toArray, List.set_cons_zero, List.set_cons_succ, i64_w, i32_w]
                rfl
              try simp only [c798b0, Bool.not_true, Bool.not_false]
              refine pure_ (i := 4) (N := some 54) (v := undef) (a' := ?_) #[true, true, true, true, true, false, false, false, false, false, false] rfl rfl (by kernel_rfl) (fun _ _ _ h => h) (Or.inr ⟨by rfl, rfl⟩) ?_ ?_
              rotate_left
              · simp only [Act.put, List.setIfInBounds_toArray, List.set_cons_zero, List.set_cons_succ, i64_w, i32_w]
                rfl
              try simp only [c798b0, Bool.not_true, Bool.not_false]
              refine pure_ (i := 5) (N := some 55) (v := undef) (a' := ?_) #[true, true, true, true, true, true, false, false, false, false, false] rfl rfl (by kernel_rfl) (fun _ _ _ h => h) (Or.inr ⟨by rfl, rfl⟩) ?_ ?_
              rotate_left
              · simp only [Act.put, List.setIfInBounds_toArray, List.set_cons_zero, List.set_cons_succ, i64_w, i32_w]
                rfl
              try simp only [c798b0, Bool.not_true, Bool.not_false]
              refine pure_ (i := 6) (N := some 56) (v := undef) (a' := ?_) #[true, true, true, true, true, true, true, false, false, false, false] rfl rfl (by kernel_rfl) (fun _ _ _ h => h) (Or.inr ⟨by rfl, rfl⟩) ?_ ?_
              rotate_left
              · simp only [Act.put, List.setIfInBounds_toArray, List.set_cons_zero, List.set_cons_succ, i64_w, i32_w]
                rfl
              try simp only [c798b0, Bool.not_true, Bool.not_false]
              refine pure_ (i := 7) (N := some 57) (v := undef) (a' := ?_) #[true, true, true, true, true, true, true, true, false, false, false] rfl rfl (by kernel_rfl) (fun _ _ _ h => h) (Or.inr ⟨by rfl, rfl⟩) ?_ ?_
              rotate_left
              · simp only [Act.put, List.setIfInBounds_toArray, List.set_cons_zero, List.set_cons_succ, i64_w, i32_w]
                rfl
              try simp only [c798b0, Bool.not_true, Bool.not_false]
              refine pure_ (i := 8) (N := some 58) (v := undef) (a' := ?_) #[true, true, true, true, true, true, true, true, true, false, false] rfl rfl (by kernel_rfl) (fun _ _ _ h => h) (Or.inr ⟨by rfl, rfl⟩) ?_ ?_
              rotate_left
              · simp only [Act.put, List.setIfInBounds_toArray, List.set_cons_zero, List.set_cons_succ, i64_w, i32_w]
                rfl
              refine pure_ (i := 9) (N := some 59) (v := ?_) (a' := ?_) #[true, true, true, true, true, true, true, true, true, true, false] rfl rfl (by kernel_rfl) (fun _ _ _ h => h) (Or.inl ⟨by rfl, ?_⟩) ?_ ?_
              rotate_left
              · intro w'
                go_simp
                with_reducible rfl
              rotate_left
              · simp only [Act.put, List.setIfInBounds_toArray, List.set_cons_zero, List.set_cons_succ, i64_w, i32_w]
                rfl
              refine pure_ (i := 10) (N := some 4) (v := ?_) (a' := ?_) #[true, true, true, true, true, true, true, true, true, true, true] rfl rfl (by kernel_rfl) (fun _ _ _ h => h) (Or.inl ⟨by rfl, ?_⟩) ?_ ?_
              rotate_left
              · intro w'
                go_simp
                with_reducible rfl
              rotate_left
              · simp only [Act.put, List.setIfInBounds_toArray, List.set_cons_zero, List.set_cons_succ, i64_w, i32_w]
                rfl
              refine done_ (by kernel_rfl) ?_
              replace HS : Aside0 (Sep (fps []) w [] w797) := ⟨HS.out.sub (.cons _ (.cons _ (.cons _ (.cons _ .slnil))))⟩
              go_wp2_with fail
              go_ret
              rw [← some_eq H]
              exact ⟨(by first | rfl | (simp [IntKind.wrap_u32]; done)), HS.out⟩
end Go.Proofs.Ytobeonkddamnoaa.C

/- Each function of the group S does what its plain function says, and changes nothing that was there; proved by walking its code. No condition. -/
import Derived.Test.YtobeonkddamnoaaQw
import Derived.Test.YtobeonkddamnoaaMS
namespace Go.Proofs.Ytobeonkddamnoaa.C
open Go.RowKit Go.Proofs.YtobeonkddamnoaaW.PrintWords Go.Proofs.YtobeonkddamnoaaW.PrintLast Go.Proofs.YtobeonkddamnoaaW.PrintMore Go.Proofs.Ytobeonkddamnoaa.Q Go.Proofs.Ytobeonkddamnoaa.M
set_option linter.unusedVariables false
set_option linter.unusedSimpArgs false
def r1 (A : Option Addr) (n c : Nat) (l : List Int) : Ob := row 23 (Value.int .u32) (.slice A n c) l
def b2 (g : Nat) (x0 : Option Addr) (x1 : Nat) (x2 : Nat) (x3 : Int) : Ob := blk g #[.slice x0 x1 x2, .int .u64 x3] 115
def b3 (g : Nat) (x0 : Int) : Ob := blk g #[.int .u32 x0] 23

set_option maxHeartbeats 30000000 in
set_option maxRecDepth 100000 in
theorem store_New.calls (a8 : Int) (r : Unit ⊕ (List Int)) (w : World)   (HS : Aside0 (Sep (fps []) w [] w)) (H : Aside0 (store_New.f a8 = some r)) :
    Calls Try.prog 17 #[.int .i64 a8] w fun e w' => Sum.elim (fun (r : Unit) => e = .returned (.tuple #[.pointer none, .int .i64 2]) ∧ Sep (fps []) w [] w') (fun (r : List Int) => ∃ (g35 : Nat) (A36 : Option Addr) (m37 : Nat) (n38 : Nat), e = .returned (.tuple #[.pointer (some ⟨g35, 0, none⟩), .int .i64 0]) ∧ Sep (fps []) w [b2 g35 A36 m37 n38 0, r1 A36 m37 n38 r] w') r := by
  unfold store_New.f at H
  go_enter Try.func17, Try.ntmps17
  by_cases c21 : a8 < 0
  · have H := if_yes c21 H
    have c21b0 : decide (a8 < 0) = true := decide_eq_true c21
    clear c21
    go_wp2_with fail
    go_ret2
    rw [← some_eq H]
    exact ⟨(by first | rfl | (simp [IntKind.wrap_u32]; done)), (HS.out).keep (l := []) (rest := [])⟩
  · have H := if_no c21 H
    have c21b0 : decide (a8 < 0) = false := decide_eq_false c21
    clear c21
    by_cases c22 : a8 > 8388608
    · have H := if_yes c22 H
      have c22b0 : decide (8388608 < a8) = true := decide_eq_true c22
      clear c22
      go_wp2_with fail
      go_ret2
      rw [← some_eq H]
      exact ⟨(by first | rfl | (simp [IntKind.wrap_u32]; done)), (HS.out).keep (l := []) (rest := [])⟩
    · have H := if_no c22 H
      have c22b0 : decide (8388608 < a8) = false := decide_eq_false c22
      clear c22
      obtain ⟨m23, HA24, H⟩ := bind_some H
      obtain ⟨hm25, hn26⟩ := mkLen_eq HA24
      have hm25H := Aside0.mk hm25
      clear hm25
      go_wp2_with (first | ((with_reducible refine gate_dst (N := 11) rfl ?_); refine make_event rfl (N := 11) rfl 22 23 (.tmp 10) (.tmp 10) rfl .i64 (.int .u32 0) 4 Try.underlying22 (by kernel_rfl) rfl (by decide) (Value.int .u32) 0 rfl m23 (by show Value.int _ _ = _; rw [hm25H.out]) (by show Value.int _ _ = _; rw [hm25H.out]) (by omega) HS.out ?_; intro g27 w28 HS1; replace HS : Aside0 (Sep (fps []) w [r1 (some ⟨g27, 0, none⟩) m23 m23 (List.replicate m23 (0 : Int))] w28) := ⟨HS1⟩; clear HS1) | ((with_reducible refine gate_dst (N := 13) rfl ?_); refine box_on ?hg (N := 13) ?hd (cs := #[.slice (some ⟨g27, 0, none⟩) m23 m23, .int .u64 0]) (t := 115) ?hr ?_; (case hd => rfl); (case hg => rfl); (case hr => first | (go_simp; done) | (go_simp; rfl)); intro g30 hg w31 hbox hb; replace HS : Aside0 (Sep (fps []) w [r1 (some ⟨g27, 0, none⟩) m23 m23 (List.replicate m23 (0 : Int)), b2 g30 (some ⟨g27, 0, none⟩) m23 m23 0] w31) := ⟨HS.out.box hg hbox hb⟩; clear hg hbox hb))
      go_ret2
      rw [← some_eq H]
      exact ⟨g30, (some ⟨g27, 0, none⟩), m23, m23, (by first | rfl | (simp [IntKind.wrap_u32]; done)), ((HS.out).front 1 (by simp)).keep (l := [b2 g30 (some ⟨g27, 0, none⟩) m23 m23 0, r1 (some ⟨g27, 0, none⟩) m23 m23 (List.replicate m23 (0 : Int))]) (rest := [])⟩

set_option maxHeartbeats 30000000 in
set_option maxRecDepth 100000 in
theorem store_Store_has.calls (l70 : List Int) (a74 : Int) (a75 : Int) (g68 : Nat) (A71 : Option Addr) (m72 : Nat) (n73 : Nat) (r : Bool) (w : World)   (HS : Aside0 (Sep (fps [b2 g68 A71 m72 n73 a74, r1 A71 m72 n73 l70]) w [b2 g68 A71 m72 n73 a74, r1 A71 m72 n73 l70] w)) (H : Aside0 (store_Store_has.f l70 a74 a75 = some r)) :
    Calls Try.prog 69 #[.pointer (some ⟨g68, 0, none⟩), .int .i64 a75] w fun e w' => e = .returned (.bool r) ∧ Sep (fps [b2 g68 A71 m72 n73 a74, r1 A71 m72 n73 l70]) w [b2 g68 A71 m72 n73 a74, r1 A71 m72 n73 l70] w' := by
  generalize (fps [b2 g68 A71 m72 n73 a74, r1 A71 m72 n73 l70]) = FF at HS ⊢
  obtain rfl := (row_len (HS.out.at1)).symm
  unfold store_Store_has.f at H
  go_enter Try.func69, Try.ntmps69
  by_cases c76 : a75 ≥ 0
  · have H := if_yes c76 H
    have c76b0 : decide (0 ≤ a75) = true := decide_eq_true c76
    clear c76
    have hc77 : w.cell? ⟨g68, 0, none⟩ = some (.slice A71 l70.length n73) := blk_cellv (HS.out.at0) 0 rfl
    go_wp2_with fail
    clear hc77
    go_ret
    rw [← some_eq H]
    exact ⟨(by first | rfl | (simp [IntKind.wrap_u32]; done)), (((HS.out).front 1 (by simp)).front 1 (by simp)).keep (l := [b2 g68 A71 l70.length n73 a74, r1 A71 l70.length n73 l70]) (rest := [])⟩
  · have H := if_no c76 H
    have c76b0 : decide (0 ≤ a75) = false := decide_eq_false c76
    clear c76
    go_wp2_with fail
    go_ret
    rw [← some_eq H]
    exact ⟨(by first | rfl | (simp [IntKind.wrap_u32]; done)), (((HS.out).front 1 (by simp)).front 1 (by simp)).keep (l := [b2 g68 A71 l70.length n73 a74, r1 A71 l70.length n73 l70]) (rest := [])⟩

set_option maxHeartbeats 30000000 in
set_option maxRecDepth 100000 in
theorem atomic_Uint64_Add.calls (l85 : List Int) (a89 : Int) (a90 : Int) (g83 : Nat) (A86 : Option Addr) (m87 : Nat) (n88 : Nat) (r : Int × Int) (w : World)   (HS : Aside0 (Sep (fps [b2 g83 A86 m87 n88 a89, r1 A86 m87 n88 l85]) w [b2 g83 A86 m87 n88 a89, r1 A86 m87 n88 l85] w)) (H : Aside0 (atomic_Uint64_Add.f l85 a89 a90 = some r)) :
    Calls Try.prog 71 #[.pointer (some ⟨g83, 1, none⟩), .int .u64 a90] w fun e w' => e = .returned (.int .u64 r.1) ∧ Sep (fps [b2 g83 A86 m87 n88 a89, r1 A86 m87 n88 l85]) w [b2 g83 A86 m87 n88 r.2, r1 A86 m87 n88 l85] w' := by
  generalize (fps [b2 g83 A86 m87 n88 a89, r1 A86 m87 n88 l85]) = FF at HS ⊢
  obtain rfl := (row_len (HS.out.at1)).symm
  unfold atomic_Uint64_Add.f at H
  go_enter Try.func71, Try.ntmps71
  obtain ⟨y100, HA101, H⟩ := bind_some H
  have hc97 : w.cell? ⟨g83, 1, none⟩ = some (.int .u64 a89) := blk_cellv (HS.out.at0) 1 rfl
  have hz99 : w.frozen? ⟨g83, 1, none⟩ = false := blk_fz (HS.out.at0) 1
  have hn98 : (callFunc 104 #[.pointer (some ⟨g83, 1, none⟩), .int .u64 a90]).run Try.prog w = .ok (.value (.int .u64 y100)) ((World.setCell w ⟨g83, 1, none⟩ (.int .u64 y100))) := (some_eq HA101) ▸ run_call_add Try.func104 (by kernel_rfl) (by kernel_rfl) (by kernel_rfl) .u64 (by kernel_rfl) hc97 hz99 (by rfl)
  go_wp2_with (first | ((with_reducible refine gate_dst (N := 9) rfl ?_); refine run_on2 (by rfl) (w1 := (World.setCell w ⟨g83, 1, none⟩ (.int .u64 y100))) (v := .int .u64 y100) ?hr ?_; (case hr => first | (go_simp; done) | (go_simp; rfl)); intro w102 hst; clear hc97 hz99; have hq0 : Sep FF w [b2 g83 A86 l85.length n88 y100, r1 A86 l85.length n88 l85] (World.setCell w ⟨g83, 1, none⟩ (.int .u64 y100)) := (HS.out).set1 (l1 := []) (l2 := [r1 A86 l85.length n88 l85]) 1 (.int .u64 y100); replace HS : Aside0 (Sep FF w [b2 g83 A86 l85.length n88 y100, r1 A86 l85.length n88 l85] w102) := ⟨by rw [hst]; exact hq0⟩; clear hst hn98 hq0))
  go_ret
  rw [← some_eq H]
  exact ⟨(by first | rfl | (simp [IntKind.wrap_u32]; done)), (((HS.out).front 1 (by simp)).front 1 (by simp)).keep (l := [b2 g83 A86 l85.length n88 y100, r1 A86 l85.length n88 l85]) (rest := [])⟩

set_option maxHeartbeats 30000000 in
set_option maxRecDepth 100000 in
theorem store_Store_Put.calls (l60 : List Int) (a64 : Int) (a65 : Int) (a66 : Int) (g58 : Nat) (A61 : Option Addr) (m62 : Nat) (n63 : Nat) (r : Bool × Int × List Int) (w : World)   (HS : Aside0 (Sep (fps [b2 g58 A61 m62 n63 a64, r1 A61 m62 n63 l60]) w [b2 g58 A61 m62 n63 a64, r1 A61 m62 n63 l60] w)) (H : Aside0 (store_Store_Put.f l60 a64 a65 a66 = some r)) :
    Calls Try.prog 22 #[.pointer (some ⟨g58, 0, none⟩), .int .i64 a65, .int .u32 a66] w fun e w' => ∃ (A131 : Option Addr) (m132 : Nat) (n133 : Nat), e = .returned (.bool r.1) ∧ Sep (fps [b2 g58 A61 m62 n63 a64, r1 A61 m62 n63 l60]) w [b2 g58 A131 m132 n133 r.2.1, r1 A131 m132 n133 r.2.2] w' := by
  generalize (fps [b2 g58 A61 m62 n63 a64, r1 A61 m62 n63 l60]) = FF at HS ⊢
  obtain rfl := (row_len (HS.out.at1)).symm
  unfold store_Store_Put.f at H
  go_enter Try.func22, Try.ntmps22
  go_wp2_with fail
  obtain ⟨t115, HA116, H⟩ := bind_some H
  refine (store_Store_has.calls l60 a64 a65 g58 A61 l60.length n63 t115 _ ⟨HS.out.begin (l := [b2 g58 A61 l60.length n63 a64, r1 A61 l60.length n63 l60]) (rest := [])⟩ HA116).mono ?_
  rintro e_ w117 ⟨rfl, hS⟩
  replace HS : Aside0 (Sep FF w [b2 g58 A61 l60.length n63 a64, r1 A61 l60.length n63 l60] w117) := ⟨HS.out.call (l := [b2 g58 A61 l60.length n63 a64, r1 A61 l60.length n63 l60]) (rest := []) hS⟩
  clear hS
  by_cases c118 : t115 = true
  · have H := if_yes c118 H
    have c118b0 : t115 = true := c118
    have c118b1 : (!t115) = false := by rw [c118b0]; rfl
    try rw [c118b1]
    clear c118
    go_wp2_with fail
    obtain ⟨t119, HA120, H⟩ := bind_some H
    refine (atomic_Uint64_Add.calls l60 a64 1 g58 A61 l60.length n63 t119 _ ⟨HS.out.begin (l := [b2 g58 A61 l60.length n63 a64, r1 A61 l60.length n63 l60]) (rest := [])⟩ HA120).mono ?_
    rintro e_ w121 ⟨rfl, hS⟩
    replace HS : Aside0 (Sep FF w [b2 g58 A61 l60.length n63 t119.2, r1 A61 l60.length n63 l60] w121) := ⟨HS.out.call (l := [b2 g58 A61 l60.length n63 a64, r1 A61 l60.length n63 l60]) (rest := []) hS⟩
    clear hS
    by_cases c123 : 0 ≤ a65
    · have H := if_yes c123 H
      have c123b0 : decide (0 ≤ a65) = true := decide_eq_true c123
      have c123p : (0 ≤ a65) = True := eq_true c123
      clear c123
      by_cases c124 : a65 < (l60.length : Int)
      · have H := if_yes c124 H
        have c124b0 : decide (a65 < (l60.length : Int)) = true := decide_eq_true c124
        have c124p : (a65 < (l60.length : Int)) = True := eq_true c124
        clear c124
        obtain ⟨y127, HA128, H⟩ := bind_some H
        have hc122 : w121.cell? ⟨g58, 0, none⟩ = some (.slice A61 l60.length n63) := blk_cellv (HS.out.at0) 0 rfl
        obtain ⟨g125, ea⟩ := row_at (HS.out.at1) (by have := (of_decide_eq_true c123b0); have := (of_decide_eq_true c124b0); omega); cases ea
        have hx129 := (row_get 0 (HS.out.at1) a65 (of_decide_eq_true c123b0) (of_decide_eq_true c124b0)).1
        have hz130 := (row_get 0 (HS.out.at1) a65 (of_decide_eq_true c123b0) (of_decide_eq_true c124b0)).2
        go_wp2_with (first | ((with_reducible refine gate_store (t := 23) (p := 21) rfl ?_); refine store_event (w1 := World.setCell w121 ⟨g125, (a65).toNat, none⟩ (.int .u32 a66)) rfl (t := 23) (p := 21) rfl rfl ?hr ?_; (case hr => first | (go_simp; done) | (go_simp; rfl)); intro w126 hst; clear hc122 hx129 hz130; have hq := Sep.rowset (l1 := [b2 g58 (some ⟨g125, 0, none⟩) l60.length n63 t119.2]) (l2 := []) HS.out a65 a66; rw [← hst, some_eq HA128] at hq; replace HS : Aside0 (Sep FF w [b2 g58 (some ⟨g125, 0, none⟩) l60.length n63 t119.2, r1 (some ⟨g125, 0, none⟩) l60.length n63 y127] w126) := ⟨hq⟩; clear hst hq))
        go_ret
        rw [← some_eq H]
        exact ⟨(some ⟨g125, 0, none⟩), l60.length, n63, (by first | rfl | (simp [IntKind.wrap_u32]; done)), (((HS.out).front 1 (by simp)).front 1 (by simp)).keep (l := [b2 g58 (some ⟨g125, 0, none⟩) l60.length n63 t119.2, r1 (some ⟨g125, 0, none⟩) l60.length n63 y127]) (rest := [])⟩
      · have H := if_no c124 H
        have c124b0 : decide (a65 < (l60.length : Int)) = false := decide_eq_false c124
        clear c124
        exact (none_no H).elim
    · have H := if_no c123 H
      have c123b0 : decide (0 ≤ a65) = false := decide_eq_false c123
      clear c123
      exact (none_no H).elim
  · have H := if_no c118 H
    have c118b0 : t115 = false := by simpa using c118
    have c118b1 : (!t115) = true := by rw [c118b0]; rfl
    try rw [c118b1]
    clear c118
    go_wp2_with fail
    go_ret
    rw [← some_eq H]
    exact ⟨A61, l60.length, n63, (by first | rfl | (simp [IntKind.wrap_u32]; done)), (((HS.out).front 1 (by simp)).front 1 (by simp)).keep (l := [b2 g58 A61 l60.length n63 a64, r1 A61 l60.length n63 l60]) (rest := [])⟩

set_option maxHeartbeats 30000000 in
set_option maxRecDepth 100000 in
theorem store_Store_Get.calls (l144 : List Int) (a148 : Int) (a149 : Int) (g142 : Nat) (A145 : Option Addr) (m146 : Nat) (n147 : Nat) (r : Int × Int) (w : World)   (HS : Aside0 (Sep (fps [b2 g142 A145 m146 n147 a148, r1 A145 m146 n147 l144]) w [b2 g142 A145 m146 n147 a148, r1 A145 m146 n147 l144] w)) (H : Aside0 (store_Store_Get.f l144 a148 a149 = some r)) :
    Calls Try.prog 25 #[.pointer (some ⟨g142, 0, none⟩), .int .i64 a149] w fun e w' => ∃ (A176 : Option Addr) (m177 : Nat) (n178 : Nat), e = .returned (.int .u32 r.1) ∧ Sep (fps [b2 g142 A145 m146 n147 a148, r1 A145 m146 n147 l144]) w [b2 g142 A176 m177 n178 r.2, r1 A176 m177 n178 l144] w' := by
  generalize (fps [b2 g142 A145 m146 n147 a148, r1 A145 m146 n147 l144]) = FF at HS ⊢
  obtain rfl := (row_len (HS.out.at1)).symm
  unfold store_Store_Get.f at H
  go_enter Try.func25, Try.ntmps25
  go_wp2_with fail
  obtain ⟨t163, HA164, H⟩ := bind_some H
  refine (store_Store_has.calls l144 a148 a149 g142 A145 l144.length n147 t163 _ ⟨HS.out.begin (l := [b2 g142 A145 l144.length n147 a148, r1 A145 l144.length n147 l144]) (rest := [])⟩ HA164).mono ?_
  rintro e_ w165 ⟨rfl, hS⟩
  replace HS : Aside0 (Sep FF w [b2 g142 A145 l144.length n147 a148, r1 A145 l144.length n147 l144] w165) := ⟨HS.out.call (l := [b2 g142 A145 l144.length n147 a148, r1 A145 l144.length n147 l144]) (rest := []) hS⟩
  clear hS
  by_cases c166 : t163 = true
  · have H := if_yes c166 H
    have c166b0 : t163 = true := c166
    have c166b1 : (!t163) = false := by rw [c166b0]; rfl
    try rw [c166b1]
    clear c166
    go_wp2_with fail
    obtain ⟨t167, HA168, H⟩ := bind_some H
    refine (atomic_Uint64_Add.calls l144 a148 1 g142 A145 l144.length n147 t167 _ ⟨HS.out.begin (l := [b2 g142 A145 l144.length n147 a148, r1 A145 l144.length n147 l144]) (rest := [])⟩ HA168).mono ?_
    rintro e_ w169 ⟨rfl, hS⟩
    replace HS : Aside0 (Sep FF w [b2 g142 A145 l144.length n147 t167.2, r1 A145 l144.length n147 l144] w169) := ⟨HS.out.call (l := [b2 g142 A145 l144.length n147 a148, r1 A145 l144.length n147 l144]) (rest := []) hS⟩
    clear hS
    by_cases c171 : 0 ≤ a149
    · have H := if_yes c171 H
      have c171b0 : decide (0 ≤ a149) = true := decide_eq_true c171
      have c171p : (0 ≤ a149) = True := eq_true c171
      clear c171
      by_cases c172 : a149 < (l144.length : Int)
      · have H := if_yes c172 H
        have c172b0 : decide (a149 < (l144.length : Int)) = true := decide_eq_true c172
        have c172p : (a149 < (l144.length : Int)) = True := eq_true c172
        clear c172
        have hc170 : w169.cell? ⟨g142, 0, none⟩ = some (.slice A145 l144.length n147) := blk_cellv (HS.out.at0) 0 rfl
        obtain ⟨g173, ea⟩ := row_at (HS.out.at1) (by have := (of_decide_eq_true c171b0); have := (of_decide_eq_true c172b0); omega); cases ea
        have hx174 := C_at_int (row_Ci (HS.out.at1)) a149 (of_decide_eq_true c171b0) (of_decide_eq_true c172b0)
        have hx175 : w169.cell? ⟨g173, (a149).toNat, none⟩ = some (.int .u32 (rd l144 a149)) := (row_get 0 (HS.out.at1) a149 (of_decide_eq_true c171b0) (of_decide_eq_true c172b0)).1
        go_wp2_with fail
        clear hc170 hx174 hx175
        go_ret
        rw [← some_eq H]
        exact ⟨(some ⟨g173, 0, none⟩), l144.length, n147, (by first | rfl | (simp [IntKind.wrap_u32]; done)), (((HS.out).front 1 (by simp)).front 1 (by simp)).keep (l := [b2 g142 (some ⟨g173, 0, none⟩) l144.length n147 t167.2, r1 (some ⟨g173, 0, none⟩) l144.length n147 l144]) (rest := [])⟩
      · have H := if_no c172 H
        have c172b0 : decide (a149 < (l144.length : Int)) = false := decide_eq_false c172
        clear c172
        exact (none_no H).elim
    · have H := if_no c171 H
      have c171b0 : decide (0 ≤ a149) = false := decide_eq_false c171
      clear c171
      exact (none_no H).elim
  · have H := if_no c166 H
    have c166b0 : t163 = false := by simpa using c166
    have c166b1 : (!t163) = true := by rw [c166b0]; rfl
    try rw [c166b1]
    clear c166
    go_wp2_with fail
    go_ret
    rw [← some_eq H]
    exact ⟨A145, l144.length, n147, (by first | rfl | (simp [IntKind.wrap_u32]; done)), (((HS.out).front 1 (by simp)).front 1 (by simp)).keep (l := [b2 g142 A145 l144.length n147 a148, r1 A145 l144.length n147 l144]) (rest := [])⟩

set_option maxHeartbeats 30000000 in
set_option maxRecDepth 100000 in
theorem atomic_Uint64_Load.calls (l204 : List Int) (a208 : Int) (g202 : Nat) (A205 : Option Addr) (m206 : Nat) (n207 : Nat) (r : Int) (w : World)   (HS : Aside0 (Sep (fps [b2 g202 A205 m206 n207 a208, r1 A205 m206 n207 l204]) w [b2 g202 A205 m206 n207 a208, r1 A205 m206 n207 l204] w)) (H : Aside0 (atomic_Uint64_Load.f l204 a208 = some r)) :
    Calls Try.prog 70 #[.pointer (some ⟨g202, 1, none⟩)] w fun e w' => e = .returned (.int .u64 r) ∧ Sep (fps [b2 g202 A205 m206 n207 a208, r1 A205 m206 n207 l204]) w [b2 g202 A205 m206 n207 a208, r1 A205 m206 n207 l204] w' := by
  generalize (fps [b2 g202 A205 m206 n207 a208, r1 A205 m206 n207 l204]) = FF at HS ⊢
  obtain rfl := (row_len (HS.out.at1)).symm
  unfold atomic_Uint64_Load.f at H
  go_enter Try.func70, Try.ntmps70
  have hc209 : w.cell? ⟨g202, 1, none⟩ = some (.int .u64 a208) := blk_cellv (HS.out.at0) 1 rfl
  have hn210 : (callFunc 103 #[.pointer (some ⟨g202, 1, none⟩)]).run Try.prog w = .ok (.value (.int .u64 a208)) w := run_call_load Try.func103 (by kernel_rfl) (by kernel_rfl) (by kernel_rfl) .u64 (by kernel_rfl) hc209
  go_wp2_with (first | ((with_reducible refine gate_dst (N := 6) rfl ?_); refine run_on2 (by rfl) (w1 := w) (v := .int .u64 a208) ?hr ?_; (case hr => first | (go_simp; done) | (go_simp; rfl)); intro w211 hst; clear hc209; replace HS : Aside0 (Sep FF w [b2 g202 A205 l204.length n207 a208, r1 A205 l204.length n207 l204] w211) := ⟨by rw [hst]; exact HS.out⟩; clear hst hn210))
  go_ret
  rw [← some_eq H]
  exact ⟨(by first | rfl | (simp [IntKind.wrap_u32]; done)), (((HS.out).front 1 (by simp)).front 1 (by simp)).keep (l := [b2 g202 A205 l204.length n207 a208, r1 A205 l204.length n207 l204]) (rest := [])⟩

set_option maxHeartbeats 30000000 in
set_option maxRecDepth 100000 in
theorem store_Store_Meter.calls (l196 : List Int) (a200 : Int) (g194 : Nat) (A197 : Option Addr) (m198 : Nat) (n199 : Nat) (r : Int) (w : World)   (HS : Aside0 (Sep (fps [b2 g194 A197 m198 n199 a200, r1 A197 m198 n199 l196]) w [b2 g194 A197 m198 n199 a200, r1 A197 m198 n199 l196] w)) (H : Aside0 (store_Store_Meter.f l196 a200 = some r)) :
    Calls Try.prog 21 #[.pointer (some ⟨g194, 0, none⟩)] w fun e w' => e = .returned (.int .u64 r) ∧ Sep (fps [b2 g194 A197 m198 n199 a200, r1 A197 m198 n199 l196]) w [b2 g194 A197 m198 n199 a200, r1 A197 m198 n199 l196] w' := by
  generalize (fps [b2 g194 A197 m198 n199 a200, r1 A197 m198 n199 l196]) = FF at HS ⊢
  obtain rfl := (row_len (HS.out.at1)).symm
  unfold store_Store_Meter.f at H
  go_enter Try.func21, Try.ntmps21
  go_wp2_with fail
  obtain ⟨t212, HA213, H⟩ := bind_some H
  refine (atomic_Uint64_Load.calls l196 a200 g194 A197 l196.length n199 t212 _ ⟨HS.out.begin (l := [b2 g194 A197 l196.length n199 a200, r1 A197 l196.length n199 l196]) (rest := [])⟩ HA213).mono ?_
  rintro e_ w214 ⟨rfl, hS⟩
  replace HS : Aside0 (Sep FF w [b2 g194 A197 l196.length n199 a200, r1 A197 l196.length n199 l196] w214) := ⟨HS.out.call (l := [b2 g194 A197 l196.length n199 a200, r1 A197 l196.length n199 l196]) (rest := []) hS⟩
  clear hS
  go_wp2_with fail
  go_ret
  rw [← some_eq H]
  exact ⟨(by first | rfl | (simp [IntKind.wrap_u32]; done)), (((HS.out).front 1 (by simp)).front 1 (by simp)).keep (l := [b2 g194 A197 l196.length n199 a200, r1 A197 l196.length n199 l196]) (rest := [])⟩

set_option maxHeartbeats 30000000 in
set_option maxRecDepth 100000 in
theorem quitrentlaw04_begun.calls  (r : Bool) (w : World)   (HS : Aside0 (Sep (fps []) w [] w)) (H : Aside0 (quitrentlaw04_begun.f = some r)) :
    Calls Try.prog 19 #[] w fun e w' => e = .returned (.bool r) ∧ Sep (fps []) w [] w' := by
  unfold quitrentlaw04_begun.f at H
  go_enter Try.func19, Try.ntmps19
  go_wp2_with fail
  obtain ⟨t45, HA46, H⟩ := bind_some H
  rcases t45 with t47 | t48
  · have H := sum_l H
    refine (store_New.calls 3 (.inl t47) _ ⟨HS.out.begin (l := []) (rest := [])⟩ HA46).mono ?_
    rintro e_ w49 ⟨rfl, hS⟩
    replace HS : Aside0 (Sep (fps []) w [] w49) := ⟨HS.out.call (l := []) (rest := []) hS⟩
    clear hS
    go_wp2_with fail
    go_ret
    rw [← some_eq H]
    exact ⟨(by first | rfl | (simp [IntKind.wrap_u32]; done)), (HS.out).keep (l := []) (rest := [])⟩
  · have H := sum_r H
    refine (store_New.calls 3 (.inr t48) _ ⟨HS.out.begin (l := []) (rest := [])⟩ HA46).mono ?_
    rintro e_ w50 ⟨g53, A54, m55, n56, rfl, hS⟩
    replace HS : Aside0 (Sep (fps []) w [b2 g53 A54 m55 n56 0, r1 A54 m55 n56 t48] w50) := ⟨HS.out.call (l := []) (rest := []) hS⟩
    clear hS
    obtain rfl := (row_len (HS.out.at1)).symm
    go_wp2_with fail
    obtain ⟨t134, HA135, H⟩ := bind_some H
    refine (store_Store_Put.calls t48 0 1 7 g53 A54 t48.length n56 t134 _ ⟨HS.out.begin (l := [b2 g53 A54 t48.length n56 0, r1 A54 t48.length n56 t48]) (rest := [])⟩ HA135).mono ?_
    rintro e_ w136 ⟨A137, m138, n139, rfl, hS⟩
    replace HS : Aside0 (Sep (fps []) w [b2 g53 A137 m138 n139 t134.2.1, r1 A137 m138 n139 t134.2.2] w136) := ⟨HS.out.call (l := [b2 g53 A54 t48.length n56 0, r1 A54 t48.length n56 t48]) (rest := []) hS⟩
    clear hS
    obtain rfl := (row_len (HS.out.at1)).symm
    by_cases c140 : t134.1 = true
    · have H := if_yes c140 H
      have c140b0 : t134.1 = true := c140
      have c140b1 : (!t134.1) = false := by rw [c140b0]; rfl
      clear c140
      go_wp2_with fail
      obtain ⟨t179, HA180, H⟩ := bind_some H
      refine (store_Store_Get.calls t134.2.2 t134.2.1 1 g53 A137 ((t134.2.2).length) n139 t179 _ ⟨HS.out.begin (l := [b2 g53 A137 ((t134.2.2).length) n139 t134.2.1, r1 A137 ((t134.2.2).length) n139 t134.2.2]) (rest := [])⟩ HA180).mono ?_
      rintro e_ w181 ⟨A182, m183, n184, rfl, hS⟩
      replace HS : Aside0 (Sep (fps []) w [b2 g53 A182 m183 n184 t179.2, r1 A182 m183 n184 t134.2.2] w181) := ⟨HS.out.call (l := [b2 g53 A137 ((t134.2.2).length) n139 t134.2.1, r1 A137 ((t134.2.2).length) n139 t134.2.2]) (rest := []) hS⟩
      clear hS
      obtain rfl := (row_len (HS.out.at1)).symm
      by_cases c185 : t179.1 = 7
      · have H := if_yes c185 H
        have c185b0 : (t179.1 == 7) = true := beq_iff_eq.mpr c185
        have c185b1 : (t179.1 != 7) = false := bne_eq_false_iff_eq.mpr c185
        clear c185
        go_wp2_with fail
        obtain ⟨t186, HA187, H⟩ := bind_some H
        refine (store_Store_Get.calls t134.2.2 t179.2 3 g53 A182 ((t134.2.2).length) n184 t186 _ ⟨HS.out.begin (l := [b2 g53 A182 ((t134.2.2).length) n184 t179.2, r1 A182 ((t134.2.2).length) n184 t134.2.2]) (rest := [])⟩ HA187).mono ?_
        rintro e_ w188 ⟨A189, m190, n191, rfl, hS⟩
        replace HS : Aside0 (Sep (fps []) w [b2 g53 A189 m190 n191 t186.2, r1 A189 m190 n191 t134.2.2] w188) := ⟨HS.out.call (l := [b2 g53 A182 ((t134.2.2).length) n184 t179.2, r1 A182 ((t134.2.2).length) n184 t134.2.2]) (rest := []) hS⟩
        clear hS
        obtain rfl := (row_len (HS.out.at1)).symm
        by_cases c192 : t186.1 = 0
        · have H := if_yes c192 H
          have c192b0 : (t186.1 == 0) = true := beq_iff_eq.mpr c192
          have c192b1 : (t186.1 != 0) = false := bne_eq_false_iff_eq.mpr c192
          clear c192
          go_wp2_with fail
          obtain ⟨t215, HA216, H⟩ := bind_some H
          refine (store_Store_Meter.calls t134.2.2 t186.2 g53 A189 ((t134.2.2).length) n191 t215 _ ⟨HS.out.begin (l := [b2 g53 A189 ((t134.2.2).length) n191 t186.2, r1 A189 ((t134.2.2).length) n191 t134.2.2]) (rest := [])⟩ HA216).mono ?_
          rintro e_ w217 ⟨rfl, hS⟩
          replace HS : Aside0 (Sep (fps []) w [b2 g53 A189 ((t134.2.2).length) n191 t186.2, r1 A189 ((t134.2.2).length) n191 t134.2.2] w217) := ⟨HS.out.call (l := [b2 g53 A189 ((t134.2.2).length) n191 t186.2, r1 A189 ((t134.2.2).length) n191 t134.2.2]) (rest := []) hS⟩
          clear hS
          replace HS : Aside0 (Sep (fps []) w [] w217) := ⟨HS.out.sub (.cons _ (.cons _ .slnil))⟩
          go_wp2_with fail
          go_ret
          rw [← some_eq H]
          exact ⟨(by first | rfl | (simp [IntKind.wrap_u32]; done)), (HS.out).keep (l := []) (rest := [])⟩
        · have H := if_no c192 H
          have c192b0 : (t186.1 == 0) = false := beq_eq_false_iff_ne.mpr c192
          have c192b1 : (t186.1 != 0) = true := bne_iff_ne.mpr c192
          clear c192
          replace HS : Aside0 (Sep (fps []) w [] w188) := ⟨HS.out.sub (.cons _ (.cons _ .slnil))⟩
          go_wp2_with fail
          go_ret
          rw [← some_eq H]
          exact ⟨(by first | rfl | (simp [IntKind.wrap_u32]; done)), (HS.out).keep (l := []) (rest := [])⟩
      · have H := if_no c185 H
        have c185b0 : (t179.1 == 7) = false := beq_eq_false_iff_ne.mpr c185
        have c185b1 : (t179.1 != 7) = true := bne_iff_ne.mpr c185
        clear c185
        replace HS : Aside0 (Sep (fps []) w [] w181) := ⟨HS.out.sub (.cons _ (.cons _ .slnil))⟩
        go_wp2_with fail
        go_ret
        rw [← some_eq H]
        exact ⟨(by first | rfl | (simp [IntKind.wrap_u32]; done)), (HS.out).keep (l := []) (rest := [])⟩
    · have H := if_no c140 H
      have c140b0 : t134.1 = false := by simpa using c140
      have c140b1 : (!t134.1) = true := by rw [c140b0]; rfl
      clear c140
      replace HS : Aside0 (Sep (fps []) w [] w136) := ⟨HS.out.sub (.cons _ (.cons _ .slnil))⟩
      go_wp2_with fail
      go_ret
      rw [← some_eq H]
      exact ⟨(by first | rfl | (simp [IntKind.wrap_u32]; done)), (HS.out).keep (l := []) (rest := [])⟩

set_option maxHeartbeats 30000000 in
set_option maxRecDepth 100000 in
theorem store_Store_Load.calls (l234 : List Int) (a238 : Int) (l239 : List Int) (g232 : Nat) (A235 : Option Addr) (m236 : Nat) (n237 : Nat) (A240 : Option Addr) (n241 : Nat) (r : Bool × List Int) (w : World) (HR242 : Aside0 (Rd (Kd.int .u32) (fps [b2 g232 A235 m236 n237 a238, r1 A235 m236 n237 l234]) w A240 l239.length l239))  (HS : Aside0 (Sep (fps [b2 g232 A235 m236 n237 a238, r1 A235 m236 n237 l234]) w [b2 g232 A235 m236 n237 a238, r1 A235 m236 n237 l234] w)) (H : Aside0 (store_Store_Load.f l234 a238 l239 = some r)) :
    Calls Try.prog 18 #[.pointer (some ⟨g232, 0, none⟩), .slice A240 l239.length n241] w fun e w' => e = .returned (.bool r.1) ∧ Sep (fps [b2 g232 A235 m236 n237 a238, r1 A235 m236 n237 l234]) w [b2 g232 A235 m236 n237 a238, r1 A235 m236 n237 r.2] w' := by
  generalize (fps [b2 g232 A235 m236 n237 a238, r1 A235 m236 n237 l234]) = FF at HS HR242 ⊢
  obtain rfl := (row_len (HS.out.at1)).symm
  unfold store_Store_Load.f at H
  go_enter Try.func18, Try.ntmps18
  by_cases c249 : (l239.length : Int) = (l234.length : Int)
  · have H := if_yes c249 H
    have c249b0 : ((l239.length : Int) == (l234.length : Int)) = true := beq_iff_eq.mpr c249
    have c249b1 : ((l239.length : Int) != (l234.length : Int)) = false := bne_eq_false_iff_eq.mpr c249
    clear c249
    obtain ⟨y250, HA251, H⟩ := bind_some H
    have hc248 : w.cell? ⟨g232, 0, none⟩ = some (.slice A235 l234.length n237) := blk_cellv (HS.out.at0) 0 rfl
    go_wp2_with (first | ((with_reducible refine gate_dst (N := 22) rfl ?_); refine copy_event (l1 := [b2 g232 A235 l234.length n237 a238]) (l2 := []) rfl (.tmp 20) (.tmp 21) 22 22 23 rfl Try.underlying22 (by kernel_rfl) (enc := Value.int .u32) (h1 := fun _ => rfl) 0 (.slice A235 l234.length n237) l234 l239 A240 l239.length n241 rfl rfl (Rd.read (fun _ _ _ _ h => h) HR242.out HS.out.fr) HS.out HA251 ?_; intro w252 HS1; clear hc248; replace HS : Aside0 (Sep FF w [b2 g232 A235 l234.length n237 a238, r1 A235 l234.length n237 y250] w252) := ⟨HS1⟩; clear HS1))
    go_ret
    rw [← some_eq H]
    exact ⟨(by first | rfl | (simp [IntKind.wrap_u32]; done)), (((HS.out).front 1 (by simp)).front 1 (by simp)).keep (l := [b2 g232 A235 l234.length n237 a238, r1 A235 l234.length n237 y250]) (rest := [])⟩
  · have H := if_no c249 H
    have c249b0 : ((l239.length : Int) == (l234.length : Int)) = false := beq_eq_false_iff_ne.mpr c249
    have c249b1 : ((l239.length : Int) != (l234.length : Int)) = true := bne_iff_ne.mpr c249
    clear c249
    have hc248 : w.cell? ⟨g232, 0, none⟩ = some (.slice A235 l234.length n237) := blk_cellv (HS.out.at0) 0 rfl
    go_wp2_with fail
    clear hc248
    go_ret
    rw [← some_eq H]
    exact ⟨(by first | rfl | (simp [IntKind.wrap_u32]; done)), (((HS.out).front 1 (by simp)).front 1 (by simp)).keep (l := [b2 g232 A235 l234.length n237 a238, r1 A235 l234.length n237 l234]) (rest := [])⟩

set_option maxHeartbeats 30000000 in
set_option maxRecDepth 100000 in
theorem store_Store_Peek.calls (l260 : List Int) (a264 : Int) (a265 : Int) (g258 : Nat) (A261 : Option Addr) (m262 : Nat) (n263 : Nat) (r : Int) (w : World)   (HS : Aside0 (Sep (fps [b2 g258 A261 m262 n263 a264, r1 A261 m262 n263 l260]) w [b2 g258 A261 m262 n263 a264, r1 A261 m262 n263 l260] w)) (H : Aside0 (store_Store_Peek.f l260 a264 a265 = some r)) :
    Calls Try.prog 20 #[.pointer (some ⟨g258, 0, none⟩), .int .i64 a265] w fun e w' => ∃ (A286 : Option Addr) (m287 : Nat) (n288 : Nat), e = .returned (.int .u32 r) ∧ Sep (fps [b2 g258 A261 m262 n263 a264, r1 A261 m262 n263 l260]) w [b2 g258 A286 m287 n288 a264, r1 A286 m287 n288 l260] w' := by
  generalize (fps [b2 g258 A261 m262 n263 a264, r1 A261 m262 n263 l260]) = FF at HS ⊢
  obtain rfl := (row_len (HS.out.at1)).symm
  unfold store_Store_Peek.f at H
  go_enter Try.func20, Try.ntmps20
  go_wp2_with fail
  obtain ⟨t276, HA277, H⟩ := bind_some H
  refine (store_Store_has.calls l260 a264 a265 g258 A261 l260.length n263 t276 _ ⟨HS.out.begin (l := [b2 g258 A261 l260.length n263 a264, r1 A261 l260.length n263 l260]) (rest := [])⟩ HA277).mono ?_
  rintro e_ w278 ⟨rfl, hS⟩
  replace HS : Aside0 (Sep FF w [b2 g258 A261 l260.length n263 a264, r1 A261 l260.length n263 l260] w278) := ⟨HS.out.call (l := [b2 g258 A261 l260.length n263 a264, r1 A261 l260.length n263 l260]) (rest := []) hS⟩
  clear hS
  by_cases c279 : t276 = true
  · have H := if_yes c279 H
    have c279b0 : t276 = true := c279
    have c279b1 : (!t276) = false := by rw [c279b0]; rfl
    try rw [c279b1]
    clear c279
    by_cases c281 : 0 ≤ a265
    · have H := if_yes c281 H
      have c281b0 : decide (0 ≤ a265) = true := decide_eq_true c281
      have c281p : (0 ≤ a265) = True := eq_true c281
      clear c281
      by_cases c282 : a265 < (l260.length : Int)
      · have H := if_yes c282 H
        have c282b0 : decide (a265 < (l260.length : Int)) = true := decide_eq_true c282
        have c282p : (a265 < (l260.length : Int)) = True := eq_true c282
        clear c282
        have hc280 : w278.cell? ⟨g258, 0, none⟩ = some (.slice A261 l260.length n263) := blk_cellv (HS.out.at0) 0 rfl
        obtain ⟨g283, ea⟩ := row_at (HS.out.at1) (by have := (of_decide_eq_true c281b0); have := (of_decide_eq_true c282b0); omega); cases ea
        have hx284 := C_at_int (row_Ci (HS.out.at1)) a265 (of_decide_eq_true c281b0) (of_decide_eq_true c282b0)
        have hx285 : w278.cell? ⟨g283, (a265).toNat, none⟩ = some (.int .u32 (rd l260 a265)) := (row_get 0 (HS.out.at1) a265 (of_decide_eq_true c281b0) (of_decide_eq_true c282b0)).1
        go_wp2_with fail
        clear hc280 hx284 hx285
        go_ret
        rw [← some_eq H]
        exact ⟨(some ⟨g283, 0, none⟩), l260.length, n263, (by first | rfl | (simp [IntKind.wrap_u32]; done)), (((HS.out).front 1 (by simp)).front 1 (by simp)).keep (l := [b2 g258 (some ⟨g283, 0, none⟩) l260.length n263 a264, r1 (some ⟨g283, 0, none⟩) l260.length n263 l260]) (rest := [])⟩
      · have H := if_no c282 H
        have c282b0 : decide (a265 < (l260.length : Int)) = false := decide_eq_false c282
        clear c282
        exact (none_no H).elim
    · have H := if_no c281 H
      have c281b0 : decide (0 ≤ a265) = false := decide_eq_false c281
      clear c281
      exact (none_no H).elim
  · have H := if_no c279 H
    have c279b0 : t276 = false := by simpa using c279
    have c279b1 : (!t276) = true := by rw [c279b0]; rfl
    try rw [c279b1]
    clear c279
    go_wp2_with fail
    go_ret
    rw [← some_eq H]
    exact ⟨A261, l260.length, n263, (by first | rfl | (simp [IntKind.wrap_u32]; done)), (((HS.out).front 1 (by simp)).front 1 (by simp)).keep (l := [b2 g258 A261 l260.length n263 a264, r1 A261 l260.length n263 l260]) (rest := [])⟩

set_option maxHeartbeats 4000000 in
set_option maxRecDepth 100000 in
theorem slices_Clone_uint32_uint32.calls (l346 : List Int) (A347 : Option Addr) (n348 : Nat) (r : List Int) (w : World) (HR349 : Aside0 (Rd (Kd.int .u32) (fps []) w A347 l346.length l346))  (HS : Aside0 (Sep (fps []) w [] w)) (H : Aside0 (slices_Clone_uint32_uint32.f l346 = some r)) :
    Calls Try.prog 72 #[.slice A347 l346.length n348] w fun e w' => ∃ (A351 : Option Addr) (m352 : Nat) (n353 : Nat), e = .returned (.slice A351 m352 n353) ∧ Sep (fps []) w [r1 A351 m352 n353 r] w' := by
  unfold slices_Clone_uint32_uint32.f at H
  by_cases hl : l346.length ≤ 35184372088832
  · have H := if_yes hl H
    have hr := some_eq H
    subst hr
    have qT : ∀ (w : World) (a : Option Addr) (n c n' c' : Nat), (binOp .eql 22 (.slice a n c) (.slice none n' c')).run Try.prog w = .ok (.bool a.isNone) w := fun w a n c n' c' => Lib.run_eql_slice_nil w _ _ a n c n' c' Try.underlying22
    have HC := Aside0.mk HR349.out.c
    rcases A347 with _ | ad
    · have h0 : l346 = [] := by
        rcases Nat.eq_zero_or_pos l346.length with h | h
        · exact List.eq_nil_of_length_eq_zero h
        · obtain ⟨ad, e, _⟩ := HC.out.2.2 h
          cases e
      subst h0
      clear HC HR349 H hl
      go_enter Try.func72, Try.ntmps72
      go_wp2
      go_ret
      exact ⟨_, _, _, rfl, HS.out.nilrow 23 (Value.int .u32)⟩
    · clear HR349 H
      go_enter Try.func72, Try.ntmps72
      go_wp2_with (first | ((with_reducible refine gate_dst (N := 5) rfl ?_); refine slice_on (n := 0) ?hg (N := 5) ?hd (cs := #[]) (t := 23) ?hr ?_; (case hd => rfl); (case hg => rfl); (case hr => first | (go_simp; done) | (go_simp; rfl)); intro g hg w1 hbox hb; have HS_ : Aside0 (Sep (fps []) w [blk g #[] 23] w1) := ⟨HS.out.box hg hbox hb⟩; have HB := Aside0.mk (Kd.C_below HC.out (HS.out.fr.below.trans hb)); clear HS hg hbox hb HC; have HS := HS_; clear HS_) | ((with_reducible refine gate_dst (N := 7) rfl ?_); refine append_event (l1 := []) (l2 := []) rfl (.tmp 5) (.tmp 6) 22 23 (.int .u32 0) 4 rfl Try.underlying22 (by kernel_rfl) rfl (by decide) (Value.int .u32) (fun _ => rfl) (.slice (some ⟨g, 0, none⟩) 0 0) ([] : List Int) l346 ad n348 rfl rfl (C_news HB.out) (Sep.litrow (l1 := []) (l2 := []) (enc := Value.int .u32) (xs := []) (n := 0) HS.out rfl (by decide)) (by simp; omega) ⟨rfl⟩ ?_; intro A1 c1 w2 HS1; have HS_ : Aside0 (Sep (fps []) w [row 23 (Value.int .u32) (.slice A1 l346.length c1) l346] w2) := ⟨HS1⟩; clear HS HS1; have HS := HS_; clear HS_))
      go_ret
      exact ⟨_, _, _, rfl, HS.out⟩
  · exact (none_no (if_no hl H)).elim

set_option maxHeartbeats 30000000 in
set_option maxRecDepth 100000 in
theorem store_Store_Words.calls (l340 : List Int) (a344 : Int) (g338 : Nat) (A341 : Option Addr) (m342 : Nat) (n343 : Nat) (r : List Int) (w : World)   (HS : Aside0 (Sep (fps [b2 g338 A341 m342 n343 a344, r1 A341 m342 n343 l340]) w [b2 g338 A341 m342 n343 a344, r1 A341 m342 n343 l340] w)) (H : Aside0 (store_Store_Words.f l340 a344 = some r)) :
    Calls Try.prog 24 #[.pointer (some ⟨g338, 0, none⟩)] w fun e w' => ∃ (A362 : Option Addr) (m363 : Nat) (n364 : Nat), e = .returned (.slice A362 m363 n364) ∧ Sep (fps [b2 g338 A341 m342 n343 a344, r1 A341 m342 n343 l340]) w [b2 g338 A341 m342 n343 a344, r1 A341 m342 n343 l340, r1 A362 m363 n364 r] w' := by
  generalize (fps [b2 g338 A341 m342 n343 a344, r1 A341 m342 n343 l340]) = FF at HS ⊢
  obtain rfl := (row_len (HS.out.at1)).symm
  unfold store_Store_Words.f at H
  go_enter Try.func24, Try.ntmps24
  have hc345 : w.cell? ⟨g338, 0, none⟩ = some (.slice A341 l340.length n343) := blk_cellv (HS.out.at0) 0 rfl
  go_wp2_with fail
  clear hc345
  obtain ⟨t354, HA355, H⟩ := bind_some H
  refine (slices_Clone_uint32_uint32.calls l340 A341 n343 t354 _ ⟨Rd.ownI (l := []) (rest := [b2 g338 A341 l340.length n343 a344, r1 A341 l340.length n343 l340]) HS.out 1 rfl⟩ ⟨HS.out.begin (l := []) (rest := [b2 g338 A341 l340.length n343 a344, r1 A341 l340.length n343 l340])⟩ HA355).mono ?_
  rintro e_ w356 ⟨A358, m359, n360, rfl, hS⟩
  replace HS : Aside0 (Sep FF w [r1 A358 m359 n360 t354, b2 g338 A341 l340.length n343 a344, r1 A341 l340.length n343 l340] w356) := ⟨HS.out.call (l := []) (rest := [b2 g338 A341 l340.length n343 a344, r1 A341 l340.length n343 l340]) hS⟩
  clear hS
  obtain rfl := (row_len (HS.out.at0)).symm
  go_wp2_with fail
  go_ret
  rw [← some_eq H]
  exact ⟨A358, t354.length, n360, (by first | rfl | (simp [IntKind.wrap_u32]; done)), (((HS.out).front 2 (by simp)).front 2 (by simp)).keep (l := [b2 g338 A341 l340.length n343 a344, r1 A341 l340.length n343 l340, r1 A358 t354.length n360 t354]) (rest := [])⟩

set_option maxHeartbeats 30000000 in
set_option maxRecDepth 100000 in
theorem quitrentref01_Same.calls (k : Nat) (l372 : List Int) (l376 : List Int) (A373 : Option Addr) (n374 : Nat) (A377 : Option Addr) (n378 : Nat) (r : Bool) (w : World) (HR375 : Aside0 (Rd (Kd.int .u32) (fps []) w A373 l372.length l372)) (HR379 : Aside0 (Rd (Kd.int .u32) (fps []) w A377 l376.length l376))  (HS : Aside0 (Sep (fps []) w [] w)) (H : Aside0 (quitrentref01_Same.f k l372 l376 = some r)) :
    Calls Try.prog 23 #[.slice A373 l372.length n374, .slice A377 l376.length n378] w fun e w' => e = .returned (.bool r) ∧ Sep (fps []) w [] w' := by
  unfold quitrentref01_Same.f at H
  go_enter Try.func23, Try.ntmps23
  by_cases c380 : (l372.length : Int) = (l376.length : Int)
  · have H := if_yes c380 H
    have c380b0 : ((l372.length : Int) == (l376.length : Int)) = true := beq_iff_eq.mpr c380
    have c380b1 : ((l372.length : Int) != (l376.length : Int)) = false := bne_eq_false_iff_eq.mpr c380
    clear c380
    go_wp2_with fail
    obtain ⟨o396, AL397, H⟩ := bind_some H
    go_loopg [5] k (fun kq v5 wc => ∃ (x400 : Int), v5 = .int .i64 x400 ∧ Aside0 (quitrentref01_Same.lo0 kq l372 l376 x400 = some o396) ∧ Aside0 (Sep (fps []) w [] wc))
    case atStart => exact ⟨(0), (by first | rfl | (simp [IntKind.wrap_u32]; done)), AL397, ⟨HS.out⟩⟩
    case round =>
      clear AL397 HS
      obtain ⟨x400, rfl, AL397, HS⟩ := hrel
      obtain ⟨w398, rfl⟩ : ∃ x : World, x = wr := ⟨_, rfl⟩
      cases gk with
      | zero => exact absurd AL397.out (by simp [quitrentref01_Same.lo0])
      | succ k399 =>
        have AL0 := AL397.out
        rw [quitrentref01_Same.lo0] at AL0
        clear AL397
        have AL397 := Aside0.mk AL0
        clear AL0
        by_cases c401 : x400 < (l372.length : Int)
        · have AL397 := if_yes c401 AL397
          have c401b0 : decide (x400 < (l372.length : Int)) = true := decide_eq_true c401
          clear c401
          go_wp2_with fail
          refine start_ (n := 9) (S := (fun w' => Kd.C (Kd.int .u32) w' A373 l372.length l372 ∧ Kd.C (Kd.int .u32) w' A377 l376.length l376)) (ds := []) #[false, false, false, false, false, false, false, false, false] (by kernel_rfl) rfl rfl (⟨Rd.read (fun _ _ _ _ h => h) HR375.out (HS.out.drew).fr, Rd.read (fun _ _ _ _ h => h) HR379.out (HS.out.drew).fr⟩) (fun hHeld => ?_)
          have HS_ := Aside0.mk HS.out.drew
          clear HS
          generalize World.drew _ = w403 at HS_ hHeld ⊢
          have HS := HS_
          clear HS_
          refine pure_ (i := 0) (N := some 17) (v := ?_) (a' := ?_) #[true, false, false, false, false, false, false, false, false] rfl rfl (by kernel_rfl) (fun _ _ _ h => h) (Or.inl ⟨by rfl, ?_⟩) ?_ ?_
          rotate_left
          · intro w'
            go_simp
            with_reducible rfl
          rotate_left
          · simp only [Act.put, List.setIfInBounds_toArray, List.set_cons_zero, List.set_cons_succ, i64_w, i32_w]
            rfl
          refine pure_ (i := 1) (N := some 18) (v := ?_) (a' := ?_) #[true, true, false, false, false, false, false, false, false] rfl rfl (by kernel_rfl) (fun _ _ _ h => h) (Or.inl ⟨by rfl, ?_⟩) ?_ ?_
          rotate_left
          · intro w'
            go_simp
            with_reducible rfl
          rotate_left
          · simp only [Act.put, List.setIfInBounds_toArray, List.set_cons_zero, List.set_cons_succ, i64_w, i32_w]
            rfl
          by_cases c404 : 0 ≤ x400
          · have AL397 := if_yes c404 AL397
            have c404b0 : decide (0 ≤ x400) = true := decide_eq_true c404
            have c404p : (0 ≤ x400) = True := eq_true c404
            clear c404
            have ip405 : (x400 < (l372.length : Int)) = True := eq_true (of_decide_eq_true c401b0)
            obtain ⟨ad406, ea, _⟩ := Kd.at_int (Rd.read (fun _ _ _ _ h => h) HR375.out HS.out.fr) x400 (of_decide_eq_true c404b0) (of_decide_eq_true c401b0)
            cases ea
            refine pure_ (i := 2) (N := some 19) (v := ?_) (a' := ?_) #[true, true, true, false, false, false, false, false, false] rfl rfl (by kernel_rfl) (fun _ _ _ h => h) (Or.inl ⟨by rfl, ?_⟩) ?_ ?_
            rotate_left
            · intro w'
              go_simp
              with_reducible rfl
            rotate_left
            · simp only [Act.put, List.setIfInBounds_toArray, List.set_cons_zero, List.set_cons_succ, i64_w, i32_w]
              rfl
            refine pure_ (i := 4) (N := some 21) (v := ?_) (a' := ?_) #[true, true, true, false, true, false, false, false, false] rfl rfl (by kernel_rfl) (fun _ _ _ h => h) (Or.inl ⟨by rfl, ?_⟩) ?_ ?_
            rotate_left
            · intro w'
              go_simp
              with_reducible rfl
            rotate_left
            · simp only [Act.put, List.setIfInBounds_toArray, List.set_cons_zero, List.set_cons_succ, i64_w, i32_w]
              rfl
            refine pure_ (i := 5) (N := some 22) (v := ?_) (a' := ?_) #[true, true, true, false, true, true, false, false, false] rfl rfl (by kernel_rfl) (fun _ _ _ h => h) (Or.inl ⟨by rfl, ?_⟩) ?_ ?_
            rotate_left
            · intro w'
              go_simp
              with_reducible rfl
            rotate_left
            · simp only [Act.put, List.setIfInBounds_toArray, List.set_cons_zero, List.set_cons_succ, i64_w, i32_w]
              rfl
            by_cases c407 : x400 < (l376.length : Int)
            · have AL397 := if_yes c407 AL397
              have c407b0 : decide (x400 < (l376.length : Int)) = true := decide_eq_true c407
              have c407p : (x400 < (l376.length : Int)) = True := eq_true c407
              clear c407
              obtain ⟨ad408, ea, _⟩ := Kd.at_int (Rd.read (fun _ _ _ _ h => h) HR379.out HS.out.fr) x400 (of_decide_eq_true c404b0) (of_decide_eq_true c407b0)
              cases ea
              refine pure_ (i := 6) (N := some 23) (v := ?_) (a' := ?_) #[true, true, true, false, true, true, true, false, false] rfl rfl (by kernel_rfl) (fun _ _ _ h => h) (Or.inl ⟨by rfl, ?_⟩) ?_ ?_
              rotate_left
              · intro w'
                go_simp
                with_reducible rfl
              rotate_left
              · simp only [Act.put, List.setIfInBounds_toArray, List.set_cons_zero, List.set_cons_succ, i64_w, i32_w]
                rfl
              refine take_ (i := 3) (N := some 20) (v := ?_) (a' := ?_) #[true, true, true, true, true, true, true, false, false] rfl rfl (by kernel_rfl) (fun _ _ _ h => h) (Or.inl ⟨by rfl, ?_⟩) hHeld ?_ ?_
              rotate_left
              · rintro w' hS'
                obtain ⟨s0, s1⟩ := hS'
                have hx := C_at_int s0 x400 (of_decide_eq_true c404b0) (of_decide_eq_true c401b0)
                go_simp
                with_reducible rfl
              rotate_left
              · simp only [Act.put, List.setIfInBounds_toArray, List.set_cons_zero, List.set_cons_succ, i64_w, i32_w]
                rfl
              refine take_ (i := 7) (N := some 24) (v := ?_) (a' := ?_) #[true, true, true, true, true, true, true, true, false] rfl rfl (by kernel_rfl) (fun _ _ _ h => h) (Or.inl ⟨by rfl, ?_⟩) hHeld ?_ ?_
              rotate_left
              · rintro w' hS'
                obtain ⟨s0, s1⟩ := hS'
                have hx := C_at_int s1 x400 (of_decide_eq_true c404b0) (of_decide_eq_true c407b0)
                go_simp
                with_reducible rfl
              rotate_left
              · simp only [Act.put, List.setIfInBounds_toArray, List.set_cons_zero, List.set_cons_succ, i64_w, i32_w]
                rfl
              refine pure_ (i := 8) (N := some 25) (v := ?_) (a' := ?_) #[true, true, true, true, true, true, true, true, true] rfl rfl (by kernel_rfl) (fun _ _ _ h => h) (Or.inl ⟨by rfl, ?_⟩) ?_ ?_
              rotate_left
              · intro w'
                go_simp
                with_reducible rfl
              rotate_left
              · simp only [Act.put, List.setIfInBounds_toArray, List.set_cons_zero, List.set_cons_succ, i64_w, i32_w]
                rfl
              refine done_ (by kernel_rfl) ?_
              by_cases c409 : (rd l372 x400) = (rd l376 x400)
              · have AL397 := if_yes c409 AL397
                have c409b0 : ((rd l372 x400) == (rd l376 x400)) = true := beq_iff_eq.mpr c409
                have c409b1 : ((rd l372 x400) != (rd l376 x400)) = false := bne_eq_false_iff_eq.mpr c409
                clear c409
                go_wp2_with fail
                go_roundg k399
                case measure => exact Nat.lt_succ_self _
                case rel => exact ⟨(wrap64 (x400 + 1)), (by first | rfl | (simp [IntKind.wrap_u32]; done)), Aside0.mk AL397.out, ⟨(HS.out).keep (l := []) (rest := [])⟩⟩
              · have AL397 := if_no c409 AL397
                have c409b0 : ((rd l372 x400) == (rd l376 x400)) = false := beq_eq_false_iff_ne.mpr c409
                have c409b1 : ((rd l372 x400) != (rd l376 x400)) = true := bne_iff_ne.mpr c409
                clear c409
                go_wp2_with fail
                have ho := some_eq AL397
                subst ho
                have H := lp_ret H
                go_ret
                rw [← some_eq H]
                exact ⟨(by first | rfl | (simp [IntKind.wrap_u32]; done)), (HS.out).keep (l := []) (rest := [])⟩
            · have AL397 := if_no c407 AL397
              have c407b0 : decide (x400 < (l376.length : Int)) = false := decide_eq_false c407
              clear c407
              exact (none_no AL397).elim
          · have AL397 := if_no c404 AL397
            have c404b0 : decide (0 ≤ x400) = false := decide_eq_false c404
            clear c404
            exact (none_no AL397).elim
        · have AL397 := if_no c401 AL397
          have c401b0 : decide (x400 < (l372.length : Int)) = false := decide_eq_false c401
          clear c401
          have ho := some_eq AL397
          subst ho
          clear AL397
          have H := lp_out H
          go_wp2_with fail
          go_ret
          rw [← some_eq H]
          exact ⟨(by first | rfl | (simp [IntKind.wrap_u32]; done)), (HS.out).keep (l := []) (rest := [])⟩
  · have H := if_no c380 H
    have c380b0 : ((l372.length : Int) == (l376.length : Int)) = false := beq_eq_false_iff_ne.mpr c380
    have c380b1 : ((l372.length : Int) != (l376.length : Int)) = true := bne_iff_ne.mpr c380
    clear c380
    go_wp2_with fail
    go_ret
    rw [← some_eq H]
    exact ⟨(by first | rfl | (simp [IntKind.wrap_u32]; done)), (HS.out).keep (l := []) (rest := [])⟩

set_option maxHeartbeats 30000000 in
set_option maxRecDepth 100000 in
theorem quitrentlaw04_StoreKeeps.calls (k : Nat) (l1 : List Int) (a5 : Int) (a6 : Int) (a7 : Int) (A2 : Option Addr) (n3 : Nat) (r : Bool) (w : World) (HR4 : Aside0 (Rd (Kd.int .u32) (fps []) w A2 l1.length l1))  (HS : Aside0 (Sep (fps []) w [] w)) (H : Aside0 (quitrentlaw04_StoreKeeps.f k l1 a5 a6 a7 = some r)) :
    Calls Try.prog 3 #[.slice A2 l1.length n3, .int .i64 a5, .int .i64 a6, .int .u32 a7] w fun e w' => e = .returned (.bool r) ∧ Sep (fps []) w [] w' := by
  unfold quitrentlaw04_StoreKeeps.f at H
  go_enter Try.func3, Try.ntmps3
  go_wp2_with fail
  obtain ⟨t39, HA40, H⟩ := bind_some H
  rcases t39 with t41 | t42
  · have H := sum_l H
    refine (store_New.calls (l1.length : Int) (.inl t41) _ ⟨HS.out.begin (l := []) (rest := [])⟩ HA40).mono ?_
    rintro e_ w43 ⟨rfl, hS⟩
    replace HS : Aside0 (Sep (fps []) w [] w43) := ⟨HS.out.call (l := []) (rest := []) hS⟩
    clear hS
    by_cases c44 : (l1.length : Int) > 1000
    · have H := if_yes c44 H
      have c44b0 : decide (1000 < (l1.length : Int)) = true := decide_eq_true c44
      have c44b1 : decide (1000 < l1.length) = true := decide_eq_true (by omega)
      clear c44
      go_wp2_with fail
      obtain ⟨t218, HA219, H⟩ := bind_some H
      refine (quitrentlaw04_begun.calls t218 _ ⟨HS.out.begin (l := []) (rest := [])⟩ HA219).mono ?_
      rintro e_ w220 ⟨rfl, hS⟩
      replace HS : Aside0 (Sep (fps []) w [] w220) := ⟨HS.out.call (l := []) (rest := []) hS⟩
      clear hS
      go_wp2_with fail
      go_ret
      rw [← some_eq H]
      exact ⟨(by first | rfl | (simp [IntKind.wrap_u32]; done)), (HS.out).keep (l := []) (rest := [])⟩
    · have H := if_no c44 H
      have c44b0 : decide (1000 < (l1.length : Int)) = false := decide_eq_false c44
      have c44b1 : decide (1000 < l1.length) = false := decide_eq_false (by omega)
      clear c44
      go_wp2_with fail
      go_ret
      rw [← some_eq H]
      exact ⟨(by first | rfl | (simp [IntKind.wrap_u32]; done)), (HS.out).keep (l := []) (rest := [])⟩
  · have H := sum_r H
    refine (store_New.calls (l1.length : Int) (.inr t42) _ ⟨HS.out.begin (l := []) (rest := [])⟩ HA40).mono ?_
    rintro e_ w221 ⟨g224, A225, m226, n227, rfl, hS⟩
    replace HS : Aside0 (Sep (fps []) w [b2 g224 A225 m226 n227 0, r1 A225 m226 n227 t42] w221) := ⟨HS.out.call (l := []) (rest := []) hS⟩
    clear hS
    obtain rfl := (row_len (HS.out.at1)).symm
    by_cases c228 : (l1.length : Int) > 1000
    · have H := if_yes c228 H
      have c228b0 : decide (1000 < (l1.length : Int)) = true := decide_eq_true c228
      have c228b1 : decide (1000 < l1.length) = true := decide_eq_true (by omega)
      clear c228
      go_wp2_with fail
      obtain ⟨t218, HA229, H⟩ := bind_some H
      refine (quitrentlaw04_begun.calls t218 _ ⟨HS.out.begin (l := []) (rest := [b2 g224 A225 t42.length n227 0, r1 A225 t42.length n227 t42])⟩ HA229).mono ?_
      rintro e_ w230 ⟨rfl, hS⟩
      replace HS : Aside0 (Sep (fps []) w [b2 g224 A225 t42.length n227 0, r1 A225 t42.length n227 t42] w230) := ⟨HS.out.call (l := []) (rest := [b2 g224 A225 t42.length n227 0, r1 A225 t42.length n227 t42]) hS⟩
      clear hS
      replace HS : Aside0 (Sep (fps []) w [] w230) := ⟨HS.out.sub (.cons _ (.cons _ .slnil))⟩
      go_wp2_with fail
      go_ret
      rw [← some_eq H]
      exact ⟨(by first | rfl | (simp [IntKind.wrap_u32]; done)), (HS.out).keep (l := []) (rest := [])⟩
    · have H := if_no c228 H
      have c228b0 : decide (1000 < (l1.length : Int)) = false := decide_eq_false c228
      have c228b1 : decide (1000 < l1.length) = false := decide_eq_false (by omega)
      clear c228
      go_wp2_with fail
      obtain ⟨t253, HA254, H⟩ := bind_some H
      refine (store_Store_Load.calls t42 0 l1 g224 A225 t42.length n227 A2 n3 t253 _ ⟨Rd.pass (l := [b2 g224 A225 t42.length n227 0, r1 A225 t42.length n227 t42]) (rest := []) (by decide) (fun _ _ _ _ h => h) HR4.out HS.out⟩ ⟨HS.out.begin (l := [b2 g224 A225 t42.length n227 0, r1 A225 t42.length n227 t42]) (rest := [])⟩ HA254).mono ?_
      rintro e_ w255 ⟨rfl, hS⟩
      replace HS : Aside0 (Sep (fps []) w [b2 g224 A225 t42.length n227 0, r1 A225 t42.length n227 t253.2] w255) := ⟨HS.out.call (l := [b2 g224 A225 t42.length n227 0, r1 A225 t42.length n227 t42]) (rest := []) hS⟩
      clear hS
      by_cases c256 : t253.1 = true
      · have H := if_yes c256 H
        have c256b0 : t253.1 = true := c256
        have c256b1 : (!t253.1) = false := by rw [c256b0]; rfl
        try rw [c256b1]
        clear c256
        go_wp2_with fail
        obtain ⟨t289, HA290, H⟩ := bind_some H
        refine (store_Store_Peek.calls t253.2 0 a6 g224 A225 t42.length n227 t289 _ ⟨HS.out.begin (l := [b2 g224 A225 t42.length n227 0, r1 A225 t42.length n227 t253.2]) (rest := [])⟩ HA290).mono ?_
        rintro e_ w291 ⟨A292, m293, n294, rfl, hS⟩
        replace HS : Aside0 (Sep (fps []) w [b2 g224 A292 m293 n294 0, r1 A292 m293 n294 t253.2] w291) := ⟨HS.out.call (l := [b2 g224 A225 t42.length n227 0, r1 A225 t42.length n227 t253.2]) (rest := []) hS⟩
        clear hS
        obtain rfl := (row_len (HS.out.at1)).symm
        go_wp2_with fail
        obtain ⟨t295, HA296, H⟩ := bind_some H
        refine (store_Store_Meter.calls t253.2 0 g224 A292 ((t253.2).length) n294 t295 _ ⟨HS.out.begin (l := [b2 g224 A292 ((t253.2).length) n294 0, r1 A292 ((t253.2).length) n294 t253.2]) (rest := [])⟩ HA296).mono ?_
        rintro e_ w297 ⟨rfl, hS⟩
        replace HS : Aside0 (Sep (fps []) w [b2 g224 A292 ((t253.2).length) n294 0, r1 A292 ((t253.2).length) n294 t253.2] w297) := ⟨HS.out.call (l := [b2 g224 A292 ((t253.2).length) n294 0, r1 A292 ((t253.2).length) n294 t253.2]) (rest := []) hS⟩
        clear hS
        go_wp2_with fail
        obtain ⟨t298, HA299, H⟩ := bind_some H
        refine (store_Store_Put.calls t253.2 0 a5 a7 g224 A292 ((t253.2).length) n294 t298 _ ⟨HS.out.begin (l := [b2 g224 A292 ((t253.2).length) n294 0, r1 A292 ((t253.2).length) n294 t253.2]) (rest := [])⟩ HA299).mono ?_
        rintro e_ w300 ⟨A301, m302, n303, rfl, hS⟩
        replace HS : Aside0 (Sep (fps []) w [b2 g224 A301 m302 n303 t298.2.1, r1 A301 m302 n303 t298.2.2] w300) := ⟨HS.out.call (l := [b2 g224 A292 ((t253.2).length) n294 0, r1 A292 ((t253.2).length) n294 t253.2]) (rest := []) hS⟩
        clear hS
        obtain rfl := (row_len (HS.out.at1)).symm
        by_cases c304 : t298.1 = true
        · have H := if_yes c304 H
          have c304b0 : t298.1 = true := c304
          have c304b1 : (!t298.1) = false := by rw [c304b0]; rfl
          try rw [c304b1]
          clear c304
          go_wp2_with fail
          obtain ⟨t305, HA306, H⟩ := bind_some H
          refine (store_Store_Get.calls t298.2.2 t298.2.1 a5 g224 A301 ((t298.2.2).length) n303 t305 _ ⟨HS.out.begin (l := [b2 g224 A301 ((t298.2.2).length) n303 t298.2.1, r1 A301 ((t298.2.2).length) n303 t298.2.2]) (rest := [])⟩ HA306).mono ?_
          rintro e_ w307 ⟨A308, m309, n310, rfl, hS⟩
          replace HS : Aside0 (Sep (fps []) w [b2 g224 A308 m309 n310 t305.2, r1 A308 m309 n310 t298.2.2] w307) := ⟨HS.out.call (l := [b2 g224 A301 ((t298.2.2).length) n303 t298.2.1, r1 A301 ((t298.2.2).length) n303 t298.2.2]) (rest := []) hS⟩
          clear hS
          obtain rfl := (row_len (HS.out.at1)).symm
          by_cases c311 : t305.1 = a7
          · have H := if_yes c311 H
            have c311b0 : (t305.1 == a7) = true := beq_iff_eq.mpr c311
            have c311b1 : (t305.1 != a7) = false := bne_eq_false_iff_eq.mpr c311
            clear c311
            by_cases c312 : a5 = a6
            · have H := if_yes c312 H
              have c312b0 : (a5 == a6) = true := beq_iff_eq.mpr c312
              have c312b1 : (a5 != a6) = false := bne_eq_false_iff_eq.mpr c312
              clear c312
              go_wp2_with fail
              obtain ⟨t313, HA314, H⟩ := bind_some H
              refine (store_Store_Meter.calls t298.2.2 t305.2 g224 A308 ((t298.2.2).length) n310 t313 _ ⟨HS.out.begin (l := [b2 g224 A308 ((t298.2.2).length) n310 t305.2, r1 A308 ((t298.2.2).length) n310 t298.2.2]) (rest := [])⟩ HA314).mono ?_
              rintro e_ w315 ⟨rfl, hS⟩
              replace HS : Aside0 (Sep (fps []) w [b2 g224 A308 ((t298.2.2).length) n310 t305.2, r1 A308 ((t298.2.2).length) n310 t298.2.2] w315) := ⟨HS.out.call (l := [b2 g224 A308 ((t298.2.2).length) n310 t305.2, r1 A308 ((t298.2.2).length) n310 t298.2.2]) (rest := []) hS⟩
              clear hS
              by_cases c316 : t313 = (IntKind.u64.wrap (t295 + 2))
              · have H := if_yes c316 H
                have c316b0 : (t313 == (IntKind.u64.wrap (t295 + 2))) = true := beq_iff_eq.mpr c316
                have c316b1 : (t313 != (IntKind.u64.wrap (t295 + 2))) = false := bne_eq_false_iff_eq.mpr c316
                clear c316
                go_wp2_with fail
                obtain ⟨t317, HA318, H⟩ := bind_some H
                refine (quitrentlaw04_begun.calls t317 _ ⟨HS.out.begin (l := []) (rest := [b2 g224 A308 ((t298.2.2).length) n310 t305.2, r1 A308 ((t298.2.2).length) n310 t298.2.2])⟩ HA318).mono ?_
                rintro e_ w319 ⟨rfl, hS⟩
                replace HS : Aside0 (Sep (fps []) w [b2 g224 A308 ((t298.2.2).length) n310 t305.2, r1 A308 ((t298.2.2).length) n310 t298.2.2] w319) := ⟨HS.out.call (l := []) (rest := [b2 g224 A308 ((t298.2.2).length) n310 t305.2, r1 A308 ((t298.2.2).length) n310 t298.2.2]) hS⟩
                clear hS
                replace HS : Aside0 (Sep (fps []) w [] w319) := ⟨HS.out.sub (.cons _ (.cons _ .slnil))⟩
                go_wp2_with fail
                go_ret
                rw [← some_eq H]
                exact ⟨(by first | rfl | (simp [IntKind.wrap_u32]; done)), (HS.out).keep (l := []) (rest := [])⟩
              · have H := if_no c316 H
                have c316b0 : (t313 == (IntKind.u64.wrap (t295 + 2))) = false := beq_eq_false_iff_ne.mpr c316
                have c316b1 : (t313 != (IntKind.u64.wrap (t295 + 2))) = true := bne_iff_ne.mpr c316
                clear c316
                replace HS : Aside0 (Sep (fps []) w [] w315) := ⟨HS.out.sub (.cons _ (.cons _ .slnil))⟩
                go_wp2_with fail
                go_ret
                rw [← some_eq H]
                exact ⟨(by first | rfl | (simp [IntKind.wrap_u32]; done)), (HS.out).keep (l := []) (rest := [])⟩
            · have H := if_no c312 H
              have c312b0 : (a5 == a6) = false := beq_eq_false_iff_ne.mpr c312
              have c312b1 : (a5 != a6) = true := bne_iff_ne.mpr c312
              clear c312
              go_wp2_with fail
              obtain ⟨t320, HA321, H⟩ := bind_some H
              refine (store_Store_Peek.calls t298.2.2 t305.2 a6 g224 A308 ((t298.2.2).length) n310 t320 _ ⟨HS.out.begin (l := [b2 g224 A308 ((t298.2.2).length) n310 t305.2, r1 A308 ((t298.2.2).length) n310 t298.2.2]) (rest := [])⟩ HA321).mono ?_
              rintro e_ w322 ⟨A323, m324, n325, rfl, hS⟩
              replace HS : Aside0 (Sep (fps []) w [b2 g224 A323 m324 n325 t305.2, r1 A323 m324 n325 t298.2.2] w322) := ⟨HS.out.call (l := [b2 g224 A308 ((t298.2.2).length) n310 t305.2, r1 A308 ((t298.2.2).length) n310 t298.2.2]) (rest := []) hS⟩
              clear hS
              obtain rfl := (row_len (HS.out.at1)).symm
              by_cases c326 : t320 = t289
              · have H := if_yes c326 H
                have c326b0 : (t320 == t289) = true := beq_iff_eq.mpr c326
                have c326b1 : (t320 != t289) = false := bne_eq_false_iff_eq.mpr c326
                clear c326
                go_wp2_with fail
                obtain ⟨t313, HA327, H⟩ := bind_some H
                refine (store_Store_Meter.calls t298.2.2 t305.2 g224 A323 ((t298.2.2).length) n325 t313 _ ⟨HS.out.begin (l := [b2 g224 A323 ((t298.2.2).length) n325 t305.2, r1 A323 ((t298.2.2).length) n325 t298.2.2]) (rest := [])⟩ HA327).mono ?_
                rintro e_ w328 ⟨rfl, hS⟩
                replace HS : Aside0 (Sep (fps []) w [b2 g224 A323 ((t298.2.2).length) n325 t305.2, r1 A323 ((t298.2.2).length) n325 t298.2.2] w328) := ⟨HS.out.call (l := [b2 g224 A323 ((t298.2.2).length) n325 t305.2, r1 A323 ((t298.2.2).length) n325 t298.2.2]) (rest := []) hS⟩
                clear hS
                by_cases c329 : t313 = (IntKind.u64.wrap (t295 + 2))
                · have H := if_yes c329 H
                  have c329b0 : (t313 == (IntKind.u64.wrap (t295 + 2))) = true := beq_iff_eq.mpr c329
                  have c329b1 : (t313 != (IntKind.u64.wrap (t295 + 2))) = false := bne_eq_false_iff_eq.mpr c329
                  clear c329
                  go_wp2_with fail
                  obtain ⟨t317, HA330, H⟩ := bind_some H
                  refine (quitrentlaw04_begun.calls t317 _ ⟨HS.out.begin (l := []) (rest := [b2 g224 A323 ((t298.2.2).length) n325 t305.2, r1 A323 ((t298.2.2).length) n325 t298.2.2])⟩ HA330).mono ?_
                  rintro e_ w331 ⟨rfl, hS⟩
                  replace HS : Aside0 (Sep (fps []) w [b2 g224 A323 ((t298.2.2).length) n325 t305.2, r1 A323 ((t298.2.2).length) n325 t298.2.2] w331) := ⟨HS.out.call (l := []) (rest := [b2 g224 A323 ((t298.2.2).length) n325 t305.2, r1 A323 ((t298.2.2).length) n325 t298.2.2]) hS⟩
                  clear hS
                  replace HS : Aside0 (Sep (fps []) w [] w331) := ⟨HS.out.sub (.cons _ (.cons _ .slnil))⟩
                  go_wp2_with fail
                  go_ret
                  rw [← some_eq H]
                  exact ⟨(by first | rfl | (simp [IntKind.wrap_u32]; done)), (HS.out).keep (l := []) (rest := [])⟩
                · have H := if_no c329 H
                  have c329b0 : (t313 == (IntKind.u64.wrap (t295 + 2))) = false := beq_eq_false_iff_ne.mpr c329
                  have c329b1 : (t313 != (IntKind.u64.wrap (t295 + 2))) = true := bne_iff_ne.mpr c329
                  clear c329
                  replace HS : Aside0 (Sep (fps []) w [] w328) := ⟨HS.out.sub (.cons _ (.cons _ .slnil))⟩
                  go_wp2_with fail
                  go_ret
                  rw [← some_eq H]
                  exact ⟨(by first | rfl | (simp [IntKind.wrap_u32]; done)), (HS.out).keep (l := []) (rest := [])⟩
              · have H := if_no c326 H
                have c326b0 : (t320 == t289) = false := beq_eq_false_iff_ne.mpr c326
                have c326b1 : (t320 != t289) = true := bne_iff_ne.mpr c326
                clear c326
                replace HS : Aside0 (Sep (fps []) w [] w322) := ⟨HS.out.sub (.cons _ (.cons _ .slnil))⟩
                go_wp2_with fail
                go_ret
                rw [← some_eq H]
                exact ⟨(by first | rfl | (simp [IntKind.wrap_u32]; done)), (HS.out).keep (l := []) (rest := [])⟩
          · have H := if_no c311 H
            have c311b0 : (t305.1 == a7) = false := beq_eq_false_iff_ne.mpr c311
            have c311b1 : (t305.1 != a7) = true := bne_iff_ne.mpr c311
            clear c311
            replace HS : Aside0 (Sep (fps []) w [] w307) := ⟨HS.out.sub (.cons _ (.cons _ .slnil))⟩
            go_wp2_with fail
            go_ret
            rw [← some_eq H]
            exact ⟨(by first | rfl | (simp [IntKind.wrap_u32]; done)), (HS.out).keep (l := []) (rest := [])⟩
        · have H := if_no c304 H
          have c304b0 : t298.1 = false := by simpa using c304
          have c304b1 : (!t298.1) = true := by rw [c304b0]; rfl
          try rw [c304b1]
          clear c304
          by_cases c332 : a5 < 0
          · have H := if_yes c332 H
            have c332b0 : decide (a5 < 0) = true := decide_eq_true c332
            clear c332
            go_wp2_with fail
            obtain ⟨t333, HA334, H⟩ := bind_some H
            refine (store_Store_Meter.calls t298.2.2 t298.2.1 g224 A301 ((t298.2.2).length) n303 t333 _ ⟨HS.out.begin (l := [b2 g224 A301 ((t298.2.2).length) n303 t298.2.1, r1 A301 ((t298.2.2).length) n303 t298.2.2]) (rest := [])⟩ HA334).mono ?_
            rintro e_ w335 ⟨rfl, hS⟩
            replace HS : Aside0 (Sep (fps []) w [b2 g224 A301 ((t298.2.2).length) n303 t298.2.1, r1 A301 ((t298.2.2).length) n303 t298.2.2] w335) := ⟨HS.out.call (l := [b2 g224 A301 ((t298.2.2).length) n303 t298.2.1, r1 A301 ((t298.2.2).length) n303 t298.2.2]) (rest := []) hS⟩
            clear hS
            by_cases c336 : t333 = t295
            · have H := if_yes c336 H
              have c336b0 : (t333 == t295) = true := beq_iff_eq.mpr c336
              have c336b1 : (t333 != t295) = false := bne_eq_false_iff_eq.mpr c336
              clear c336
              go_wp2_with fail
              obtain ⟨t365, HA366, H⟩ := bind_some H
              refine (store_Store_Words.calls t298.2.2 t298.2.1 g224 A301 ((t298.2.2).length) n303 t365 _ ⟨HS.out.begin (l := [b2 g224 A301 ((t298.2.2).length) n303 t298.2.1, r1 A301 ((t298.2.2).length) n303 t298.2.2]) (rest := [])⟩ HA366).mono ?_
              rintro e_ w367 ⟨A369, m370, n371, rfl, hS⟩
              replace HS : Aside0 (Sep (fps []) w [b2 g224 A301 ((t298.2.2).length) n303 t298.2.1, r1 A301 ((t298.2.2).length) n303 t298.2.2, r1 A369 m370 n371 t365] w367) := ⟨HS.out.call (l := [b2 g224 A301 ((t298.2.2).length) n303 t298.2.1, r1 A301 ((t298.2.2).length) n303 t298.2.2]) (rest := []) hS⟩
              clear hS
              obtain rfl := (row_len (HS.out.at2)).symm
              go_wp2_with fail
              obtain ⟨t411, HA412, H⟩ := bind_some H
              refine (quitrentref01_Same.calls _ t365 l1 A369 n371 A2 n3 t411 _ ⟨Rd.ownI (l := []) (rest := [b2 g224 A301 ((t298.2.2).length) n303 t298.2.1, r1 A301 ((t298.2.2).length) n303 t298.2.2, r1 A369 t365.length n371 t365]) HS.out 2 rfl⟩ ⟨Rd.pass (l := []) (rest := [b2 g224 A301 ((t298.2.2).length) n303 t298.2.1, r1 A301 ((t298.2.2).length) n303 t298.2.2, r1 A369 t365.length n371 t365]) (by decide) (fun _ _ _ _ h => h) HR4.out HS.out⟩ ⟨HS.out.begin (l := []) (rest := [b2 g224 A301 ((t298.2.2).length) n303 t298.2.1, r1 A301 ((t298.2.2).length) n303 t298.2.2, r1 A369 t365.length n371 t365])⟩ HA412).mono ?_
              rintro e_ w413 ⟨rfl, hS⟩
              replace HS : Aside0 (Sep (fps []) w [b2 g224 A301 ((t298.2.2).length) n303 t298.2.1, r1 A301 ((t298.2.2).length) n303 t298.2.2, r1 A369 t365.length n371 t365] w413) := ⟨HS.out.call (l := []) (rest := [b2 g224 A301 ((t298.2.2).length) n303 t298.2.1, r1 A301 ((t298.2.2).length) n303 t298.2.2, r1 A369 t365.length n371 t365]) hS⟩
              clear hS
              by_cases c414 : t411 = true
              · have H := if_yes c414 H
                have c414b0 : t411 = true := c414
                have c414b1 : (!t411) = false := by rw [c414b0]; rfl
                clear c414
                go_wp2_with fail
                obtain ⟨t415, HA416, H⟩ := bind_some H
                refine (quitrentlaw04_begun.calls t415 _ ⟨HS.out.begin (l := []) (rest := [b2 g224 A301 ((t298.2.2).length) n303 t298.2.1, r1 A301 ((t298.2.2).length) n303 t298.2.2, r1 A369 t365.length n371 t365])⟩ HA416).mono ?_
                rintro e_ w417 ⟨rfl, hS⟩
                replace HS : Aside0 (Sep (fps []) w [b2 g224 A301 ((t298.2.2).length) n303 t298.2.1, r1 A301 ((t298.2.2).length) n303 t298.2.2, r1 A369 t365.length n371 t365] w417) := ⟨HS.out.call (l := []) (rest := [b2 g224 A301 ((t298.2.2).length) n303 t298.2.1, r1 A301 ((t298.2.2).length) n303 t298.2.2, r1 A369 t365.length n371 t365]) hS⟩
                clear hS
                replace HS : Aside0 (Sep (fps []) w [] w417) := ⟨HS.out.sub (.cons _ (.cons _ (.cons _ .slnil)))⟩
                go_wp2_with fail
                go_ret
                rw [← some_eq H]
                exact ⟨(by first | rfl | (simp [IntKind.wrap_u32]; done)), (HS.out).keep (l := []) (rest := [])⟩
              · have H := if_no c414 H
                have c414b0 : t411 = false := by simpa using c414
                have c414b1 : (!t411) = true := by rw [c414b0]; rfl
                clear c414
                replace HS : Aside0 (Sep (fps []) w [] w413) := ⟨HS.out.sub (.cons _ (.cons _ (.cons _ .slnil)))⟩
                go_wp2_with fail
                go_ret
                rw [← some_eq H]
                exact ⟨(by first | rfl | (simp [IntKind.wrap_u32]; done)), (HS.out).keep (l := []) (rest := [])⟩
            · have H := if_no c336 H
              have c336b0 : (t333 == t295) = false := beq_eq_false_iff_ne.mpr c336
              have c336b1 : (t333 != t295) = true := bne_iff_ne.mpr c336
              clear c336
              replace HS : Aside0 (Sep (fps []) w [] w335) := ⟨HS.out.sub (.cons _ (.cons _ .slnil))⟩
              go_wp2_with fail
              go_ret
              rw [← some_eq H]
              exact ⟨(by first | rfl | (simp [IntKind.wrap_u32]; done)), (HS.out).keep (l := []) (rest := [])⟩
          · have H := if_no c332 H
            have c332b0 : decide (a5 < 0) = false := decide_eq_false c332
            clear c332
            by_cases c418 : a5 ≥ (l1.length : Int)
            · have H := if_yes c418 H
              have c418b0 : decide ((l1.length : Int) ≤ a5) = true := decide_eq_true c418
              clear c418
              go_wp2_with fail
              obtain ⟨t333, HA419, H⟩ := bind_some H
              refine (store_Store_Meter.calls t298.2.2 t298.2.1 g224 A301 ((t298.2.2).length) n303 t333 _ ⟨HS.out.begin (l := [b2 g224 A301 ((t298.2.2).length) n303 t298.2.1, r1 A301 ((t298.2.2).length) n303 t298.2.2]) (rest := [])⟩ HA419).mono ?_
              rintro e_ w420 ⟨rfl, hS⟩
              replace HS : Aside0 (Sep (fps []) w [b2 g224 A301 ((t298.2.2).length) n303 t298.2.1, r1 A301 ((t298.2.2).length) n303 t298.2.2] w420) := ⟨HS.out.call (l := [b2 g224 A301 ((t298.2.2).length) n303 t298.2.1, r1 A301 ((t298.2.2).length) n303 t298.2.2]) (rest := []) hS⟩
              clear hS
              by_cases c421 : t333 = t295
              · have H := if_yes c421 H
                have c421b0 : (t333 == t295) = true := beq_iff_eq.mpr c421
                have c421b1 : (t333 != t295) = false := bne_eq_false_iff_eq.mpr c421
                clear c421
                go_wp2_with fail
                obtain ⟨t365, HA422, H⟩ := bind_some H
                refine (store_Store_Words.calls t298.2.2 t298.2.1 g224 A301 ((t298.2.2).length) n303 t365 _ ⟨HS.out.begin (l := [b2 g224 A301 ((t298.2.2).length) n303 t298.2.1, r1 A301 ((t298.2.2).length) n303 t298.2.2]) (rest := [])⟩ HA422).mono ?_
                rintro e_ w423 ⟨A425, m426, n427, rfl, hS⟩
                replace HS : Aside0 (Sep (fps []) w [b2 g224 A301 ((t298.2.2).length) n303 t298.2.1, r1 A301 ((t298.2.2).length) n303 t298.2.2, r1 A425 m426 n427 t365] w423) := ⟨HS.out.call (l := [b2 g224 A301 ((t298.2.2).length) n303 t298.2.1, r1 A301 ((t298.2.2).length) n303 t298.2.2]) (rest := []) hS⟩
                clear hS
                obtain rfl := (row_len (HS.out.at2)).symm
                go_wp2_with fail
                obtain ⟨t411, HA428, H⟩ := bind_some H
                refine (quitrentref01_Same.calls _ t365 l1 A425 n427 A2 n3 t411 _ ⟨Rd.ownI (l := []) (rest := [b2 g224 A301 ((t298.2.2).length) n303 t298.2.1, r1 A301 ((t298.2.2).length) n303 t298.2.2, r1 A425 t365.length n427 t365]) HS.out 2 rfl⟩ ⟨Rd.pass (l := []) (rest := [b2 g224 A301 ((t298.2.2).length) n303 t298.2.1, r1 A301 ((t298.2.2).length) n303 t298.2.2, r1 A425 t365.length n427 t365]) (by decide) (fun _ _ _ _ h => h) HR4.out HS.out⟩ ⟨HS.out.begin (l := []) (rest := [b2 g224 A301 ((t298.2.2).length) n303 t298.2.1, r1 A301 ((t298.2.2).length) n303 t298.2.2, r1 A425 t365.length n427 t365])⟩ HA428).mono ?_
                rintro e_ w429 ⟨rfl, hS⟩
                replace HS : Aside0 (Sep (fps []) w [b2 g224 A301 ((t298.2.2).length) n303 t298.2.1, r1 A301 ((t298.2.2).length) n303 t298.2.2, r1 A425 t365.length n427 t365] w429) := ⟨HS.out.call (l := []) (rest := [b2 g224 A301 ((t298.2.2).length) n303 t298.2.1, r1 A301 ((t298.2.2).length) n303 t298.2.2, r1 A425 t365.length n427 t365]) hS⟩
                clear hS
                by_cases c430 : t411 = true
                · have H := if_yes c430 H
                  have c430b0 : t411 = true := c430
                  have c430b1 : (!t411) = false := by rw [c430b0]; rfl
                  clear c430
                  go_wp2_with fail
                  obtain ⟨t415, HA431, H⟩ := bind_some H
                  refine (quitrentlaw04_begun.calls t415 _ ⟨HS.out.begin (l := []) (rest := [b2 g224 A301 ((t298.2.2).length) n303 t298.2.1, r1 A301 ((t298.2.2).length) n303 t298.2.2, r1 A425 t365.length n427 t365])⟩ HA431).mono ?_
                  rintro e_ w432 ⟨rfl, hS⟩
                  replace HS : Aside0 (Sep (fps []) w [b2 g224 A301 ((t298.2.2).length) n303 t298.2.1, r1 A301 ((t298.2.2).length) n303 t298.2.2, r1 A425 t365.length n427 t365] w432) := ⟨HS.out.call (l := []) (rest := [b2 g224 A301 ((t298.2.2).length) n303 t298.2.1, r1 A301 ((t298.2.2).length) n303 t298.2.2, r1 A425 t365.length n427 t365]) hS⟩
                  clear hS
                  replace HS : Aside0 (Sep (fps []) w [] w432) := ⟨HS.out.sub (.cons _ (.cons _ (.cons _ .slnil)))⟩
                  go_wp2_with fail
                  go_ret
                  rw [← some_eq H]
                  exact ⟨(by first | rfl | (simp [IntKind.wrap_u32]; done)), (HS.out).keep (l := []) (rest := [])⟩
                · have H := if_no c430 H
                  have c430b0 : t411 = false := by simpa using c430
                  have c430b1 : (!t411) = true := by rw [c430b0]; rfl
                  clear c430
                  replace HS : Aside0 (Sep (fps []) w [] w429) := ⟨HS.out.sub (.cons _ (.cons _ (.cons _ .slnil)))⟩
                  go_wp2_with fail
                  go_ret
                  rw [← some_eq H]
                  exact ⟨(by first | rfl | (simp [IntKind.wrap_u32]; done)), (HS.out).keep (l := []) (rest := [])⟩
              · have H := if_no c421 H
                have c421b0 : (t333 == t295) = false := beq_eq_false_iff_ne.mpr c421
                have c421b1 : (t333 != t295) = true := bne_iff_ne.mpr c421
                clear c421
                replace HS : Aside0 (Sep (fps []) w [] w420) := ⟨HS.out.sub (.cons _ (.cons _ .slnil))⟩
                go_wp2_with fail
                go_ret
                rw [← some_eq H]
                exact ⟨(by first | rfl | (simp [IntKind.wrap_u32]; done)), (HS.out).keep (l := []) (rest := [])⟩
            · have H := if_no c418 H
              have c418b0 : decide ((l1.length : Int) ≤ a5) = false := decide_eq_false c418
              clear c418
              replace HS : Aside0 (Sep (fps []) w [] w300) := ⟨HS.out.sub (.cons _ (.cons _ .slnil))⟩
              go_wp2_with fail
              go_ret
              rw [← some_eq H]
              exact ⟨(by first | rfl | (simp [IntKind.wrap_u32]; done)), (HS.out).keep (l := []) (rest := [])⟩
      · have H := if_no c256 H
        have c256b0 : t253.1 = false := by simpa using c256
        have c256b1 : (!t253.1) = true := by rw [c256b0]; rfl
        try rw [c256b1]
        clear c256
        replace HS : Aside0 (Sep (fps []) w [] w255) := ⟨HS.out.sub (.cons _ (.cons _ .slnil))⟩
        go_wp2_with fail
        go_ret
        rw [← some_eq H]
        exact ⟨(by first | rfl | (simp [IntKind.wrap_u32]; done)), (HS.out).keep (l := []) (rest := [])⟩

set_option maxHeartbeats 30000000 in
set_option maxRecDepth 100000 in
theorem store_Store_Len.calls  (r : Int) (w : World)   (HS : Aside0 (Sep (fps []) w [] w)) (H : Aside0 (store_Store_Len.f = some r)) :
    Calls Try.prog 28 #[.pointer none] w fun e w' => e = .returned (.int .i64 r) ∧ Sep (fps []) w [] w' := by
  unfold store_Store_Len.f at H
  go_enter Try.func28, Try.ntmps28
  go_wp2_with fail
  go_ret
  rw [← some_eq H]
  exact ⟨(by first | rfl | (simp [IntKind.wrap_u32]; done)), (HS.out).keep (l := []) (rest := [])⟩

set_option maxHeartbeats 30000000 in
set_option maxRecDepth 100000 in
theorem store_Store_has_1.calls (a440 : Int) (r : Bool) (w : World)   (HS : Aside0 (Sep (fps []) w [] w)) (H : Aside0 (store_Store_has_1.f a440 = some r)) :
    Calls Try.prog 69 #[.pointer none, .int .i64 a440] w fun e w' => e = .returned (.bool r) ∧ Sep (fps []) w [] w' := by
  unfold store_Store_has_1.f at H
  go_enter Try.func69, Try.ntmps69
  go_wp2_with fail
  go_ret
  rw [← some_eq H]
  exact ⟨(by first | rfl | (simp [IntKind.wrap_u32]; done)), (HS.out).keep (l := []) (rest := [])⟩

set_option maxHeartbeats 30000000 in
set_option maxRecDepth 100000 in
theorem store_Store_Get_1.calls (a439 : Int) (r : Int) (w : World)   (HS : Aside0 (Sep (fps []) w [] w)) (H : Aside0 (store_Store_Get_1.f a439 = some r)) :
    Calls Try.prog 25 #[.pointer none, .int .i64 a439] w fun e w' => e = .returned (.int .u32 r) ∧ Sep (fps []) w [] w' := by
  unfold store_Store_Get_1.f at H
  go_enter Try.func25, Try.ntmps25
  go_wp2_with fail
  obtain ⟨t441, HA442, H⟩ := bind_some H
  refine (store_Store_has_1.calls a439 t441 _ ⟨HS.out.begin (l := []) (rest := [])⟩ HA442).mono ?_
  rintro e_ w443 ⟨rfl, hS⟩
  replace HS : Aside0 (Sep (fps []) w [] w443) := ⟨HS.out.call (l := []) (rest := []) hS⟩
  clear hS
  by_cases c444 : t441 = true
  · have H := if_yes c444 H
    have c444b0 : t441 = true := c444
    have c444b1 : (!t441) = false := by rw [c444b0]; rfl
    try rw [c444b1]
    clear c444
    exact (none_no H).elim
  · have H := if_no c444 H
    have c444b0 : t441 = false := by simpa using c444
    have c444b1 : (!t441) = true := by rw [c444b0]; rfl
    try rw [c444b1]
    clear c444
    go_wp2_with fail
    go_ret
    rw [← some_eq H]
    exact ⟨(by first | rfl | (simp [IntKind.wrap_u32]; done)), (HS.out).keep (l := []) (rest := [])⟩

set_option maxHeartbeats 30000000 in
set_option maxRecDepth 100000 in
theorem store_Store_Put_1.calls (a449 : Int) (a450 : Int) (r : Bool) (w : World)   (HS : Aside0 (Sep (fps []) w [] w)) (H : Aside0 (store_Store_Put_1.f a449 a450 = some r)) :
    Calls Try.prog 22 #[.pointer none, .int .i64 a449, .int .u32 a450] w fun e w' => e = .returned (.bool r) ∧ Sep (fps []) w [] w' := by
  unfold store_Store_Put_1.f at H
  go_enter Try.func22, Try.ntmps22
  go_wp2_with fail
  obtain ⟨t451, HA452, H⟩ := bind_some H
  refine (store_Store_has_1.calls a449 t451 _ ⟨HS.out.begin (l := []) (rest := [])⟩ HA452).mono ?_
  rintro e_ w453 ⟨rfl, hS⟩
  replace HS : Aside0 (Sep (fps []) w [] w453) := ⟨HS.out.call (l := []) (rest := []) hS⟩
  clear hS
  by_cases c454 : t451 = true
  · have H := if_yes c454 H
    have c454b0 : t451 = true := c454
    have c454b1 : (!t451) = false := by rw [c454b0]; rfl
    try rw [c454b1]
    clear c454
    exact (none_no H).elim
  · have H := if_no c454 H
    have c454b0 : t451 = false := by simpa using c454
    have c454b1 : (!t451) = true := by rw [c454b0]; rfl
    try rw [c454b1]
    clear c454
    go_wp2_with fail
    go_ret
    rw [← some_eq H]
    exact ⟨(by first | rfl | (simp [IntKind.wrap_u32]; done)), (HS.out).keep (l := []) (rest := [])⟩

set_option maxHeartbeats 30000000 in
set_option maxRecDepth 100000 in
theorem store_Store_Meter_1.calls  (r : Int) (w : World)   (HS : Aside0 (Sep (fps []) w [] w)) (H : Aside0 (store_Store_Meter_1.f = some r)) :
    Calls Try.prog 21 #[.pointer none] w fun e w' => e = .returned (.int .u64 r) ∧ Sep (fps []) w [] w' := by
  unfold store_Store_Meter_1.f at H
  go_enter Try.func21, Try.ntmps21
  go_wp2_with fail
  go_ret
  rw [← some_eq H]
  exact ⟨(by first | rfl | (simp [IntKind.wrap_u32]; done)), (HS.out).keep (l := []) (rest := [])⟩

set_option maxHeartbeats 30000000 in
set_option maxRecDepth 100000 in
theorem store_Store_Peek_1.calls (a463 : Int) (r : Int) (w : World)   (HS : Aside0 (Sep (fps []) w [] w)) (H : Aside0 (store_Store_Peek_1.f a463 = some r)) :
    Calls Try.prog 20 #[.pointer none, .int .i64 a463] w fun e w' => e = .returned (.int .u32 r) ∧ Sep (fps []) w [] w' := by
  unfold store_Store_Peek_1.f at H
  go_enter Try.func20, Try.ntmps20
  go_wp2_with fail
  obtain ⟨t464, HA465, H⟩ := bind_some H
  refine (store_Store_has_1.calls a463 t464 _ ⟨HS.out.begin (l := []) (rest := [])⟩ HA465).mono ?_
  rintro e_ w466 ⟨rfl, hS⟩
  replace HS : Aside0 (Sep (fps []) w [] w466) := ⟨HS.out.call (l := []) (rest := []) hS⟩
  clear hS
  by_cases c467 : t464 = true
  · have H := if_yes c467 H
    have c467b0 : t464 = true := c467
    have c467b1 : (!t464) = false := by rw [c467b0]; rfl
    try rw [c467b1]
    clear c467
    exact (none_no H).elim
  · have H := if_no c467 H
    have c467b0 : t464 = false := by simpa using c467
    have c467b1 : (!t464) = true := by rw [c467b0]; rfl
    try rw [c467b1]
    clear c467
    go_wp2_with fail
    go_ret
    rw [← some_eq H]
    exact ⟨(by first | rfl | (simp [IntKind.wrap_u32]; done)), (HS.out).keep (l := []) (rest := [])⟩

set_option maxHeartbeats 30000000 in
set_option maxRecDepth 100000 in
theorem store_Store_Words_1.calls  (r : List Int) (w : World)   (HS : Aside0 (Sep (fps []) w [] w)) (H : Aside0 (store_Store_Words_1.f = some r)) :
    Calls Try.prog 24 #[.pointer none] w fun e w' => ∃ (A474 : Option Addr) (m475 : Nat) (n476 : Nat), e = .returned (.slice A474 m475 n476) ∧ Sep (fps []) w [r1 A474 m475 n476 r] w' := by
  unfold store_Store_Words_1.f at H
  go_enter Try.func24, Try.ntmps24
  go_wp2_with fail
  replace HS : Aside0 (Sep (fps []) w [r1 none 0 0 []] w) := ⟨HS.out.nilrow 23 (Value.int .u32)⟩
  go_ret
  rw [← some_eq H]
  exact ⟨none, 0, 0, (by first | rfl | (simp [IntKind.wrap_u32]; done)), (HS.out).keep (l := [r1 none 0 0 []]) (rest := [])⟩

set_option maxHeartbeats 30000000 in
set_option maxRecDepth 100000 in
theorem store_Store_Load_1.calls (l488 : List Int) (A489 : Option Addr) (n490 : Nat) (r : Bool) (w : World) (HR491 : Aside0 (Rd (Kd.int .u32) (fps []) w A489 l488.length l488))  (HS : Aside0 (Sep (fps []) w [] w)) (H : Aside0 (store_Store_Load_1.f l488 = some r)) :
    Calls Try.prog 18 #[.pointer none, .slice A489 l488.length n490] w fun e w' => e = .returned (.bool r) ∧ Sep (fps []) w [] w' := by
  unfold store_Store_Load_1.f at H
  go_enter Try.func18, Try.ntmps18
  go_wp2_with fail
  go_ret
  rw [← some_eq H]
  exact ⟨(by first | rfl | (simp [IntKind.wrap_u32]; done)), (HS.out).keep (l := []) (rest := [])⟩

set_option maxHeartbeats 30000000 in
set_option maxRecDepth 100000 in
theorem quitrentlaw04_StoreNobody.calls (a433 : Int) (a434 : Int) (r : Bool) (w : World)   (HS : Aside0 (Sep (fps []) w [] w)) (H : Aside0 (quitrentlaw04_StoreNobody.f a433 a434 = some r)) :
    Calls Try.prog 6 #[.int .i64 a433, .int .u32 a434] w fun e w' => e = .returned (.bool r) ∧ Sep (fps []) w [] w' := by
  unfold quitrentlaw04_StoreNobody.f at H
  go_enter Try.func6, Try.ntmps6
  go_wp2_with fail
  obtain ⟨t435, HA436, H⟩ := bind_some H
  refine (store_Store_Len.calls t435 _ ⟨HS.out.begin (l := []) (rest := [])⟩ HA436).mono ?_
  rintro e_ w437 ⟨rfl, hS⟩
  replace HS : Aside0 (Sep (fps []) w [] w437) := ⟨HS.out.call (l := []) (rest := []) hS⟩
  clear hS
  by_cases c438 : t435 = 0
  · have H := if_yes c438 H
    have c438b0 : (t435 == 0) = true := beq_iff_eq.mpr c438
    have c438b1 : (t435 != 0) = false := bne_eq_false_iff_eq.mpr c438
    clear c438
    go_wp2_with fail
    obtain ⟨t445, HA446, H⟩ := bind_some H
    refine (store_Store_Get_1.calls a433 t445 _ ⟨HS.out.begin (l := []) (rest := [])⟩ HA446).mono ?_
    rintro e_ w447 ⟨rfl, hS⟩
    replace HS : Aside0 (Sep (fps []) w [] w447) := ⟨HS.out.call (l := []) (rest := []) hS⟩
    clear hS
    by_cases c448 : t445 = 0
    · have H := if_yes c448 H
      have c448b0 : (t445 == 0) = true := beq_iff_eq.mpr c448
      have c448b1 : (t445 != 0) = false := bne_eq_false_iff_eq.mpr c448
      clear c448
      go_wp2_with fail
      obtain ⟨t455, HA456, H⟩ := bind_some H
      refine (store_Store_Put_1.calls a433 a434 t455 _ ⟨HS.out.begin (l := []) (rest := [])⟩ HA456).mono ?_
      rintro e_ w457 ⟨rfl, hS⟩
      replace HS : Aside0 (Sep (fps []) w [] w457) := ⟨HS.out.call (l := []) (rest := []) hS⟩
      clear hS
      by_cases c458 : t455 = true
      · have H := if_yes c458 H
        have c458b0 : t455 = true := c458
        have c458b1 : (!t455) = false := by rw [c458b0]; rfl
        try rw [c458b1]
        clear c458
        go_wp2_with fail
        go_ret
        rw [← some_eq H]
        exact ⟨(by first | rfl | (simp [IntKind.wrap_u32]; done)), (HS.out).keep (l := []) (rest := [])⟩
      · have H := if_no c458 H
        have c458b0 : t455 = false := by simpa using c458
        have c458b1 : (!t455) = true := by rw [c458b0]; rfl
        try rw [c458b1]
        clear c458
        go_wp2_with fail
        obtain ⟨t459, HA460, H⟩ := bind_some H
        refine (store_Store_Meter_1.calls t459 _ ⟨HS.out.begin (l := []) (rest := [])⟩ HA460).mono ?_
        rintro e_ w461 ⟨rfl, hS⟩
        replace HS : Aside0 (Sep (fps []) w [] w461) := ⟨HS.out.call (l := []) (rest := []) hS⟩
        clear hS
        by_cases c462 : t459 = 0
        · have H := if_yes c462 H
          have c462b0 : (t459 == 0) = true := beq_iff_eq.mpr c462
          have c462b1 : (t459 != 0) = false := bne_eq_false_iff_eq.mpr c462
          clear c462
          go_wp2_with fail
          obtain ⟨t468, HA469, H⟩ := bind_some H
          refine (store_Store_Peek_1.calls a433 t468 _ ⟨HS.out.begin (l := []) (rest := [])⟩ HA469).mono ?_
          rintro e_ w470 ⟨rfl, hS⟩
          replace HS : Aside0 (Sep (fps []) w [] w470) := ⟨HS.out.call (l := []) (rest := []) hS⟩
          clear hS
          by_cases c471 : t468 = 0
          · have H := if_yes c471 H
            have c471b0 : (t468 == 0) = true := beq_iff_eq.mpr c471
            have c471b1 : (t468 != 0) = false := bne_eq_false_iff_eq.mpr c471
            clear c471
            go_wp2_with fail
            obtain ⟨t477, HA478, H⟩ := bind_some H
            refine (store_Store_Words_1.calls t477 _ ⟨HS.out.begin (l := []) (rest := [])⟩ HA478).mono ?_
            rintro e_ w479 ⟨A481, m482, n483, rfl, hS⟩
            replace HS : Aside0 (Sep (fps []) w [r1 A481 m482 n483 t477] w479) := ⟨HS.out.call (l := []) (rest := []) hS⟩
            clear hS
            obtain rfl := (row_len (HS.out.at0)).symm
            by_cases c484 : (t477.length : Int) = 0
            · have H := if_yes c484 H
              have c484b0 : ((t477.length : Int) == 0) = true := beq_iff_eq.mpr c484
              have c484b1 : ((t477.length : Int) != 0) = false := bne_eq_false_iff_eq.mpr c484
              clear c484
              go_wp2_with (first | ((with_reducible refine gate_dst (N := 42) rfl ?_); refine slice_on (n := 1) ?hg (N := 42) ?hd (cs := #[.int .u32 a434]) (t := 23) ?hr ?_; (case hd => rfl); (case hg => rfl); (case hr => first | (go_simp; done) | (go_simp; rfl)); intro g485 hg w486 hbox hb; replace HS : Aside0 (Sep (fps []) w [r1 A481 t477.length n483 t477, b3 g485 a434] w486) := ⟨HS.out.box hg hbox hb⟩; clear hg hbox hb))
              obtain ⟨t492, HA493, H⟩ := bind_some H
              refine (store_Store_Load_1.calls [a434] (some ⟨g485, 0, none⟩) 1 t492 _ ⟨Rd.lit (l := []) (rest := [r1 A481 t477.length n483 t477, b3 g485 a434]) (xs := [a434]) HS.out 1 rfl (by simp)⟩ ⟨HS.out.begin (l := []) (rest := [r1 A481 t477.length n483 t477, b3 g485 a434])⟩ HA493).mono ?_
              rintro e_ w494 ⟨rfl, hS⟩
              replace HS : Aside0 (Sep (fps []) w [r1 A481 t477.length n483 t477, b3 g485 a434] w494) := ⟨HS.out.call (l := []) (rest := [r1 A481 t477.length n483 t477, b3 g485 a434]) hS⟩
              clear hS
              by_cases c495 : t492 = true
              · have H := if_yes c495 H
                have c495b0 : t492 = true := c495
                have c495b1 : (!t492) = false := by rw [c495b0]; rfl
                try rw [c495b1]
                clear c495
                replace HS : Aside0 (Sep (fps []) w [] w494) := ⟨HS.out.sub (.cons _ (.cons _ .slnil))⟩
                go_wp2_with fail
                go_ret
                rw [← some_eq H]
                exact ⟨(by first | rfl | (simp [IntKind.wrap_u32]; done)), (HS.out).keep (l := []) (rest := [])⟩
              · have H := if_no c495 H
                have c495b0 : t492 = false := by simpa using c495
                have c495b1 : (!t492) = true := by rw [c495b0]; rfl
                try rw [c495b1]
                clear c495
                go_wp2_with fail
                obtain ⟨t496, HA497, H⟩ := bind_some H
                refine (quitrentlaw04_begun.calls t496 _ ⟨HS.out.begin (l := []) (rest := [r1 A481 t477.length n483 t477, b3 g485 a434])⟩ HA497).mono ?_
                rintro e_ w498 ⟨rfl, hS⟩
                replace HS : Aside0 (Sep (fps []) w [r1 A481 t477.length n483 t477, b3 g485 a434] w498) := ⟨HS.out.call (l := []) (rest := [r1 A481 t477.length n483 t477, b3 g485 a434]) hS⟩
                clear hS
                replace HS : Aside0 (Sep (fps []) w [] w498) := ⟨HS.out.sub (.cons _ (.cons _ .slnil))⟩
                go_wp2_with fail
                go_ret
                rw [← some_eq H]
                exact ⟨(by first | rfl | (simp [IntKind.wrap_u32]; done)), (HS.out).keep (l := []) (rest := [])⟩
            · have H := if_no c484 H
              have c484b0 : ((t477.length : Int) == 0) = false := beq_eq_false_iff_ne.mpr c484
              have c484b1 : ((t477.length : Int) != 0) = true := bne_iff_ne.mpr c484
              clear c484
              replace HS : Aside0 (Sep (fps []) w [] w479) := ⟨HS.out.sub (.cons _ .slnil)⟩
              go_wp2_with fail
              go_ret
              rw [← some_eq H]
              exact ⟨(by first | rfl | (simp [IntKind.wrap_u32]; done)), (HS.out).keep (l := []) (rest := [])⟩
          · have H := if_no c471 H
            have c471b0 : (t468 == 0) = false := beq_eq_false_iff_ne.mpr c471
            have c471b1 : (t468 != 0) = true := bne_iff_ne.mpr c471
            clear c471
            go_wp2_with fail
            go_ret
            rw [← some_eq H]
            exact ⟨(by first | rfl | (simp [IntKind.wrap_u32]; done)), (HS.out).keep (l := []) (rest := [])⟩
        · have H := if_no c462 H
          have c462b0 : (t459 == 0) = false := beq_eq_false_iff_ne.mpr c462
          have c462b1 : (t459 != 0) = true := bne_iff_ne.mpr c462
          clear c462
          go_wp2_with fail
          go_ret
          rw [← some_eq H]
          exact ⟨(by first | rfl | (simp [IntKind.wrap_u32]; done)), (HS.out).keep (l := []) (rest := [])⟩
    · have H := if_no c448 H
      have c448b0 : (t445 == 0) = false := beq_eq_false_iff_ne.mpr c448
      have c448b1 : (t445 != 0) = true := bne_iff_ne.mpr c448
      clear c448
      go_wp2_with fail
      go_ret
      rw [← some_eq H]
      exact ⟨(by first | rfl | (simp [IntKind.wrap_u32]; done)), (HS.out).keep (l := []) (rest := [])⟩
  · have H := if_no c438 H
    have c438b0 : (t435 == 0) = false := beq_eq_false_iff_ne.mpr c438
    have c438b1 : (t435 != 0) = true := bne_iff_ne.mpr c438
    clear c438
    go_wp2_with fail
    go_ret
    rw [← some_eq H]
    exact ⟨(by first | rfl | (simp [IntKind.wrap_u32]; done)), (HS.out).keep (l := []) (rest := [])⟩
end Go.Proofs.Ytobeonkddamnoaa.C

/- Each function of the group SM does what its plain function says, and changes nothing that was there; proved by walking its code. No condition. -/
import Derived.Test.YtobeonkddamnoaaQw
import Derived.Test.YtobeonkddamnoaaMSM
namespace Go.Proofs.Ytobeonkddamnoaa.C
open Go.RowKit Go.Proofs.YtobeonkddamnoaaW.PrintWords Go.Proofs.YtobeonkddamnoaaW.PrintLast Go.Proofs.YtobeonkddamnoaaW.PrintMore Go.Proofs.Ytobeonkddamnoaa.Q Go.Proofs.Ytobeonkddamnoaa.M
set_option linter.unusedVariables false
set_option linter.unusedSimpArgs false
def r1 (A : Option Addr) (n c : Nat) (l : List Int) : Ob := row 23 (Value.int .u32) (.slice A n c) l
def b2 (g : Nat) (x0 : Option Addr) (x1 : Nat) (x2 : Nat) (x3 : Int) : Ob := blk g #[.slice x0 x1 x2, .int .u64 x3] 115

set_option maxHeartbeats 30000000 in
set_option maxRecDepth 100000 in
theorem store_New.calls (a5 : Int) (r : Unit ⊕ (List Int)) (w : World)   (HS : Aside0 (Sep (fps []) w [] w)) (H : Aside0 (store_New.f a5 = some r)) :
    Calls Try.prog 17 #[.int .i64 a5] w fun e w' => Sum.elim (fun (r : Unit) => e = .returned (.tuple #[.pointer none, .int .i64 2]) ∧ Sep (fps []) w [] w') (fun (r : List Int) => ∃ (g41 : Nat), e = .returned (.tuple #[.pointer (some ⟨g41, 0, none⟩), .int .i64 0]) ∧ ∃ (A42 : Option Addr) (m43 : Nat) (n44 : Nat), Sep (fps []) w [b2 g41 A42 m43 n44 0, r1 A42 m43 n44 r] w') r := by
  unfold store_New.f at H
  go_enter Try.func17, Try.ntmps17
  by_cases c19 : a5 < 0
  · have H := if_yes c19 H
    have c19b0 : decide (a5 < 0) = true := decide_eq_true c19
    clear c19
    go_wp2_with fail
    go_ret2
    rw [← some_eq H]
    exact ⟨(by first | rfl | (simp [IntKind.wrap_u32]; done)), HS.out⟩
  · have H := if_no c19 H
    have c19b0 : decide (a5 < 0) = false := decide_eq_false c19
    clear c19
    by_cases c20 : a5 > 8388608
    · have H := if_yes c20 H
      have c20b0 : decide (8388608 < a5) = true := decide_eq_true c20
      clear c20
      go_wp2_with fail
      go_ret2
      rw [← some_eq H]
      exact ⟨(by first | rfl | (simp [IntKind.wrap_u32]; done)), HS.out⟩
    · have H := if_no c20 H
      have c20b0 : decide (8388608 < a5) = false := decide_eq_false c20
      clear c20
      obtain ⟨m21, HA22, H⟩ := bind_some H
      obtain ⟨hm23, hn24⟩ := mkLen_eq HA22
      have hm23H := Aside0.mk hm23
      clear hm23
      go_wp2_with (first | ((with_reducible refine gate_dst (N := 11) rfl ?_); refine make_event rfl (N := 11) rfl 22 23 (.tmp 10) (.tmp 10) rfl .i64 (.int .u32 0) 4 Try.underlying22 (by kernel_rfl) rfl (by decide) (Value.int .u32) 0 rfl m21 (by show Value.int _ _ = _; rw [hm23H.out]) (by show Value.int _ _ = _; rw [hm23H.out]) (by omega) HS.out ?_; intro g25 w26 HS1; replace HS : Aside0 (Sep (fps []) w [r1 (some ⟨g25, 0, none⟩) m21 m21 (List.replicate m21 (0 : Int))] w26) := ⟨HS1⟩; clear HS1) | ((with_reducible refine gate_dst (N := 13) rfl ?_); refine box_on ?hg (N := 13) ?hd (cs := #[.slice (some ⟨g25, 0, none⟩) m21 m21, .int .u64 0]) (t := 115) ?hr ?_; (case hd => rfl); (case hg => rfl); (case hr => first | (go_simp; done) | (go_simp; rfl)); intro g29 hg w30 hbox hb; replace HS : Aside0 (Sep (fps []) w [r1 (some ⟨g25, 0, none⟩) m21 m21 (List.replicate m21 (0 : Int)), b2 g29 (some ⟨g25, 0, none⟩) m21 m21 0] w30) := ⟨HS.out.box hg hbox hb⟩; clear hg hbox hb))
      go_ret2
      rw [← some_eq H]
      exact ⟨g29, (by first | rfl | (simp [IntKind.wrap_u32]; done)), (some ⟨g25, 0, none⟩), m21, m21, ((HS.out).front 1 (by simp)).keep (l := [b2 g29 (some ⟨g25, 0, none⟩) m21 m21 0, r1 (some ⟨g25, 0, none⟩) m21 m21 (List.replicate m21 (0 : Int))]) (rest := [])⟩

set_option maxHeartbeats 30000000 in
set_option maxRecDepth 100000 in
theorem store_Store_has.calls (l73 : List Int) (a78 : Int) (a79 : Int) (g71 : Nat) (A74 : Option Addr) (m75 : Nat) (n76 : Nat) (r : Bool) (w : World)   (HS : Aside0 (Sep (fps [b2 g71 A74 m75 n76 a78, r1 A74 m75 n76 l73]) w [b2 g71 A74 m75 n76 a78, r1 A74 m75 n76 l73] w)) (H : Aside0 (store_Store_has.f l73 a78 a79 = some r)) :
    Calls Try.prog 69 #[.pointer (some ⟨g71, 0, none⟩), .int .i64 a79] w fun e w' => e = .returned (.bool r) ∧ Sep (fps [b2 g71 A74 m75 n76 a78, r1 A74 m75 n76 l73]) w [b2 g71 A74 m75 n76 a78, r1 A74 m75 n76 l73] w' := by
  generalize (fps [b2 g71 A74 m75 n76 a78, r1 A74 m75 n76 l73]) = FF at HS ⊢
  obtain rfl := (row_len (HS.out.at1)).symm
  unfold store_Store_has.f at H
  go_enter Try.func69, Try.ntmps69
  by_cases c80 : a79 ≥ 0
  · have H := if_yes c80 H
    have c80b0 : decide (0 ≤ a79) = true := decide_eq_true c80
    clear c80
    have hc81 : w.cell? ⟨g71, 0, none⟩ = some (.slice A74 l73.length n76) := blk_cellv (HS.out.at0) 0 rfl
    go_wp2_with fail
    clear hc81
    go_ret
    rw [← some_eq H]
    exact ⟨(by first | rfl | (simp [IntKind.wrap_u32]; done)), HS.out⟩
  · have H := if_no c80 H
    have c80b0 : decide (0 ≤ a79) = false := decide_eq_false c80
    clear c80
    go_wp2_with fail
    go_ret
    rw [← some_eq H]
    exact ⟨(by first | rfl | (simp [IntKind.wrap_u32]; done)), HS.out⟩

set_option maxHeartbeats 30000000 in
set_option maxRecDepth 100000 in
theorem atomic_Uint64_Add.calls (l89 : List Int) (a94 : Int) (a95 : Int) (g87 : Nat) (A90 : Option Addr) (m91 : Nat) (n92 : Nat) (r : Int × Int) (w : World)   (HS : Aside0 (Sep (fps [b2 g87 A90 m91 n92 a94, r1 A90 m91 n92 l89]) w [b2 g87 A90 m91 n92 a94, r1 A90 m91 n92 l89] w)) (H : Aside0 (atomic_Uint64_Add.f l89 a94 a95 = some r)) :
    Calls Try.prog 71 #[.pointer (some ⟨g87, 1, none⟩), .int .u64 a95] w fun e w' => e = .returned (.int .u64 r.1) ∧ Sep (fps [b2 g87 A90 m91 n92 a94, r1 A90 m91 n92 l89]) w [b2 g87 A90 m91 n92 r.2, r1 A90 m91 n92 l89] w' := by
  generalize (fps [b2 g87 A90 m91 n92 a94, r1 A90 m91 n92 l89]) = FF at HS ⊢
  obtain rfl := (row_len (HS.out.at1)).symm
  unfold atomic_Uint64_Add.f at H
  go_enter Try.func71, Try.ntmps71
  obtain ⟨y105, HA106, H⟩ := bind_some H
  have hc102 : w.cell? ⟨g87, 1, none⟩ = some (.int .u64 a94) := blk_cellv (HS.out.at0) 1 rfl
  have hz104 : w.frozen? ⟨g87, 1, none⟩ = false := blk_fz (HS.out.at0) 1
  have hn103 : (callFunc 104 #[.pointer (some ⟨g87, 1, none⟩), .int .u64 a95]).run Try.prog w = .ok (.value (.int .u64 y105)) ((World.setCell w ⟨g87, 1, none⟩ (.int .u64 y105))) := (some_eq HA106) ▸ run_call_add Try.func104 (by kernel_rfl) (by kernel_rfl) (by kernel_rfl) .u64 (by kernel_rfl) hc102 hz104 (by rfl)
  go_wp2_with (first | ((with_reducible refine gate_dst (N := 9) rfl ?_); refine run_on2 (by rfl) (w1 := (World.setCell w ⟨g87, 1, none⟩ (.int .u64 y105))) (v := .int .u64 y105) ?hr ?_; (case hr => first | (go_simp; done) | (go_simp; rfl)); intro w107 hst; clear hc102 hz104; have hq0 : Sep FF w [b2 g87 A90 l89.length n92 y105, r1 A90 l89.length n92 l89] (World.setCell w ⟨g87, 1, none⟩ (.int .u64 y105)) := (HS.out).set1 (l1 := []) (l2 := [r1 A90 l89.length n92 l89]) 1 (.int .u64 y105); replace HS : Aside0 (Sep FF w [b2 g87 A90 l89.length n92 y105, r1 A90 l89.length n92 l89] w107) := ⟨by rw [hst]; exact hq0⟩; clear hst hn103 hq0))
  go_ret
  rw [← some_eq H]
  exact ⟨(by first | rfl | (simp [IntKind.wrap_u32]; done)), HS.out⟩

set_option maxHeartbeats 30000000 in
set_option maxRecDepth 100000 in
theorem store_Store_Put.calls (l62 : List Int) (a67 : Int) (a68 : Int) (a69 : Int) (g60 : Nat) (A63 : Option Addr) (m64 : Nat) (n65 : Nat) (r : Bool × Int × List Int) (w : World)   (HS : Aside0 (Sep (fps [b2 g60 A63 m64 n65 a67, r1 A63 m64 n65 l62]) w [b2 g60 A63 m64 n65 a67, r1 A63 m64 n65 l62] w)) (H : Aside0 (store_Store_Put.f l62 a67 a68 a69 = some r)) :
    Calls Try.prog 22 #[.pointer (some ⟨g60, 0, none⟩), .int .i64 a68, .int .u32 a69] w fun e w' => e = .returned (.bool r.1) ∧ Sep (fps [b2 g60 A63 m64 n65 a67, r1 A63 m64 n65 l62]) w [b2 g60 A63 m64 n65 r.2.1, r1 A63 m64 n65 r.2.2] w' := by
  generalize (fps [b2 g60 A63 m64 n65 a67, r1 A63 m64 n65 l62]) = FF at HS ⊢
  obtain rfl := (row_len (HS.out.at1)).symm
  unfold store_Store_Put.f at H
  go_enter Try.func22, Try.ntmps22
  go_wp2_with fail
  obtain ⟨t120, HA121, H⟩ := bind_some H
  refine (store_Store_has.calls l62 a67 a68 g60 A63 l62.length n65 t120 _ ⟨HS.out.begin⟩ HA121).mono ?_
  rintro e_ w122 ⟨rfl, hS⟩
  replace HS : Aside0 (Sep FF w [b2 g60 A63 l62.length n65 a67, r1 A63 l62.length n65 l62] w122) := ⟨HS.out.call hS⟩
  clear hS
  by_cases c123 : t120 = true
  · have H := if_yes c123 H
    have c123b0 : t120 = true := c123
    have c123b1 : (!t120) = false := by rw [c123b0]; rfl
    try rw [c123b1]
    clear c123
    go_wp2_with fail
    obtain ⟨t124, HA125, H⟩ := bind_some H
    refine (atomic_Uint64_Add.calls l62 a67 1 g60 A63 l62.length n65 t124 _ ⟨HS.out.begin⟩ HA125).mono ?_
    rintro e_ w126 ⟨rfl, hS⟩
    replace HS : Aside0 (Sep FF w [b2 g60 A63 l62.length n65 t124.2, r1 A63 l62.length n65 l62] w126) := ⟨HS.out.call hS⟩
    clear hS
    by_cases c128 : 0 ≤ a68
    · have H := if_yes c128 H
      have c128b0 : decide (0 ≤ a68) = true := decide_eq_true c128
      have c128p : (0 ≤ a68) = True := eq_true c128
      clear c128
      by_cases c129 : a68 < (l62.length : Int)
      · have H := if_yes c129 H
        have c129b0 : decide (a68 < (l62.length : Int)) = true := decide_eq_true c129
        have c129p : (a68 < (l62.length : Int)) = True := eq_true c129
        clear c129
        obtain ⟨y132, HA133, H⟩ := bind_some H
        have hc127 : w126.cell? ⟨g60, 0, none⟩ = some (.slice A63 l62.length n65) := blk_cellv (HS.out.at0) 0 rfl
        obtain ⟨g130, ea⟩ := row_at (HS.out.at1) (by have := (of_decide_eq_true c128b0); have := (of_decide_eq_true c129b0); omega); cases ea
        have hx134 := (row_get 0 (HS.out.at1) a68 (of_decide_eq_true c128b0) (of_decide_eq_true c129b0)).1
        have hz135 := (row_get 0 (HS.out.at1) a68 (of_decide_eq_true c128b0) (of_decide_eq_true c129b0)).2
        go_wp2_with (first | ((with_reducible refine gate_store (t := 23) (p := 21) rfl ?_); refine store_event (w1 := World.setCell w126 ⟨g130, (a68).toNat, none⟩ (.int .u32 a69)) rfl (t := 23) (p := 21) rfl rfl ?hr ?_; (case hr => first | (go_simp; done) | (go_simp; rfl)); intro w131 hst; clear hc127 hx134 hz135; have hq := Sep.rowset (l1 := [b2 g60 (some ⟨g130, 0, none⟩) l62.length n65 t124.2]) (l2 := []) HS.out a68 a69; rw [← hst, some_eq HA133] at hq; replace HS : Aside0 (Sep FF w [b2 g60 (some ⟨g130, 0, none⟩) l62.length n65 t124.2, r1 (some ⟨g130, 0, none⟩) l62.length n65 y132] w131) := ⟨hq⟩; clear hst hq))
        go_ret
        rw [← some_eq H]
        exact ⟨(by first | rfl | (simp [IntKind.wrap_u32]; done)), HS.out⟩
      · have H := if_no c129 H
        have c129b0 : decide (a68 < (l62.length : Int)) = false := decide_eq_false c129
        clear c129
        exact (none_no H).elim
    · have H := if_no c128 H
      have c128b0 : decide (0 ≤ a68) = false := decide_eq_false c128
      clear c128
      exact (none_no H).elim
  · have H := if_no c123 H
    have c123b0 : t120 = false := by simpa using c123
    have c123b1 : (!t120) = true := by rw [c123b0]; rfl
    try rw [c123b1]
    clear c123
    go_wp2_with fail
    go_ret
    rw [← some_eq H]
    exact ⟨(by first | rfl | (simp [IntKind.wrap_u32]; done)), HS.out⟩

set_option maxHeartbeats 30000000 in
set_option maxRecDepth 100000 in
theorem store_Store_Get.calls (l143 : List Int) (a148 : Int) (a149 : Int) (g141 : Nat) (A144 : Option Addr) (m145 : Nat) (n146 : Nat) (r : Int × Int) (w : World)   (HS : Aside0 (Sep (fps [b2 g141 A144 m145 n146 a148, r1 A144 m145 n146 l143]) w [b2 g141 A144 m145 n146 a148, r1 A144 m145 n146 l143] w)) (H : Aside0 (store_Store_Get.f l143 a148 a149 = some r)) :
    Calls Try.prog 25 #[.pointer (some ⟨g141, 0, none⟩), .int .i64 a149] w fun e w' => e = .returned (.int .u32 r.1) ∧ Sep (fps [b2 g141 A144 m145 n146 a148, r1 A144 m145 n146 l143]) w [b2 g141 A144 m145 n146 r.2, r1 A144 m145 n146 l143] w' := by
  generalize (fps [b2 g141 A144 m145 n146 a148, r1 A144 m145 n146 l143]) = FF at HS ⊢
  obtain rfl := (row_len (HS.out.at1)).symm
  unfold store_Store_Get.f at H
  go_enter Try.func25, Try.ntmps25
  go_wp2_with fail
  obtain ⟨t163, HA164, H⟩ := bind_some H
  refine (store_Store_has.calls l143 a148 a149 g141 A144 l143.length n146 t163 _ ⟨HS.out.begin⟩ HA164).mono ?_
  rintro e_ w165 ⟨rfl, hS⟩
  replace HS : Aside0 (Sep FF w [b2 g141 A144 l143.length n146 a148, r1 A144 l143.length n146 l143] w165) := ⟨HS.out.call hS⟩
  clear hS
  by_cases c166 : t163 = true
  · have H := if_yes c166 H
    have c166b0 : t163 = true := c166
    have c166b1 : (!t163) = false := by rw [c166b0]; rfl
    try rw [c166b1]
    clear c166
    go_wp2_with fail
    obtain ⟨t167, HA168, H⟩ := bind_some H
    refine (atomic_Uint64_Add.calls l143 a148 1 g141 A144 l143.length n146 t167 _ ⟨HS.out.begin⟩ HA168).mono ?_
    rintro e_ w169 ⟨rfl, hS⟩
    replace HS : Aside0 (Sep FF w [b2 g141 A144 l143.length n146 t167.2, r1 A144 l143.length n146 l143] w169) := ⟨HS.out.call hS⟩
    clear hS
    by_cases c171 : 0 ≤ a149
    · have H := if_yes c171 H
      have c171b0 : decide (0 ≤ a149) = true := decide_eq_true c171
      have c171p : (0 ≤ a149) = True := eq_true c171
      clear c171
      by_cases c172 : a149 < (l143.length : Int)
      · have H := if_yes c172 H
        have c172b0 : decide (a149 < (l143.length : Int)) = true := decide_eq_true c172
        have c172p : (a149 < (l143.length : Int)) = True := eq_true c172
        clear c172
        have hc170 : w169.cell? ⟨g141, 0, none⟩ = some (.slice A144 l143.length n146) := blk_cellv (HS.out.at0) 0 rfl
        obtain ⟨g173, ea⟩ := row_at (HS.out.at1) (by have := (of_decide_eq_true c171b0); have := (of_decide_eq_true c172b0); omega); cases ea
        have hx174 := C_at_int (row_Ci (HS.out.at1)) a149 (of_decide_eq_true c171b0) (of_decide_eq_true c172b0)
        have hx175 : w169.cell? ⟨g173, (a149).toNat, none⟩ = some (.int .u32 (rd l143 a149)) := (row_get 0 (HS.out.at1) a149 (of_decide_eq_true c171b0) (of_decide_eq_true c172b0)).1
        go_wp2_with fail
        clear hc170 hx174 hx175
        go_ret
        rw [← some_eq H]
        exact ⟨(by first | rfl | (simp [IntKind.wrap_u32]; done)), HS.out⟩
      · have H := if_no c172 H
        have c172b0 : decide (a149 < (l143.length : Int)) = false := decide_eq_false c172
        clear c172
        exact (none_no H).elim
    · have H := if_no c171 H
      have c171b0 : decide (0 ≤ a149) = false := decide_eq_false c171
      clear c171
      exact (none_no H).elim
  · have H := if_no c166 H
    have c166b0 : t163 = false := by simpa using c166
    have c166b1 : (!t163) = true := by rw [c166b0]; rfl
    try rw [c166b1]
    clear c166
    go_wp2_with fail
    go_ret
    rw [← some_eq H]
    exact ⟨(by first | rfl | (simp [IntKind.wrap_u32]; done)), HS.out⟩

set_option maxHeartbeats 30000000 in
set_option maxRecDepth 100000 in
theorem atomic_Uint64_Load.calls (l196 : List Int) (a201 : Int) (g194 : Nat) (A197 : Option Addr) (m198 : Nat) (n199 : Nat) (r : Int) (w : World)   (HS : Aside0 (Sep (fps [b2 g194 A197 m198 n199 a201, r1 A197 m198 n199 l196]) w [b2 g194 A197 m198 n199 a201, r1 A197 m198 n199 l196] w)) (H : Aside0 (atomic_Uint64_Load.f l196 a201 = some r)) :
    Calls Try.prog 70 #[.pointer (some ⟨g194, 1, none⟩)] w fun e w' => e = .returned (.int .u64 r) ∧ Sep (fps [b2 g194 A197 m198 n199 a201, r1 A197 m198 n199 l196]) w [b2 g194 A197 m198 n199 a201, r1 A197 m198 n199 l196] w' := by
  generalize (fps [b2 g194 A197 m198 n199 a201, r1 A197 m198 n199 l196]) = FF at HS ⊢
  obtain rfl := (row_len (HS.out.at1)).symm
  unfold atomic_Uint64_Load.f at H
  go_enter Try.func70, Try.ntmps70
  have hc202 : w.cell? ⟨g194, 1, none⟩ = some (.int .u64 a201) := blk_cellv (HS.out.at0) 1 rfl
  have hn203 : (callFunc 103 #[.pointer (some ⟨g194, 1, none⟩)]).run Try.prog w = .ok (.value (.int .u64 a201)) w := run_call_load Try.func103 (by kernel_rfl) (by kernel_rfl) (by kernel_rfl) .u64 (by kernel_rfl) hc202
  go_wp2_with (first | ((with_reducible refine gate_dst (N := 6) rfl ?_); refine run_on2 (by rfl) (w1 := w) (v := .int .u64 a201) ?hr ?_; (case hr => first | (go_simp; done) | (go_simp; rfl)); intro w204 hst; clear hc202; replace HS : Aside0 (Sep FF w [b2 g194 A197 l196.length n199 a201, r1 A197 l196.length n199 l196] w204) := ⟨by rw [hst]; exact HS.out⟩; clear hst hn203))
  go_ret
  rw [← some_eq H]
  exact ⟨(by first | rfl | (simp [IntKind.wrap_u32]; done)), HS.out⟩

set_option maxHeartbeats 30000000 in
set_option maxRecDepth 100000 in
theorem store_Store_Meter.calls (l187 : List Int) (a192 : Int) (g185 : Nat) (A188 : Option Addr) (m189 : Nat) (n190 : Nat) (r : Int) (w : World)   (HS : Aside0 (Sep (fps [b2 g185 A188 m189 n190 a192, r1 A188 m189 n190 l187]) w [b2 g185 A188 m189 n190 a192, r1 A188 m189 n190 l187] w)) (H : Aside0 (store_Store_Meter.f l187 a192 = some r)) :
    Calls Try.prog 21 #[.pointer (some ⟨g185, 0, none⟩)] w fun e w' => e = .returned (.int .u64 r) ∧ Sep (fps [b2 g185 A188 m189 n190 a192, r1 A188 m189 n190 l187]) w [b2 g185 A188 m189 n190 a192, r1 A188 m189 n190 l187] w' := by
  generalize (fps [b2 g185 A188 m189 n190 a192, r1 A188 m189 n190 l187]) = FF at HS ⊢
  obtain rfl := (row_len (HS.out.at1)).symm
  unfold store_Store_Meter.f at H
  go_enter Try.func21, Try.ntmps21
  go_wp2_with fail
  obtain ⟨t205, HA206, H⟩ := bind_some H
  refine (atomic_Uint64_Load.calls l187 a192 g185 A188 l187.length n190 t205 _ ⟨HS.out.begin⟩ HA206).mono ?_
  rintro e_ w207 ⟨rfl, hS⟩
  replace HS : Aside0 (Sep FF w [b2 g185 A188 l187.length n190 a192, r1 A188 l187.length n190 l187] w207) := ⟨HS.out.call hS⟩
  clear hS
  go_wp2_with fail
  go_ret
  rw [← some_eq H]
  exact ⟨(by first | rfl | (simp [IntKind.wrap_u32]; done)), HS.out⟩

set_option maxHeartbeats 30000000 in
set_option maxRecDepth 100000 in
theorem quitrentlaw04_begun.calls  (r : Bool) (w : World)   (HS : Aside0 (Sep (fps []) w [] w)) (H : Aside0 (quitrentlaw04_begun.f = some r)) :
    Calls Try.prog 19 #[] w fun e w' => e = .returned (.bool r) ∧ Sep (fps []) w [] w' := by
  unfold quitrentlaw04_begun.f at H
  go_enter Try.func19, Try.ntmps19
  go_wp2_with fail
  obtain ⟨t46, HA47, H⟩ := bind_some H
  rcases t46 with t48 | t49
  · have H := sum_l H
    refine (store_New.calls 3 (.inl t48) _ ⟨Sep.start _⟩ HA47).mono ?_
    rintro e_ w50 ⟨rfl, hS⟩
    replace HS : Aside0 (Sep (fps []) w [] w50) := ⟨HS.out.call hS⟩
    clear hS
    go_wp2_with fail
    go_ret
    rw [← some_eq H]
    exact ⟨(by first | rfl | (simp [IntKind.wrap_u32]; done)), HS.out⟩
  · have H := sum_r H
    refine (store_New.calls 3 (.inr t49) _ ⟨Sep.start _⟩ HA47).mono ?_
    rintro e_ w51 ⟨g54, rfl, A55, m56, n57, hS⟩
    replace HS : Aside0 (Sep (fps []) w [b2 g54 A55 m56 n57 0, r1 A55 m56 n57 t49] w51) := ⟨HS.out.call hS⟩
    clear hS
    obtain rfl := (row_len (HS.out.at1)).symm
    go_wp2_with fail
    obtain ⟨t136, HA137, H⟩ := bind_some H
    refine (store_Store_Put.calls t49 0 1 7 g54 A55 t49.length n57 t136 _ ⟨HS.out.begin⟩ HA137).mono ?_
    rintro e_ w138 ⟨rfl, hS⟩
    replace HS : Aside0 (Sep (fps []) w [b2 g54 A55 t49.length n57 t136.2.1, r1 A55 t49.length n57 t136.2.2] w138) := ⟨HS.out.call hS⟩
    clear hS
    by_cases c139 : t136.1 = true
    · have H := if_yes c139 H
      have c139b0 : t136.1 = true := c139
      have c139b1 : (!t136.1) = false := by rw [c139b0]; rfl
      clear c139
      go_wp2_with fail
      obtain ⟨t176, HA177, H⟩ := bind_some H
      refine (store_Store_Get.calls t136.2.2 t136.2.1 1 g54 A55 t49.length n57 t176 _ ⟨HS.out.begin⟩ HA177).mono ?_
      rintro e_ w178 ⟨rfl, hS⟩
      replace HS : Aside0 (Sep (fps []) w [b2 g54 A55 t49.length n57 t176.2, r1 A55 t49.length n57 t136.2.2] w178) := ⟨HS.out.call hS⟩
      clear hS
      by_cases c179 : t176.1 = 7
      · have H := if_yes c179 H
        have c179b0 : (t176.1 == 7) = true := beq_iff_eq.mpr c179
        have c179b1 : (t176.1 != 7) = false := bne_eq_false_iff_eq.mpr c179
        clear c179
        go_wp2_with fail
        obtain ⟨t180, HA181, H⟩ := bind_some H
        refine (store_Store_Get.calls t136.2.2 t176.2 3 g54 A55 t49.length n57 t180 _ ⟨HS.out.begin⟩ HA181).mono ?_
        rintro e_ w182 ⟨rfl, hS⟩
        replace HS : Aside0 (Sep (fps []) w [b2 g54 A55 t49.length n57 t180.2, r1 A55 t49.length n57 t136.2.2] w182) := ⟨HS.out.call hS⟩
        clear hS
        by_cases c183 : t180.1 = 0
        · have H := if_yes c183 H
          have c183b0 : (t180.1 == 0) = true := beq_iff_eq.mpr c183
          have c183b1 : (t180.1 != 0) = false := bne_eq_false_iff_eq.mpr c183
          clear c183
          go_wp2_with fail
          obtain ⟨t208, HA209, H⟩ := bind_some H
          refine (store_Store_Meter.calls t136.2.2 t180.2 g54 A55 t49.length n57 t208 _ ⟨HS.out.begin⟩ HA209).mono ?_
          rintro e_ w210 ⟨rfl, hS⟩
          replace HS : Aside0 (Sep (fps []) w [b2 g54 A55 t49.length n57 t180.2, r1 A55 t49.length n57 t136.2.2] w210) := ⟨HS.out.call hS⟩
          clear hS
          replace HS : Aside0 (Sep (fps []) w [] w210) := ⟨HS.out.sub (.cons _ (.cons _ .slnil))⟩
          go_wp2_with fail
          go_ret
          rw [← some_eq H]
          exact ⟨(by first | rfl | (simp [IntKind.wrap_u32]; done)), HS.out⟩
        · have H := if_no c183 H
          have c183b0 : (t180.1 == 0) = false := beq_eq_false_iff_ne.mpr c183
          have c183b1 : (t180.1 != 0) = true := bne_iff_ne.mpr c183
          clear c183
          replace HS : Aside0 (Sep (fps []) w [] w182) := ⟨HS.out.sub (.cons _ (.cons _ .slnil))⟩
          go_wp2_with fail
          go_ret
          rw [← some_eq H]
          exact ⟨(by first | rfl | (simp [IntKind.wrap_u32]; done)), HS.out⟩
      · have H := if_no c179 H
        have c179b0 : (t176.1 == 7) = false := beq_eq_false_iff_ne.mpr c179
        have c179b1 : (t176.1 != 7) = true := bne_iff_ne.mpr c179
        clear c179
        replace HS : Aside0 (Sep (fps []) w [] w178) := ⟨HS.out.sub (.cons _ (.cons _ .slnil))⟩
        go_wp2_with fail
        go_ret
        rw [← some_eq H]
        exact ⟨(by first | rfl | (simp [IntKind.wrap_u32]; done)), HS.out⟩
    · have H := if_no c139 H
      have c139b0 : t136.1 = false := by simpa using c139
      have c139b1 : (!t136.1) = true := by rw [c139b0]; rfl
      clear c139
      replace HS : Aside0 (Sep (fps []) w [] w138) := ⟨HS.out.sub (.cons _ (.cons _ .slnil))⟩
      go_wp2_with fail
      go_ret
      rw [← some_eq H]
      exact ⟨(by first | rfl | (simp [IntKind.wrap_u32]; done)), HS.out⟩

set_option maxHeartbeats 30000000 in
set_option maxRecDepth 100000 in
theorem store_Store_Len.calls (l239 : List Int) (a244 : Int) (g237 : Nat) (A240 : Option Addr) (m241 : Nat) (n242 : Nat) (r : Int) (w : World)   (HS : Aside0 (Sep (fps [b2 g237 A240 m241 n242 a244, r1 A240 m241 n242 l239]) w [b2 g237 A240 m241 n242 a244, r1 A240 m241 n242 l239] w)) (H : Aside0 (store_Store_Len.f l239 a244 = some r)) :
    Calls Try.prog 28 #[.pointer (some ⟨g237, 0, none⟩)] w fun e w' => e = .returned (.int .i64 r) ∧ Sep (fps [b2 g237 A240 m241 n242 a244, r1 A240 m241 n242 l239]) w [b2 g237 A240 m241 n242 a244, r1 A240 m241 n242 l239] w' := by
  generalize (fps [b2 g237 A240 m241 n242 a244, r1 A240 m241 n242 l239]) = FF at HS ⊢
  obtain rfl := (row_len (HS.out.at1)).symm
  unfold store_Store_Len.f at H
  go_enter Try.func28, Try.ntmps28
  have hc245 : w.cell? ⟨g237, 0, none⟩ = some (.slice A240 l239.length n242) := blk_cellv (HS.out.at0) 0 rfl
  go_wp2_with fail
  clear hc245
  go_ret
  rw [← some_eq H]
  exact ⟨(by first | rfl | (simp [IntKind.wrap_u32]; done)), HS.out⟩

set_option maxHeartbeats 4000000 in
set_option maxRecDepth 100000 in
theorem slices_Clone_uint32_uint32.calls (l260 : List Int) (A261 : Option Addr) (n262 : Nat) (r : List Int) (w : World) (HR263 : Aside0 (Rd (Kd.int .u32) (fps []) w A261 l260.length l260))  (HS : Aside0 (Sep (fps []) w [] w)) (H : Aside0 (slices_Clone_uint32_uint32.f l260 = some r)) :
    Calls Try.prog 72 #[.slice A261 l260.length n262] w fun e w' => ∃ (A265 : Option Addr) (m266 : Nat) (n267 : Nat), e = .returned (.slice A265 m266 n267) ∧ Sep (fps []) w [r1 A265 m266 n267 r] w' := by
  unfold slices_Clone_uint32_uint32.f at H
  by_cases hl : l260.length ≤ 35184372088832
  · have H := if_yes hl H
    have hr := some_eq H
    subst hr
    have qT : ∀ (w : World) (a : Option Addr) (n c n' c' : Nat), (binOp .eql 22 (.slice a n c) (.slice none n' c')).run Try.prog w = .ok (.bool a.isNone) w := fun w a n c n' c' => Lib.run_eql_slice_nil w _ _ a n c n' c' Try.underlying22
    have HC := Aside0.mk HR263.out.c
    rcases A261 with _ | ad
    · have h0 : l260 = [] := by
        rcases Nat.eq_zero_or_pos l260.length with h | h
        · exact List.eq_nil_of_length_eq_zero h
        · obtain ⟨ad, e, _⟩ := HC.out.2.2 h
          cases e
      subst h0
      clear HC HR263 H hl
      go_enter Try.func72, Try.ntmps72
      go_wp2
      go_ret
      exact ⟨_, _, _, rfl, HS.out.nilrow 23 (Value.int .u32)⟩
    · clear HR263 H
      go_enter Try.func72, Try.ntmps72
      go_wp2_with (first | ((with_reducible refine gate_dst (N := 5) rfl ?_); refine slice_on (n := 0) ?hg (N := 5) ?hd (cs := #[]) (t := 23) ?hr ?_; (case hd => rfl); (case hg => rfl); (case hr => first | (go_simp; done) | (go_simp; rfl)); intro g hg w1 hbox hb; have HS_ : Aside0 (Sep (fps []) w [blk g #[] 23] w1) := ⟨HS.out.box hg hbox hb⟩; have HB := Aside0.mk (Kd.C_below HC.out (HS.out.fr.below.trans hb)); clear HS hg hbox hb HC; have HS := HS_; clear HS_) | ((with_reducible refine gate_dst (N := 7) rfl ?_); refine append_event (l1 := []) (l2 := []) rfl (.tmp 5) (.tmp 6) 22 23 (.int .u32 0) 4 rfl Try.underlying22 (by kernel_rfl) rfl (by decide) (Value.int .u32) (fun _ => rfl) (.slice (some ⟨g, 0, none⟩) 0 0) ([] : List Int) l260 ad n262 rfl rfl (C_news HB.out) (Sep.litrow (l1 := []) (l2 := []) (enc := Value.int .u32) (xs := []) (n := 0) HS.out rfl (by decide)) (by simp; omega) ⟨rfl⟩ ?_; intro A1 c1 w2 HS1; have HS_ : Aside0 (Sep (fps []) w [row 23 (Value.int .u32) (.slice A1 l260.length c1) l260] w2) := ⟨HS1⟩; clear HS HS1; have HS := HS_; clear HS_))
      go_ret
      exact ⟨_, _, _, rfl, HS.out⟩
  · exact (none_no (if_no hl H)).elim

set_option maxHeartbeats 30000000 in
set_option maxRecDepth 100000 in
theorem store_Store_Words.calls (l253 : List Int) (a258 : Int) (g251 : Nat) (A254 : Option Addr) (m255 : Nat) (n256 : Nat) (r : List Int) (w : World)   (HS : Aside0 (Sep (fps [b2 g251 A254 m255 n256 a258, r1 A254 m255 n256 l253]) w [b2 g251 A254 m255 n256 a258, r1 A254 m255 n256 l253] w)) (H : Aside0 (store_Store_Words.f l253 a258 = some r)) :
    Calls Try.prog 24 #[.pointer (some ⟨g251, 0, none⟩)] w fun e w' => ∃ (A283 : Option Addr) (m284 : Nat) (n285 : Nat), e = .returned (.slice A283 m284 n285) ∧ Sep (fps [b2 g251 A254 m255 n256 a258, r1 A254 m255 n256 l253]) w [b2 g251 A254 m255 n256 a258, r1 A254 m255 n256 l253, r1 A283 m284 n285 r] w' := by
  generalize (fps [b2 g251 A254 m255 n256 a258, r1 A254 m255 n256 l253]) = FF at HS ⊢
  obtain rfl := (row_len (HS.out.at1)).symm
  unfold store_Store_Words.f at H
  go_enter Try.func24, Try.ntmps24
  have hc259 : w.cell? ⟨g251, 0, none⟩ = some (.slice A254 l253.length n256) := blk_cellv (HS.out.at0) 0 rfl
  go_wp2_with fail
  clear hc259
  obtain ⟨t269, HA270, H⟩ := bind_some H
  refine (slices_Clone_uint32_uint32.calls l253 A254 n256 t269 _ ⟨Rd.ownI (l := []) HS.out 1 rfl⟩ ⟨Sep.start _⟩ HA270).mono ?_
  rintro e_ w271 ⟨A273, m274, n275, rfl, hS⟩
  replace HS : Aside0 (Sep FF w [r1 A273 m274 n275 t269, b2 g251 A254 l253.length n256 a258, r1 A254 l253.length n256 l253] w271) := ⟨HS.out.call hS⟩
  clear hS
  obtain rfl := (row_len (HS.out.at0)).symm
  go_wp2_with fail
  go_ret
  rw [← some_eq H]
  exact ⟨A273, t269.length, n275, (by first | rfl | (simp [IntKind.wrap_u32]; done)), (((HS.out).front 2 (by simp)).front 2 (by simp)).keep (l := [b2 g251 A254 l253.length n256 a258, r1 A254 l253.length n256 l253, r1 A273 t269.length n275 t269]) (rest := [])⟩

set_option maxHeartbeats 30000000 in
set_option maxRecDepth 100000 in
theorem store_Store_Peek.calls (l321 : List Int) (a326 : Int) (a327 : Int) (g319 : Nat) (A322 : Option Addr) (m323 : Nat) (n324 : Nat) (r : Int) (w : World)   (HS : Aside0 (Sep (fps [b2 g319 A322 m323 n324 a326, r1 A322 m323 n324 l321]) w [b2 g319 A322 m323 n324 a326, r1 A322 m323 n324 l321] w)) (H : Aside0 (store_Store_Peek.f l321 a326 a327 = some r)) :
    Calls Try.prog 20 #[.pointer (some ⟨g319, 0, none⟩), .int .i64 a327] w fun e w' => e = .returned (.int .u32 r) ∧ Sep (fps [b2 g319 A322 m323 n324 a326, r1 A322 m323 n324 l321]) w [b2 g319 A322 m323 n324 a326, r1 A322 m323 n324 l321] w' := by
  generalize (fps [b2 g319 A322 m323 n324 a326, r1 A322 m323 n324 l321]) = FF at HS ⊢
  obtain rfl := (row_len (HS.out.at1)).symm
  unfold store_Store_Peek.f at H
  go_enter Try.func20, Try.ntmps20
  go_wp2_with fail
  obtain ⟨t328, HA329, H⟩ := bind_some H
  refine (store_Store_has.calls l321 a326 a327 g319 A322 l321.length n324 t328 _ ⟨HS.out.begin⟩ HA329).mono ?_
  rintro e_ w330 ⟨rfl, hS⟩
  replace HS : Aside0 (Sep FF w [b2 g319 A322 l321.length n324 a326, r1 A322 l321.length n324 l321] w330) := ⟨HS.out.call hS⟩
  clear hS
  by_cases c331 : t328 = true
  · have H := if_yes c331 H
    have c331b0 : t328 = true := c331
    have c331b1 : (!t328) = false := by rw [c331b0]; rfl
    try rw [c331b1]
    clear c331
    by_cases c333 : 0 ≤ a327
    · have H := if_yes c333 H
      have c333b0 : decide (0 ≤ a327) = true := decide_eq_true c333
      have c333p : (0 ≤ a327) = True := eq_true c333
      clear c333
      by_cases c334 : a327 < (l321.length : Int)
      · have H := if_yes c334 H
        have c334b0 : decide (a327 < (l321.length : Int)) = true := decide_eq_true c334
        have c334p : (a327 < (l321.length : Int)) = True := eq_true c334
        clear c334
        have hc332 : w330.cell? ⟨g319, 0, none⟩ = some (.slice A322 l321.length n324) := blk_cellv (HS.out.at0) 0 rfl
        obtain ⟨g335, ea⟩ := row_at (HS.out.at1) (by have := (of_decide_eq_true c333b0); have := (of_decide_eq_true c334b0); omega); cases ea
        have hx336 := C_at_int (row_Ci (HS.out.at1)) a327 (of_decide_eq_true c333b0) (of_decide_eq_true c334b0)
        have hx337 : w330.cell? ⟨g335, (a327).toNat, none⟩ = some (.int .u32 (rd l321 a327)) := (row_get 0 (HS.out.at1) a327 (of_decide_eq_true c333b0) (of_decide_eq_true c334b0)).1
        go_wp2_with fail
        clear hc332 hx336 hx337
        go_ret
        rw [← some_eq H]
        exact ⟨(by first | rfl | (simp [IntKind.wrap_u32]; done)), HS.out⟩
      · have H := if_no c334 H
        have c334b0 : decide (a327 < (l321.length : Int)) = false := decide_eq_false c334
        clear c334
        exact (none_no H).elim
    · have H := if_no c333 H
      have c333b0 : decide (0 ≤ a327) = false := decide_eq_false c333
      clear c333
      exact (none_no H).elim
  · have H := if_no c331 H
    have c331b0 : t328 = false := by simpa using c331
    have c331b1 : (!t328) = true := by rw [c331b0]; rfl
    try rw [c331b1]
    clear c331
    go_wp2_with fail
    go_ret
    rw [← some_eq H]
    exact ⟨(by first | rfl | (simp [IntKind.wrap_u32]; done)), HS.out⟩

set_option maxHeartbeats 30000000 in
set_option maxRecDepth 100000 in
theorem store_Store_Load.calls (l345 : List Int) (a350 : Int) (l351 : List Int) (g343 : Nat) (A346 : Option Addr) (m347 : Nat) (n348 : Nat) (A352 : Option Addr) (n353 : Nat) (r : Bool × List Int) (w : World) (HR354 : Aside0 (Rd (Kd.int .u32) (fps [b2 g343 A346 m347 n348 a350, r1 A346 m347 n348 l345]) w A352 l351.length l351))  (HS : Aside0 (Sep (fps [b2 g343 A346 m347 n348 a350, r1 A346 m347 n348 l345]) w [b2 g343 A346 m347 n348 a350, r1 A346 m347 n348 l345] w)) (H : Aside0 (store_Store_Load.f l345 a350 l351 = some r)) :
    Calls Try.prog 18 #[.pointer (some ⟨g343, 0, none⟩), .slice A352 l351.length n353] w fun e w' => e = .returned (.bool r.1) ∧ Sep (fps [b2 g343 A346 m347 n348 a350, r1 A346 m347 n348 l345]) w [b2 g343 A346 m347 n348 a350, r1 A346 m347 n348 r.2] w' := by
  generalize (fps [b2 g343 A346 m347 n348 a350, r1 A346 m347 n348 l345]) = FF at HS HR354 ⊢
  obtain rfl := (row_len (HS.out.at1)).symm
  unfold store_Store_Load.f at H
  go_enter Try.func18, Try.ntmps18
  by_cases c361 : (l351.length : Int) = (l345.length : Int)
  · have H := if_yes c361 H
    have c361b0 : ((l351.length : Int) == (l345.length : Int)) = true := beq_iff_eq.mpr c361
    have c361b1 : ((l351.length : Int) != (l345.length : Int)) = false := bne_eq_false_iff_eq.mpr c361
    clear c361
    obtain ⟨y362, HA363, H⟩ := bind_some H
    have hc360 : w.cell? ⟨g343, 0, none⟩ = some (.slice A346 l345.length n348) := blk_cellv (HS.out.at0) 0 rfl
    go_wp2_with (first | ((with_reducible refine gate_dst (N := 22) rfl ?_); refine copy_event (l1 := [b2 g343 A346 l345.length n348 a350]) (l2 := []) rfl (.tmp 20) (.tmp 21) 22 22 23 rfl Try.underlying22 (by kernel_rfl) (enc := Value.int .u32) (h1 := fun _ => rfl) 0 (.slice A346 l345.length n348) l345 l351 A352 l351.length n353 rfl rfl (Rd.read (fun _ _ _ _ h => h) HR354.out HS.out.fr) HS.out HA363 ?_; intro w364 HS1; clear hc360; replace HS : Aside0 (Sep FF w [b2 g343 A346 l345.length n348 a350, r1 A346 l345.length n348 y362] w364) := ⟨HS1⟩; clear HS1))
    go_ret
    rw [← some_eq H]
    exact ⟨(by first | rfl | (simp [IntKind.wrap_u32]; done)), HS.out⟩
  · have H := if_no c361 H
    have c361b0 : ((l351.length : Int) == (l345.length : Int)) = false := beq_eq_false_iff_ne.mpr c361
    have c361b1 : ((l351.length : Int) != (l345.length : Int)) = true := bne_iff_ne.mpr c361
    clear c361
    have hc360 : w.cell? ⟨g343, 0, none⟩ = some (.slice A346 l345.length n348) := blk_cellv (HS.out.at0) 0 rfl
    go_wp2_with fail
    clear hc360
    go_ret
    rw [← some_eq H]
    exact ⟨(by first | rfl | (simp [IntKind.wrap_u32]; done)), HS.out⟩

set_option maxHeartbeats 30000000 in
set_option maxRecDepth 100000 in
theorem quitrentlaw04_StoreMakes.calls (a1 : Int) (a2 : Int) (r : Bool) (w : World)   (HS : Aside0 (Sep (fps []) w [] w)) (H : Aside0 (quitrentlaw04_StoreMakes.f a1 a2 = some r)) :
    Calls Try.prog 5 #[.int .i64 a1, .int .i64 a2] w fun e w' => e = .returned (.bool r) ∧ Sep (fps []) w [] w' := by
  unfold quitrentlaw04_StoreMakes.f at H
  go_enter Try.func5, Try.ntmps5
  by_cases c3 : a1 > 5000
  · have H := if_yes c3 H
    have c3b0 : decide (5000 < a1) = true := decide_eq_true c3
    clear c3
    by_cases c4 : a1 ≤ 8388608
    · have H := if_yes c4 H
      have c4b0 : decide (a1 ≤ 8388608) = true := decide_eq_true c4
      clear c4
      go_wp2_with fail
      obtain ⟨t211, HA212, H⟩ := bind_some H
      refine (quitrentlaw04_begun.calls t211 _ ⟨Sep.start _⟩ HA212).mono ?_
      rintro e_ w213 ⟨rfl, hS⟩
      replace HS : Aside0 (Sep (fps []) w [] w213) := ⟨HS.out.call hS⟩
      clear hS
      go_wp2_with fail
      go_ret
      rw [← some_eq H]
      exact ⟨(by first | rfl | (simp [IntKind.wrap_u32]; done)), HS.out⟩
    · have H := if_no c4 H
      have c4b0 : decide (a1 ≤ 8388608) = false := decide_eq_false c4
      clear c4
      go_wp2_with fail
      obtain ⟨t214, HA215, H⟩ := bind_some H
      rcases t214 with t216 | t217
      · have H := sum_l H
        refine (store_New.calls a1 (.inl t216) _ ⟨Sep.start _⟩ HA215).mono ?_
        rintro e_ w218 ⟨rfl, hS⟩
        replace HS : Aside0 (Sep (fps []) w [] w218) := ⟨HS.out.call hS⟩
        clear hS
        by_cases c219 : a1 < 0
        · have H := if_yes c219 H
          have c219b0 : decide (a1 < 0) = true := decide_eq_true c219
          clear c219
          go_wp2_with fail
          obtain ⟨t220, HA221, H⟩ := bind_some H
          refine (quitrentlaw04_begun.calls t220 _ ⟨Sep.start _⟩ HA221).mono ?_
          rintro e_ w222 ⟨rfl, hS⟩
          replace HS : Aside0 (Sep (fps []) w [] w222) := ⟨HS.out.call hS⟩
          clear hS
          go_wp2_with fail
          go_ret
          rw [← some_eq H]
          exact ⟨(by first | rfl | (simp [IntKind.wrap_u32]; done)), HS.out⟩
        · have H := if_no c219 H
          have c219b0 : decide (a1 < 0) = false := decide_eq_false c219
          clear c219
          by_cases c223 : a1 > 8388608
          · have H := if_yes c223 H
            have c223b0 : decide (8388608 < a1) = true := decide_eq_true c223
            clear c223
            go_wp2_with fail
            obtain ⟨t220, HA224, H⟩ := bind_some H
            refine (quitrentlaw04_begun.calls t220 _ ⟨Sep.start _⟩ HA224).mono ?_
            rintro e_ w225 ⟨rfl, hS⟩
            replace HS : Aside0 (Sep (fps []) w [] w225) := ⟨HS.out.call hS⟩
            clear hS
            go_wp2_with fail
            go_ret
            rw [← some_eq H]
            exact ⟨(by first | rfl | (simp [IntKind.wrap_u32]; done)), HS.out⟩
          · have H := if_no c223 H
            have c223b0 : decide (8388608 < a1) = false := decide_eq_false c223
            clear c223
            go_wp2_with fail
            go_ret
            rw [← some_eq H]
            exact ⟨(by first | rfl | (simp [IntKind.wrap_u32]; done)), HS.out⟩
      · have H := sum_r H
        refine (store_New.calls a1 (.inr t217) _ ⟨Sep.start _⟩ HA215).mono ?_
        rintro e_ w226 ⟨g229, rfl, A230, m231, n232, hS⟩
        replace HS : Aside0 (Sep (fps []) w [b2 g229 A230 m231 n232 0, r1 A230 m231 n232 t217] w226) := ⟨HS.out.call hS⟩
        clear hS
        obtain rfl := (row_len (HS.out.at1)).symm
        by_cases c234 : a1 < 0
        · have H := if_yes c234 H
          have c234b0 : decide (a1 < 0) = true := decide_eq_true c234
          clear c234
          replace HS : Aside0 (Sep (fps []) w [] w226) := ⟨HS.out.sub (.cons _ (.cons _ .slnil))⟩
          go_wp2_with fail
          go_ret
          rw [← some_eq H]
          exact ⟨(by first | rfl | (simp [IntKind.wrap_u32]; done)), HS.out⟩
        · have H := if_no c234 H
          have c234b0 : decide (a1 < 0) = false := decide_eq_false c234
          clear c234
          by_cases c235 : a1 > 8388608
          · have H := if_yes c235 H
            have c235b0 : decide (8388608 < a1) = true := decide_eq_true c235
            clear c235
            replace HS : Aside0 (Sep (fps []) w [] w226) := ⟨HS.out.sub (.cons _ (.cons _ .slnil))⟩
            go_wp2_with fail
            go_ret
            rw [← some_eq H]
            exact ⟨(by first | rfl | (simp [IntKind.wrap_u32]; done)), HS.out⟩
          · have H := if_no c235 H
            have c235b0 : decide (8388608 < a1) = false := decide_eq_false c235
            clear c235
            go_wp2_with fail
            obtain ⟨t246, HA247, H⟩ := bind_some H
            refine (store_Store_Len.calls t217 0 g229 A230 t217.length n232 t246 _ ⟨HS.out.begin⟩ HA247).mono ?_
            rintro e_ w248 ⟨rfl, hS⟩
            replace HS : Aside0 (Sep (fps []) w [b2 g229 A230 t217.length n232 0, r1 A230 t217.length n232 t217] w248) := ⟨HS.out.call hS⟩
            clear hS
            by_cases c249 : t246 = a1
            · have H := if_yes c249 H
              have c249b0 : (t246 == a1) = true := beq_iff_eq.mpr c249
              have c249b1 : (t246 != a1) = false := bne_eq_false_iff_eq.mpr c249
              clear c249
              go_wp2_with fail
              obtain ⟨t287, HA288, H⟩ := bind_some H
              refine (store_Store_Words.calls t217 0 g229 A230 t217.length n232 t287 _ ⟨HS.out.begin⟩ HA288).mono ?_
              rintro e_ w289 ⟨A291, m292, n293, rfl, hS⟩
              replace HS : Aside0 (Sep (fps []) w [b2 g229 A230 t217.length n232 0, r1 A230 t217.length n232 t217, r1 A291 m292 n293 t287] w289) := ⟨HS.out.call hS⟩
              clear hS
              obtain rfl := (row_len (HS.out.at2)).symm
              by_cases c295 : (t287.length : Int) = a1
              · have H := if_yes c295 H
                have c295b0 : ((t287.length : Int) == a1) = true := beq_iff_eq.mpr c295
                have c295b1 : ((t287.length : Int) != a1) = false := bne_eq_false_iff_eq.mpr c295
                clear c295
                go_wp2_with fail
                obtain ⟨t296, HA297, H⟩ := bind_some H
                refine (store_Store_Meter.calls t217 0 g229 A230 t217.length n232 t296 _ ⟨HS.out.begin⟩ HA297).mono ?_
                rintro e_ w298 ⟨rfl, hS⟩
                replace HS : Aside0 (Sep (fps []) w [b2 g229 A230 t217.length n232 0, r1 A230 t217.length n232 t217, r1 A291 t287.length n293 t287] w298) := ⟨HS.out.call hS⟩
                clear hS
                by_cases c299 : t296 = 0
                · have H := if_yes c299 H
                  have c299b0 : (t296 == 0) = true := beq_iff_eq.mpr c299
                  have c299b1 : (t296 != 0) = false := bne_eq_false_iff_eq.mpr c299
                  clear c299
                  replace HS : Aside0 (Sep (fps []) w [b2 g229 A230 t217.length n232 0, r1 A230 t217.length n232 t217] w298) := ⟨HS.out.sub (.cons_cons _ (.cons_cons _ (.cons _ .slnil)))⟩
                  go_wp2_with fail
                  obtain ⟨t300, HA301, H⟩ := bind_some H
                  refine (store_Store_Words.calls t217 0 g229 A230 t217.length n232 t300 _ ⟨HS.out.begin⟩ HA301).mono ?_
                  rintro e_ w302 ⟨A304, m305, n306, rfl, hS⟩
                  replace HS : Aside0 (Sep (fps []) w [b2 g229 A230 t217.length n232 0, r1 A230 t217.length n232 t217, r1 A304 m305 n306 t300] w302) := ⟨HS.out.call hS⟩
                  clear hS
                  obtain rfl := (row_len (HS.out.at2)).symm
                  by_cases c308 : a2 ≥ 0
                  · have H := if_yes c308 H
                    have c308b0 : decide (0 ≤ a2) = true := decide_eq_true c308
                    clear c308
                    by_cases c309 : a2 < a1
                    · have H := if_yes c309 H
                      have c309b0 : decide (a2 < a1) = true := decide_eq_true c309
                      clear c309
                      by_cases c310 : 0 ≤ a2
                      · have H := if_yes c310 H
                        have c310b0 : decide (0 ≤ a2) = true := decide_eq_true c310
                        have c310p : (0 ≤ a2) = True := eq_true c310
                        clear c310
                        by_cases c311 : a2 < (t300.length : Int)
                        · have H := if_yes c311 H
                          have c311b0 : decide (a2 < (t300.length : Int)) = true := decide_eq_true c311
                          have c311p : (a2 < (t300.length : Int)) = True := eq_true c311
                          clear c311
                          obtain ⟨y314, HA315, H⟩ := bind_some H
                          obtain ⟨g312, ea⟩ := row_at (HS.out.at2) (by have := (of_decide_eq_true c310b0); have := (of_decide_eq_true c311b0); omega); cases ea
                          have hx316 := (row_get 0 (HS.out.at2) a2 (of_decide_eq_true c310b0) (of_decide_eq_true c311b0)).1
                          have hz317 := (row_get 0 (HS.out.at2) a2 (of_decide_eq_true c310b0) (of_decide_eq_true c311b0)).2
                          go_wp2_with (first | ((with_reducible refine gate_store (t := 23) (p := 70) rfl ?_); refine store_event (w1 := World.setCell w302 ⟨g312, (a2).toNat, none⟩ (.int .u32 9)) rfl (t := 23) (p := 70) rfl rfl ?hr ?_; (case hr => first | (go_simp; done) | (go_simp; rfl)); intro w313 hst; clear hx316 hz317; have hq := Sep.rowset (l1 := [b2 g229 A230 t217.length n232 0, r1 A230 t217.length n232 t217]) (l2 := []) HS.out a2 9; rw [← hst, some_eq HA315] at hq; replace HS : Aside0 (Sep (fps []) w [b2 g229 A230 t217.length n232 0, r1 A230 t217.length n232 t217, r1 (some ⟨g312, 0, none⟩) t300.length n306 y314] w313) := ⟨hq⟩; clear hst hq))
                          obtain ⟨t338, HA339, H⟩ := bind_some H
                          refine (store_Store_Peek.calls t217 0 a2 g229 A230 t217.length n232 t338 _ ⟨HS.out.begin⟩ HA339).mono ?_
                          rintro e_ w340 ⟨rfl, hS⟩
                          replace HS : Aside0 (Sep (fps []) w [b2 g229 A230 t217.length n232 0, r1 A230 t217.length n232 t217, r1 (some ⟨g312, 0, none⟩) t300.length n306 y314] w340) := ⟨HS.out.call hS⟩
                          clear hS
                          by_cases c341 : t338 = 0
                          · have H := if_yes c341 H
                            have c341b0 : (t338 == 0) = true := beq_iff_eq.mpr c341
                            have c341b1 : (t338 != 0) = false := bne_eq_false_iff_eq.mpr c341
                            clear c341
                            go_wp2_with fail
                            have hl_ := row_len (HS.out.at2)
                            rw [← hl_] at HS ⊢
                            clear hl_
                            obtain ⟨t365, HA366, H⟩ := bind_some H
                            refine (store_Store_Load.calls t217 0 y314 g229 A230 t217.length n232 (some ⟨g312, 0, none⟩) n306 t365 _ ⟨Rd.ownI  HS.out 0 rfl⟩ ⟨HS.out.begin⟩ HA366).mono ?_
                            rintro e_ w367 ⟨rfl, hS⟩
                            replace HS : Aside0 (Sep (fps []) w [b2 g229 A230 t217.length n232 0, r1 A230 t217.length n232 t365.2, r1 (some ⟨g312, 0, none⟩) y314.length n306 y314] w367) := ⟨HS.out.call hS⟩
                            clear hS
                            by_cases c368 : t365.1 = true
                            · have H := if_yes c368 H
                              have c368b0 : t365.1 = true := c368
                              have c368b1 : (!t365.1) = false := by rw [c368b0]; rfl
                              clear c368
                              go_wp2_with fail
                              obtain ⟨t369, HA370, H⟩ := bind_some H
                              refine (store_Store_Peek.calls t365.2 0 a2 g229 A230 t217.length n232 t369 _ ⟨HS.out.begin⟩ HA370).mono ?_
                              rintro e_ w371 ⟨rfl, hS⟩
                              replace HS : Aside0 (Sep (fps []) w [b2 g229 A230 t217.length n232 0, r1 A230 t217.length n232 t365.2, r1 (some ⟨g312, 0, none⟩) y314.length n306 y314] w371) := ⟨HS.out.call hS⟩
                              clear hS
                              by_cases c372 : t369 = 9
                              · have H := if_yes c372 H
                                have c372b0 : (t369 == 9) = true := beq_iff_eq.mpr c372
                                have c372b1 : (t369 != 9) = false := bne_eq_false_iff_eq.mpr c372
                                clear c372
                                go_wp2_with fail
                                obtain ⟨t373, HA374, H⟩ := bind_some H
                                refine (store_Store_Meter.calls t365.2 0 g229 A230 t217.length n232 t373 _ ⟨HS.out.begin⟩ HA374).mono ?_
                                rintro e_ w375 ⟨rfl, hS⟩
                                replace HS : Aside0 (Sep (fps []) w [b2 g229 A230 t217.length n232 0, r1 A230 t217.length n232 t365.2, r1 (some ⟨g312, 0, none⟩) y314.length n306 y314] w375) := ⟨HS.out.call hS⟩
                                clear hS
                                by_cases c376 : t373 = 0
                                · have H := if_yes c376 H
                                  have c376b0 : (t373 == 0) = true := beq_iff_eq.mpr c376
                                  have c376b1 : (t373 != 0) = false := bne_eq_false_iff_eq.mpr c376
                                  clear c376
                                  go_wp2_with fail
                                  obtain ⟨t377, HA378, H⟩ := bind_some H
                                  refine (quitrentlaw04_begun.calls t377 _ ⟨Sep.start _⟩ HA378).mono ?_
                                  rintro e_ w379 ⟨rfl, hS⟩
                                  replace HS : Aside0 (Sep (fps []) w [b2 g229 A230 t217.length n232 0, r1 A230 t217.length n232 t365.2, r1 (some ⟨g312, 0, none⟩) y314.length n306 y314] w379) := ⟨HS.out.call hS⟩
                                  clear hS
                                  replace HS : Aside0 (Sep (fps []) w [] w379) := ⟨HS.out.sub (.cons _ (.cons _ (.cons _ .slnil)))⟩
                                  go_wp2_with fail
                                  go_ret
                                  rw [← some_eq H]
                                  exact ⟨(by first | rfl | (simp [IntKind.wrap_u32]; done)), HS.out⟩
                                · have H := if_no c376 H
                                  have c376b0 : (t373 == 0) = false := beq_eq_false_iff_ne.mpr c376
                                  have c376b1 : (t373 != 0) = true := bne_iff_ne.mpr c376
                                  clear c376
                                  replace HS : Aside0 (Sep (fps []) w [] w375) := ⟨HS.out.sub (.cons _ (.cons _ (.cons _ .slnil)))⟩
                                  go_wp2_with fail
                                  go_ret
                                  rw [← some_eq H]
                                  exact ⟨(by first | rfl | (simp [IntKind.wrap_u32]; done)), HS.out⟩
                              · have H := if_no c372 H
                                have c372b0 : (t369 == 9) = false := beq_eq_false_iff_ne.mpr c372
                                have c372b1 : (t369 != 9) = true := bne_iff_ne.mpr c372
                                clear c372
                                replace HS : Aside0 (Sep (fps []) w [] w371) := ⟨HS.out.sub (.cons _ (.cons _ (.cons _ .slnil)))⟩
                                go_wp2_with fail
                                go_ret
                                rw [← some_eq H]
                                exact ⟨(by first | rfl | (simp [IntKind.wrap_u32]; done)), HS.out⟩
                            · have H := if_no c368 H
                              have c368b0 : t365.1 = false := by simpa using c368
                              have c368b1 : (!t365.1) = true := by rw [c368b0]; rfl
                              clear c368
                              replace HS : Aside0 (Sep (fps []) w [] w367) := ⟨HS.out.sub (.cons _ (.cons _ (.cons _ .slnil)))⟩
                              go_wp2_with fail
                              go_ret
                              rw [← some_eq H]
                              exact ⟨(by first | rfl | (simp [IntKind.wrap_u32]; done)), HS.out⟩
                          · have H := if_no c341 H
                            have c341b0 : (t338 == 0) = false := beq_eq_false_iff_ne.mpr c341
                            have c341b1 : (t338 != 0) = true := bne_iff_ne.mpr c341
                            clear c341
                            replace HS : Aside0 (Sep (fps []) w [] w340) := ⟨HS.out.sub (.cons _ (.cons _ (.cons _ .slnil)))⟩
                            go_wp2_with fail
                            go_ret
                            rw [← some_eq H]
                            exact ⟨(by first | rfl | (simp [IntKind.wrap_u32]; done)), HS.out⟩
                        · have H := if_no c311 H
                          have c311b0 : decide (a2 < (t300.length : Int)) = false := decide_eq_false c311
                          clear c311
                          exact (none_no H).elim
                      · have H := if_no c310 H
                        have c310b0 : decide (0 ≤ a2) = false := decide_eq_false c310
                        clear c310
                        exact (none_no H).elim
                    · have H := if_no c309 H
                      have c309b0 : decide (a2 < a1) = false := decide_eq_false c309
                      clear c309
                      go_wp2_with fail
                      obtain ⟨t380, HA381, H⟩ := bind_some H
                      refine (quitrentlaw04_begun.calls t380 _ ⟨Sep.start _⟩ HA381).mono ?_
                      rintro e_ w382 ⟨rfl, hS⟩
                      replace HS : Aside0 (Sep (fps []) w [b2 g229 A230 t217.length n232 0, r1 A230 t217.length n232 t217, r1 A304 t300.length n306 t300] w382) := ⟨HS.out.call hS⟩
                      clear hS
                      replace HS : Aside0 (Sep (fps []) w [] w382) := ⟨HS.out.sub (.cons _ (.cons _ (.cons _ .slnil)))⟩
                      go_wp2_with fail
                      go_ret
                      rw [← some_eq H]
                      exact ⟨(by first | rfl | (simp [IntKind.wrap_u32]; done)), HS.out⟩
                  · have H := if_no c308 H
                    have c308b0 : decide (0 ≤ a2) = false := decide_eq_false c308
                    clear c308
                    go_wp2_with fail
                    obtain ⟨t380, HA383, H⟩ := bind_some H
                    refine (quitrentlaw04_begun.calls t380 _ ⟨Sep.start _⟩ HA383).mono ?_
                    rintro e_ w384 ⟨rfl, hS⟩
                    replace HS : Aside0 (Sep (fps []) w [b2 g229 A230 t217.length n232 0, r1 A230 t217.length n232 t217, r1 A304 t300.length n306 t300] w384) := ⟨HS.out.call hS⟩
                    clear hS
                    replace HS : Aside0 (Sep (fps []) w [] w384) := ⟨HS.out.sub (.cons _ (.cons _ (.cons _ .slnil)))⟩
                    go_wp2_with fail
                    go_ret
                    rw [← some_eq H]
                    exact ⟨(by first | rfl | (simp [IntKind.wrap_u32]; done)), HS.out⟩
                · have H := if_no c299 H
                  have c299b0 : (t296 == 0) = false := beq_eq_false_iff_ne.mpr c299
                  have c299b1 : (t296 != 0) = true := bne_iff_ne.mpr c299
                  clear c299
                  replace HS : Aside0 (Sep (fps []) w [b2 g229 A230 t217.length n232 0, r1 A230 t217.length n232 t217] w298) := ⟨HS.out.sub (.cons_cons _ (.cons_cons _ (.cons _ .slnil)))⟩
                  replace HS : Aside0 (Sep (fps []) w [] w298) := ⟨HS.out.sub (.cons _ (.cons _ .slnil))⟩
                  go_wp2_with fail
                  go_ret
                  rw [← some_eq H]
                  exact ⟨(by first | rfl | (simp [IntKind.wrap_u32]; done)), HS.out⟩
              · have H := if_no c295 H
                have c295b0 : ((t287.length : Int) == a1) = false := beq_eq_false_iff_ne.mpr c295
                have c295b1 : ((t287.length : Int) != a1) = true := bne_iff_ne.mpr c295
                clear c295
                replace HS : Aside0 (Sep (fps []) w [b2 g229 A230 t217.length n232 0, r1 A230 t217.length n232 t217] w289) := ⟨HS.out.sub (.cons_cons _ (.cons_cons _ (.cons _ .slnil)))⟩
                replace HS : Aside0 (Sep (fps []) w [] w289) := ⟨HS.out.sub (.cons _ (.cons _ .slnil))⟩
                go_wp2_with fail
                go_ret
                rw [← some_eq H]
                exact ⟨(by first | rfl | (simp [IntKind.wrap_u32]; done)), HS.out⟩
            · have H := if_no c249 H
              have c249b0 : (t246 == a1) = false := beq_eq_false_iff_ne.mpr c249
              have c249b1 : (t246 != a1) = true := bne_iff_ne.mpr c249
              clear c249
              replace HS : Aside0 (Sep (fps []) w [] w248) := ⟨HS.out.sub (.cons _ (.cons _ .slnil))⟩
              go_wp2_with fail
              go_ret
              rw [← some_eq H]
              exact ⟨(by first | rfl | (simp [IntKind.wrap_u32]; done)), HS.out⟩
  · have H := if_no c3 H
    have c3b0 : decide (5000 < a1) = false := decide_eq_false c3
    clear c3
    go_wp2_with fail
    obtain ⟨t214, HA385, H⟩ := bind_some H
    rcases t214 with t216 | t217
    · have H := sum_l H
      refine (store_New.calls a1 (.inl t216) _ ⟨Sep.start _⟩ HA385).mono ?_
      rintro e_ w386 ⟨rfl, hS⟩
      replace HS : Aside0 (Sep (fps []) w [] w386) := ⟨HS.out.call hS⟩
      clear hS
      by_cases c387 : a1 < 0
      · have H := if_yes c387 H
        have c387b0 : decide (a1 < 0) = true := decide_eq_true c387
        clear c387
        go_wp2_with fail
        obtain ⟨t220, HA388, H⟩ := bind_some H
        refine (quitrentlaw04_begun.calls t220 _ ⟨Sep.start _⟩ HA388).mono ?_
        rintro e_ w389 ⟨rfl, hS⟩
        replace HS : Aside0 (Sep (fps []) w [] w389) := ⟨HS.out.call hS⟩
        clear hS
        go_wp2_with fail
        go_ret
        rw [← some_eq H]
        exact ⟨(by first | rfl | (simp [IntKind.wrap_u32]; done)), HS.out⟩
      · have H := if_no c387 H
        have c387b0 : decide (a1 < 0) = false := decide_eq_false c387
        clear c387
        by_cases c390 : a1 > 8388608
        · have H := if_yes c390 H
          have c390b0 : decide (8388608 < a1) = true := decide_eq_true c390
          clear c390
          go_wp2_with fail
          obtain ⟨t220, HA391, H⟩ := bind_some H
          refine (quitrentlaw04_begun.calls t220 _ ⟨Sep.start _⟩ HA391).mono ?_
          rintro e_ w392 ⟨rfl, hS⟩
          replace HS : Aside0 (Sep (fps []) w [] w392) := ⟨HS.out.call hS⟩
          clear hS
          go_wp2_with fail
          go_ret
          rw [← some_eq H]
          exact ⟨(by first | rfl | (simp [IntKind.wrap_u32]; done)), HS.out⟩
        · have H := if_no c390 H
          have c390b0 : decide (8388608 < a1) = false := decide_eq_false c390
          clear c390
          go_wp2_with fail
          go_ret
          rw [← some_eq H]
          exact ⟨(by first | rfl | (simp [IntKind.wrap_u32]; done)), HS.out⟩
    · have H := sum_r H
      refine (store_New.calls a1 (.inr t217) _ ⟨Sep.start _⟩ HA385).mono ?_
      rintro e_ w393 ⟨g396, rfl, A397, m398, n399, hS⟩
      replace HS : Aside0 (Sep (fps []) w [b2 g396 A397 m398 n399 0, r1 A397 m398 n399 t217] w393) := ⟨HS.out.call hS⟩
      clear hS
      obtain rfl := (row_len (HS.out.at1)).symm
      by_cases c401 : a1 < 0
      · have H := if_yes c401 H
        have c401b0 : decide (a1 < 0) = true := decide_eq_true c401
        clear c401
        replace HS : Aside0 (Sep (fps []) w [] w393) := ⟨HS.out.sub (.cons _ (.cons _ .slnil))⟩
        go_wp2_with fail
        go_ret
        rw [← some_eq H]
        exact ⟨(by first | rfl | (simp [IntKind.wrap_u32]; done)), HS.out⟩
      · have H := if_no c401 H
        have c401b0 : decide (a1 < 0) = false := decide_eq_false c401
        clear c401
        by_cases c402 : a1 > 8388608
        · have H := if_yes c402 H
          have c402b0 : decide (8388608 < a1) = true := decide_eq_true c402
          clear c402
          replace HS : Aside0 (Sep (fps []) w [] w393) := ⟨HS.out.sub (.cons _ (.cons _ .slnil))⟩
          go_wp2_with fail
          go_ret
          rw [← some_eq H]
          exact ⟨(by first | rfl | (simp [IntKind.wrap_u32]; done)), HS.out⟩
        · have H := if_no c402 H
          have c402b0 : decide (8388608 < a1) = false := decide_eq_false c402
          clear c402
          go_wp2_with fail
          obtain ⟨t246, HA403, H⟩ := bind_some H
          refine (store_Store_Len.calls t217 0 g396 A397 t217.length n399 t246 _ ⟨HS.out.begin⟩ HA403).mono ?_
          rintro e_ w404 ⟨rfl, hS⟩
          replace HS : Aside0 (Sep (fps []) w [b2 g396 A397 t217.length n399 0, r1 A397 t217.length n399 t217] w404) := ⟨HS.out.call hS⟩
          clear hS
          by_cases c405 : t246 = a1
          · have H := if_yes c405 H
            have c405b0 : (t246 == a1) = true := beq_iff_eq.mpr c405
            have c405b1 : (t246 != a1) = false := bne_eq_false_iff_eq.mpr c405
            clear c405
            go_wp2_with fail
            obtain ⟨t287, HA406, H⟩ := bind_some H
            refine (store_Store_Words.calls t217 0 g396 A397 t217.length n399 t287 _ ⟨HS.out.begin⟩ HA406).mono ?_
            rintro e_ w407 ⟨A409, m410, n411, rfl, hS⟩
            replace HS : Aside0 (Sep (fps []) w [b2 g396 A397 t217.length n399 0, r1 A397 t217.length n399 t217, r1 A409 m410 n411 t287] w407) := ⟨HS.out.call hS⟩
            clear hS
            obtain rfl := (row_len (HS.out.at2)).symm
            by_cases c413 : (t287.length : Int) = a1
            · have H := if_yes c413 H
              have c413b0 : ((t287.length : Int) == a1) = true := beq_iff_eq.mpr c413
              have c413b1 : ((t287.length : Int) != a1) = false := bne_eq_false_iff_eq.mpr c413
              clear c413
              go_wp2_with fail
              obtain ⟨t296, HA414, H⟩ := bind_some H
              refine (store_Store_Meter.calls t217 0 g396 A397 t217.length n399 t296 _ ⟨HS.out.begin⟩ HA414).mono ?_
              rintro e_ w415 ⟨rfl, hS⟩
              replace HS : Aside0 (Sep (fps []) w [b2 g396 A397 t217.length n399 0, r1 A397 t217.length n399 t217, r1 A409 t287.length n411 t287] w415) := ⟨HS.out.call hS⟩
              clear hS
              by_cases c416 : t296 = 0
              · have H := if_yes c416 H
                have c416b0 : (t296 == 0) = true := beq_iff_eq.mpr c416
                have c416b1 : (t296 != 0) = false := bne_eq_false_iff_eq.mpr c416
                clear c416
                replace HS : Aside0 (Sep (fps []) w [b2 g396 A397 t217.length n399 0, r1 A397 t217.length n399 t217] w415) := ⟨HS.out.sub (.cons_cons _ (.cons_cons _ (.cons _ .slnil)))⟩
                go_wp2_with fail
                obtain ⟨t300, HA417, H⟩ := bind_some H
                refine (store_Store_Words.calls t217 0 g396 A397 t217.length n399 t300 _ ⟨HS.out.begin⟩ HA417).mono ?_
                rintro e_ w418 ⟨A420, m421, n422, rfl, hS⟩
                replace HS : Aside0 (Sep (fps []) w [b2 g396 A397 t217.length n399 0, r1 A397 t217.length n399 t217, r1 A420 m421 n422 t300] w418) := ⟨HS.out.call hS⟩
                clear hS
                obtain rfl := (row_len (HS.out.at2)).symm
                by_cases c424 : a2 ≥ 0
                · have H := if_yes c424 H
                  have c424b0 : decide (0 ≤ a2) = true := decide_eq_true c424
                  clear c424
                  by_cases c425 : a2 < a1
                  · have H := if_yes c425 H
                    have c425b0 : decide (a2 < a1) = true := decide_eq_true c425
                    clear c425
                    by_cases c426 : 0 ≤ a2
                    · have H := if_yes c426 H
                      have c426b0 : decide (0 ≤ a2) = true := decide_eq_true c426
                      have c426p : (0 ≤ a2) = True := eq_true c426
                      clear c426
                      by_cases c427 : a2 < (t300.length : Int)
                      · have H := if_yes c427 H
                        have c427b0 : decide (a2 < (t300.length : Int)) = true := decide_eq_true c427
                        have c427p : (a2 < (t300.length : Int)) = True := eq_true c427
                        clear c427
                        obtain ⟨y314, HA430, H⟩ := bind_some H
                        obtain ⟨g428, ea⟩ := row_at (HS.out.at2) (by have := (of_decide_eq_true c426b0); have := (of_decide_eq_true c427b0); omega); cases ea
                        have hx431 := (row_get 0 (HS.out.at2) a2 (of_decide_eq_true c426b0) (of_decide_eq_true c427b0)).1
                        have hz432 := (row_get 0 (HS.out.at2) a2 (of_decide_eq_true c426b0) (of_decide_eq_true c427b0)).2
                        go_wp2_with (first | ((with_reducible refine gate_store (t := 23) (p := 70) rfl ?_); refine store_event (w1 := World.setCell w418 ⟨g428, (a2).toNat, none⟩ (.int .u32 9)) rfl (t := 23) (p := 70) rfl rfl ?hr ?_; (case hr => first | (go_simp; done) | (go_simp; rfl)); intro w429 hst; clear hx431 hz432; have hq := Sep.rowset (l1 := [b2 g396 A397 t217.length n399 0, r1 A397 t217.length n399 t217]) (l2 := []) HS.out a2 9; rw [← hst, some_eq HA430] at hq; replace HS : Aside0 (Sep (fps []) w [b2 g396 A397 t217.length n399 0, r1 A397 t217.length n399 t217, r1 (some ⟨g428, 0, none⟩) t300.length n422 y314] w429) := ⟨hq⟩; clear hst hq))
                        obtain ⟨t338, HA433, H⟩ := bind_some H
                        refine (store_Store_Peek.calls t217 0 a2 g396 A397 t217.length n399 t338 _ ⟨HS.out.begin⟩ HA433).mono ?_
                        rintro e_ w434 ⟨rfl, hS⟩
                        replace HS : Aside0 (Sep (fps []) w [b2 g396 A397 t217.length n399 0, r1 A397 t217.length n399 t217, r1 (some ⟨g428, 0, none⟩) t300.length n422 y314] w434) := ⟨HS.out.call hS⟩
                        clear hS
                        by_cases c435 : t338 = 0
                        · have H := if_yes c435 H
                          have c435b0 : (t338 == 0) = true := beq_iff_eq.mpr c435
                          have c435b1 : (t338 != 0) = false := bne_eq_false_iff_eq.mpr c435
                          clear c435
                          go_wp2_with fail
                          have hl_ := row_len (HS.out.at2)
                          rw [← hl_] at HS ⊢
                          clear hl_
                          obtain ⟨t365, HA436, H⟩ := bind_some H
                          refine (store_Store_Load.calls t217 0 y314 g396 A397 t217.length n399 (some ⟨g428, 0, none⟩) n422 t365 _ ⟨Rd.ownI  HS.out 0 rfl⟩ ⟨HS.out.begin⟩ HA436).mono ?_
                          rintro e_ w437 ⟨rfl, hS⟩
                          replace HS : Aside0 (Sep (fps []) w [b2 g396 A397 t217.length n399 0, r1 A397 t217.length n399 t365.2, r1 (some ⟨g428, 0, none⟩) y314.length n422 y314] w437) := ⟨HS.out.call hS⟩
                          clear hS
                          by_cases c438 : t365.1 = true
                          · have H := if_yes c438 H
                            have c438b0 : t365.1 = true := c438
                            have c438b1 : (!t365.1) = false := by rw [c438b0]; rfl
                            clear c438
                            go_wp2_with fail
                            obtain ⟨t369, HA439, H⟩ := bind_some H
                            refine (store_Store_Peek.calls t365.2 0 a2 g396 A397 t217.length n399 t369 _ ⟨HS.out.begin⟩ HA439).mono ?_
                            rintro e_ w440 ⟨rfl, hS⟩
                            replace HS : Aside0 (Sep (fps []) w [b2 g396 A397 t217.length n399 0, r1 A397 t217.length n399 t365.2, r1 (some ⟨g428, 0, none⟩) y314.length n422 y314] w440) := ⟨HS.out.call hS⟩
                            clear hS
                            by_cases c441 : t369 = 9
                            · have H := if_yes c441 H
                              have c441b0 : (t369 == 9) = true := beq_iff_eq.mpr c441
                              have c441b1 : (t369 != 9) = false := bne_eq_false_iff_eq.mpr c441
                              clear c441
                              go_wp2_with fail
                              obtain ⟨t373, HA442, H⟩ := bind_some H
                              refine (store_Store_Meter.calls t365.2 0 g396 A397 t217.length n399 t373 _ ⟨HS.out.begin⟩ HA442).mono ?_
                              rintro e_ w443 ⟨rfl, hS⟩
                              replace HS : Aside0 (Sep (fps []) w [b2 g396 A397 t217.length n399 0, r1 A397 t217.length n399 t365.2, r1 (some ⟨g428, 0, none⟩) y314.length n422 y314] w443) := ⟨HS.out.call hS⟩
                              clear hS
                              by_cases c444 : t373 = 0
                              · have H := if_yes c444 H
                                have c444b0 : (t373 == 0) = true := beq_iff_eq.mpr c444
                                have c444b1 : (t373 != 0) = false := bne_eq_false_iff_eq.mpr c444
                                clear c444
                                go_wp2_with fail
                                obtain ⟨t377, HA445, H⟩ := bind_some H
                                refine (quitrentlaw04_begun.calls t377 _ ⟨Sep.start _⟩ HA445).mono ?_
                                rintro e_ w446 ⟨rfl, hS⟩
                                replace HS : Aside0 (Sep (fps []) w [b2 g396 A397 t217.length n399 0, r1 A397 t217.length n399 t365.2, r1 (some ⟨g428, 0, none⟩) y314.length n422 y314] w446) := ⟨HS.out.call hS⟩
                                clear hS
                                replace HS : Aside0 (Sep (fps []) w [] w446) := ⟨HS.out.sub (.cons _ (.cons _ (.cons _ .slnil)))⟩
                                go_wp2_with fail
                                go_ret
                                rw [← some_eq H]
                                exact ⟨(by first | rfl | (simp [IntKind.wrap_u32]; done)), HS.out⟩
                              · have H := if_no c444 H
                                have c444b0 : (t373 == 0) = false := beq_eq_false_iff_ne.mpr c444
                                have c444b1 : (t373 != 0) = true := bne_iff_ne.mpr c444
                                clear c444
                                replace HS : Aside0 (Sep (fps []) w [] w443) := ⟨HS.out.sub (.cons _ (.cons _ (.cons _ .slnil)))⟩
                                go_wp2_with fail
                                go_ret
                                rw [← some_eq H]
                                exact ⟨(by first | rfl | (simp [IntKind.wrap_u32]; done)), HS.out⟩
                            · have H := if_no c441 H
                              have c441b0 : (t369 == 9) = false := beq_eq_false_iff_ne.mpr c441
                              have c441b1 : (t369 != 9) = true := bne_iff_ne.mpr c441
                              clear c441
                              replace HS : Aside0 (Sep (fps []) w [] w440) := ⟨HS.out.sub (.cons _ (.cons _ (.cons _ .slnil)))⟩
                              go_wp2_with fail
                              go_ret
                              rw [← some_eq H]
                              exact ⟨(by first | rfl | (simp [IntKind.wrap_u32]; done)), HS.out⟩
                          · have H := if_no c438 H
                            have c438b0 : t365.1 = false := by simpa using c438
                            have c438b1 : (!t365.1) = true := by rw [c438b0]; rfl
                            clear c438
                            replace HS : Aside0 (Sep (fps []) w [] w437) := ⟨HS.out.sub (.cons _ (.cons _ (.cons _ .slnil)))⟩
                            go_wp2_with fail
                            go_ret
                            rw [← some_eq H]
                            exact ⟨(by first | rfl | (simp [IntKind.wrap_u32]; done)), HS.out⟩
                        · have H := if_no c435 H
                          have c435b0 : (t338 == 0) = false := beq_eq_false_iff_ne.mpr c435
                          have c435b1 : (t338 != 0) = true := bne_iff_ne.mpr c435
                          clear c435
                          replace HS : Aside0 (Sep (fps []) w [] w434) := ⟨HS.out.sub (.cons _ (.cons _ (.cons _ .slnil)))⟩
                          go_wp2_with fail
                          go_ret
                          rw [← some_eq H]
                          exact ⟨(by first | rfl | (simp [IntKind.wrap_u32]; done)), HS.out⟩
                      · have H := if_no c427 H
                        have c427b0 : decide (a2 < (t300.length : Int)) = false := decide_eq_false c427
                        clear c427
                        exact (none_no H).elim
                    · have H := if_no c426 H
                      have c426b0 : decide (0 ≤ a2) = false := decide_eq_false c426
                      clear c426
                      exact (none_no H).elim
                  · have H := if_no c425 H
                    have c425b0 : decide (a2 < a1) = false := decide_eq_false c425
                    clear c425
                    go_wp2_with fail
                    obtain ⟨t380, HA447, H⟩ := bind_some H
                    refine (quitrentlaw04_begun.calls t380 _ ⟨Sep.start _⟩ HA447).mono ?_
                    rintro e_ w448 ⟨rfl, hS⟩
                    replace HS : Aside0 (Sep (fps []) w [b2 g396 A397 t217.length n399 0, r1 A397 t217.length n399 t217, r1 A420 t300.length n422 t300] w448) := ⟨HS.out.call hS⟩
                    clear hS
                    replace HS : Aside0 (Sep (fps []) w [] w448) := ⟨HS.out.sub (.cons _ (.cons _ (.cons _ .slnil)))⟩
                    go_wp2_with fail
                    go_ret
                    rw [← some_eq H]
                    exact ⟨(by first | rfl | (simp [IntKind.wrap_u32]; done)), HS.out⟩
                · have H := if_no c424 H
                  have c424b0 : decide (0 ≤ a2) = false := decide_eq_false c424
                  clear c424
                  go_wp2_with fail
                  obtain ⟨t380, HA449, H⟩ := bind_some H
                  refine (quitrentlaw04_begun.calls t380 _ ⟨Sep.start _⟩ HA449).mono ?_
                  rintro e_ w450 ⟨rfl, hS⟩
                  replace HS : Aside0 (Sep (fps []) w [b2 g396 A397 t217.length n399 0, r1 A397 t217.length n399 t217, r1 A420 t300.length n422 t300] w450) := ⟨HS.out.call hS⟩
                  clear hS
                  replace HS : Aside0 (Sep (fps []) w [] w450) := ⟨HS.out.sub (.cons _ (.cons _ (.cons _ .slnil)))⟩
                  go_wp2_with fail
                  go_ret
                  rw [← some_eq H]
                  exact ⟨(by first | rfl | (simp [IntKind.wrap_u32]; done)), HS.out⟩
              · have H := if_no c416 H
                have c416b0 : (t296 == 0) = false := beq_eq_false_iff_ne.mpr c416
                have c416b1 : (t296 != 0) = true := bne_iff_ne.mpr c416
                clear c416
                replace HS : Aside0 (Sep (fps []) w [b2 g396 A397 t217.length n399 0, r1 A397 t217.length n399 t217] w415) := ⟨HS.out.sub (.cons_cons _ (.cons_cons _ (.cons _ .slnil)))⟩
                replace HS : Aside0 (Sep (fps []) w [] w415) := ⟨HS.out.sub (.cons _ (.cons _ .slnil))⟩
                go_wp2_with fail
                go_ret
                rw [← some_eq H]
                exact ⟨(by first | rfl | (simp [IntKind.wrap_u32]; done)), HS.out⟩
            · have H := if_no c413 H
              have c413b0 : ((t287.length : Int) == a1) = false := beq_eq_false_iff_ne.mpr c413
              have c413b1 : ((t287.length : Int) != a1) = true := bne_iff_ne.mpr c413
              clear c413
              replace HS : Aside0 (Sep (fps []) w [b2 g396 A397 t217.length n399 0, r1 A397 t217.length n399 t217] w407) := ⟨HS.out.sub (.cons_cons _ (.cons_cons _ (.cons _ .slnil)))⟩
              replace HS : Aside0 (Sep (fps []) w [] w407) := ⟨HS.out.sub (.cons _ (.cons _ .slnil))⟩
              go_wp2_with fail
              go_ret
              rw [← some_eq H]
              exact ⟨(by first | rfl | (simp [IntKind.wrap_u32]; done)), HS.out⟩
          · have H := if_no c405 H
            have c405b0 : (t246 == a1) = false := beq_eq_false_iff_ne.mpr c405
            have c405b1 : (t246 != a1) = true := bne_iff_ne.mpr c405
            clear c405
            replace HS : Aside0 (Sep (fps []) w [] w404) := ⟨HS.out.sub (.cons _ (.cons _ .slnil))⟩
            go_wp2_with fail
            go_ret
            rw [← some_eq H]
            exact ⟨(by first | rfl | (simp [IntKind.wrap_u32]; done)), HS.out⟩
end Go.Proofs.Ytobeonkddamnoaa.C

/- Each function of the group RN does what its plain function says, and changes nothing that was there; proved by walking its code. No condition. -/
import Derived.Test.YtobeonkddamnoaaDoorQw
import Derived.Test.YtobeonkddamnoaaDoorMRN
namespace Go.Proofs.YtobeonkddamnoaaDoor.C
open Go.RowKit Go.Proofs.YtobeonkddamnoaaDoorW.PrintWords Go.Proofs.YtobeonkddamnoaaDoorW.PrintLast Go.Proofs.YtobeonkddamnoaaDoorW.PrintMore Go.Proofs.YtobeonkddamnoaaDoor.Q Go.Proofs.YtobeonkddamnoaaDoor.M
set_option linter.unusedVariables false
set_option linter.unusedSimpArgs false
def b1 (g : Nat) (x0 : Int) (x1 : Int) (x2 : Int) (x3 : Int) (x4 : Int) (x5 : Int) (x6 : Int) : Ob := blk g #[.int .i64 x0, .int .i64 x1, .int .i64 x2, .int .i64 x3, .int .i64 x4, .int .i64 x5, .int .i64 x6] 32
def b2 (g : Nat) (x0 : Int) (x1 : Int) (x2 : Int) (x3 : Int) (x4 : Int) : Ob := blk g #[.int .i64 x0, .int .i64 x1, .int .i64 x2, .int .i64 x3, .int .i64 x4] 108
def b3 (g : Nat) (x0 : Int) : Ob := blk g #[.int .u32 x0] 33
def r4 (A : Option Addr) (n c : Nat) (l : List Int) : Ob := row 33 (Value.int .u32) (.slice A n c) l
def b5 (g : Nat) (x0 : Int) (x1 : Int) : Ob := blk g #[.int .u32 x0, .int .u32 x1] 33
def b6 (g : Nat) (x0 : Int) (x1 : Int) (x2 : Int) (x3 : Int) (x4 : Int) (x5 : Int) (x6 : Int) (x7 : Int) : Ob := blk g #[.int .i64 x0, .int .i64 x1, .int .i64 x2, .int .i64 x3, .int .i64 x4, .int .i64 x5, .int .i64 x6, .int .i64 x7] 3
def b7 (g : Nat) (x0 : Int) (x1 : Int) (x2 : Int) (x3 : Int) : Ob := blk g #[.int .i64 x0, .int .i64 x1, .int .i64 x2, .int .i64 x3] 30
def r8 (A : Option Addr) (n c : Nat) (l : List Int) : Ob := row 3 (Value.int .i64) (.slice A n c) l
def b9 (g : Nat) (x0 : Int) (x1 : Int) (x2 : Int) (x3 : Int) (x4 : Int) (x5 : Int) : Ob := blk g #[.int .u8 x0, .int .u8 x1, .int .u8 x2, .int .u8 x3, .int .u8 x4, .int .u8 x5] 5
def b10 (g : Nat) (x0 : Int) (x1 : Int) (x2 : Int) (x3 : Int) (x4 : Int) (x5 : Int) (x6 : Int) (x7 : Int) : Ob := blk g #[.int .i64 x0, .int .i64 x1, .int .i64 x2, .int .i64 x3, .int .i64 x4, .int .i64 x5, .int .i64 x6, .int .i64 x7] 97
def b11 (g : Nat) (x0 : Int) (x1 : Int) : Ob := blk g #[.int .i64 x0, .int .i64 x1] 3
def b12 (g : Nat) (x0 : Int) (x1 : Int) (x2 : Int) : Ob := blk g #[.int .i64 x0, .int .i64 x1, .int .i64 x2] 3
def b13 (g : Nat) (x0 : Option Addr) (x1 : Nat) (x2 : Nat) (x3 : Int) : Ob := blk g #[.slice x0 x1 x2, .int .u64 x3] 154
def b14 (g : Nat) (x0 : Nat) (x1 : Int) (x2 : Int) (x3 : Int) (x4 : Int) : Ob := blk g #[.pointer (some ⟨x0, 0, none⟩), .int .i64 x1, .int .i64 x2, .int .i64 x3, .int .i64 x4] 106
def b15 (g : Nat) (x0 : Int) : Ob := blk g #[.int .i64 x0] 3

set_option maxHeartbeats 30000000 in
set_option maxRecDepth 100000 in
theorem ring_Take_nil.calls  (r : Int × Bool) (w : World)  (HGl0 : Aside0 (Gl 0 #[.int .i64 0, .int .i64 0, .int .i64 0, .int .i64 0, .int .i64 0] (fps []) w)) (HS : Aside0 (Sep (fps []) w [] w)) (H : Aside0 (ring_Take_nil.f = some r)) :
    Calls Tryd.prog 25 #[.pointer none] w fun e w' => e = .returned (.tuple #[.int .i64 r.1, .bool r.2]) ∧ Sep (fps []) w [] w' := by
  unfold ring_Take_nil.f at H
  go_enter Tryd.func25, Tryd.ntmps25
  go_wp2_with fail
  go_ret2
  rw [← some_eq H]
  exact ⟨(by first | rfl | (simp [IntKind.wrap_u32]; done)), (HS.out).keep (l := []) (rest := [])⟩

set_option maxHeartbeats 30000000 in
set_option maxRecDepth 100000 in
theorem ring_marked_nil.calls (a6 : Int) (a7 : Int) (r : Int × Int × Int × Int × Int × Int × Int × Bool) (w : World)  (HGl0 : Aside0 (Gl 0 #[.int .i64 0, .int .i64 0, .int .i64 0, .int .i64 0, .int .i64 0] (fps []) w)) (HS : Aside0 (Sep (fps []) w [] w)) (H : Aside0 (ring_marked_nil.f a6 a7 = some r)) :
    Calls Tryd.prog 79 #[.pointer none, .int .i64 a6, .int .i64 a7] w fun e w' => e = .returned (.tuple #[.agg #[.int .i64 r.1, .int .i64 r.2.1, .int .i64 r.2.2.1, .int .i64 r.2.2.2.1, .int .i64 r.2.2.2.2.1, .int .i64 r.2.2.2.2.2.1, .int .i64 r.2.2.2.2.2.2.1], .bool r.2.2.2.2.2.2.2]) ∧ Sep (fps []) w [] w' := by
  unfold ring_marked_nil.f at H
  go_enter Tryd.func79, Tryd.ntmps79
  go_wp2_with (first | ((with_reducible refine gate_dst (N := 6) rfl ?_); refine box_on ?hg (N := 6) ?hd (cs := #[.int .i64 0, .int .i64 0, .int .i64 0, .int .i64 0, .int .i64 0, .int .i64 0, .int .i64 0]) (t := 32) ?hr ?_; (case hd => rfl); (case hg => rfl); (case hr => first | (go_simp; done) | (go_simp; rfl)); intro g8 hg w9 hbox hb; replace HS : Aside0 (Sep (fps []) w [b1 g8 0 0 0 0 0 0 0] w9) := ⟨HS.out.box hg hbox hb⟩; clear hg hbox hb; have hc11 : w9.cell? ⟨g8, 0, none⟩ = some (.int .i64 0) := blk_cellv (HS.out.at0) 0 rfl; have hz12 : w9.frozen? ⟨g8, 0, none⟩ = false := blk_fz (HS.out.at0) 0; have hc13 : w9.cell? ⟨g8, 1, none⟩ = some (.int .i64 0) := blk_cellv (HS.out.at0) 1 rfl; have hz14 : w9.frozen? ⟨g8, 1, none⟩ = false := blk_fz (HS.out.at0) 1; have hc15 : w9.cell? ⟨g8, 2, none⟩ = some (.int .i64 0) := blk_cellv (HS.out.at0) 2 rfl; have hz16 : w9.frozen? ⟨g8, 2, none⟩ = false := blk_fz (HS.out.at0) 2; have hc17 : w9.cell? ⟨g8, 3, none⟩ = some (.int .i64 0) := blk_cellv (HS.out.at0) 3 rfl; have hz18 : w9.frozen? ⟨g8, 3, none⟩ = false := blk_fz (HS.out.at0) 3; have hc19 : w9.cell? ⟨g8, 4, none⟩ = some (.int .i64 0) := blk_cellv (HS.out.at0) 4 rfl; have hz20 : w9.frozen? ⟨g8, 4, none⟩ = false := blk_fz (HS.out.at0) 4; have hc21 : w9.cell? ⟨g8, 5, none⟩ = some (.int .i64 0) := blk_cellv (HS.out.at0) 5 rfl; have hz22 : w9.frozen? ⟨g8, 5, none⟩ = false := blk_fz (HS.out.at0) 5; have hc23 : w9.cell? ⟨g8, 6, none⟩ = some (.int .i64 0) := blk_cellv (HS.out.at0) 6 rfl; have hz24 : w9.frozen? ⟨g8, 6, none⟩ = false := blk_fz (HS.out.at0) 6) | ((with_reducible refine gate_store (t := 32) (p := 6) rfl ?_); refine store_event (w1 := (World.setCell (World.setCell (World.setCell (World.setCell (World.setCell (World.setCell (World.setCell w9 ⟨g8, 0, none⟩ (.int .i64 0)) ⟨g8, 1, none⟩ (.int .i64 0)) ⟨g8, 2, none⟩ (.int .i64 0)) ⟨g8, 3, none⟩ (.int .i64 0)) ⟨g8, 4, none⟩ (.int .i64 0)) ⟨g8, 5, none⟩ (.int .i64 0)) ⟨g8, 6, none⟩ (.int .i64 0))) rfl (t := 32) (p := 6) rfl rfl ?hr ?_; (case hr => first | (go_simp; done) | (go_simp; rfl)); intro w25 hst; clear hc11 hz12 hc13 hz14 hc15 hz16 hc17 hz18 hc19 hz20 hc21 hz22 hc23 hz24; replace HS : Aside0 (Sep (fps []) w [b1 g8 0 0 0 0 0 0 0] w25) := ⟨by rw [hst]; exact HS.out.setAll (l1 := []) (l2 := []) [.int .i64 0, .int .i64 0, .int .i64 0, .int .i64 0, .int .i64 0, .int .i64 0, .int .i64 0] rfl⟩; clear hst))
  have hc26 : w25.cell? ⟨g8, 0, none⟩ = some (.int .i64 0) := blk_cellv (HS.out.at0) 0 rfl
  have hc27 : w25.cell? ⟨g8, 1, none⟩ = some (.int .i64 0) := blk_cellv (HS.out.at0) 1 rfl
  have hc28 : w25.cell? ⟨g8, 2, none⟩ = some (.int .i64 0) := blk_cellv (HS.out.at0) 2 rfl
  have hc29 : w25.cell? ⟨g8, 3, none⟩ = some (.int .i64 0) := blk_cellv (HS.out.at0) 3 rfl
  have hc30 : w25.cell? ⟨g8, 4, none⟩ = some (.int .i64 0) := blk_cellv (HS.out.at0) 4 rfl
  have hc31 : w25.cell? ⟨g8, 5, none⟩ = some (.int .i64 0) := blk_cellv (HS.out.at0) 5 rfl
  have hc32 : w25.cell? ⟨g8, 6, none⟩ = some (.int .i64 0) := blk_cellv (HS.out.at0) 6 rfl
  refine bodyPost_ret (v := .tuple #[.agg #[.int .i64 0, .int .i64 0, .int .i64 0, .int .i64 0, .int .i64 0, .int .i64 0, .int .i64 0], .bool false]) (by simp [results, Tryd.results79, go_sem, hc26, hc27, hc28, hc29, hc30, hc31, hc32]) rfl ?_
  rw [← some_eq H]
  exact ⟨(by first | rfl | (simp [IntKind.wrap_u32]; done)), (HS.out).keep (l := []) (rest := [b1 g8 0 0 0 0 0 0 0])⟩

set_option maxHeartbeats 30000000 in
set_option maxRecDepth 100000 in
theorem tag_marks.calls (a118 : Int) (a119 : Int) (a120 : Int) (a121 : Int) (a122 : Int) (a123 : Int) (a124 : Int) (r : Int × Int × Int × Int × Int) (w : World)  (HGl0 : Aside0 (Gl 0 #[.int .i64 0, .int .i64 0, .int .i64 0, .int .i64 0, .int .i64 0] (fps []) w)) (HS : Aside0 (Sep (fps []) w [] w)) (H : Aside0 (tag_marks.f a118 a119 a120 a121 a122 a123 a124 = some r)) :
    Calls Tryd.prog 68 #[.agg #[.int .i64 a118, .int .i64 a119, .int .i64 a120, .int .i64 a121, .int .i64 a122, .int .i64 a123, .int .i64 a124]] w fun e w' => e = .returned (.agg #[.int .i64 r.1, .int .i64 r.2.1, .int .i64 r.2.2.1, .int .i64 r.2.2.2.1, .int .i64 r.2.2.2.2]) ∧ Sep (fps []) w [] w' := by
  unfold tag_marks.f at H
  go_enter Tryd.func68, Tryd.ntmps68
  go_wp2_with (first | ((with_reducible refine gate_dst (N := 1) rfl ?_); refine box_on ?hg (N := 1) ?hd (cs := #[.int .i64 a118, .int .i64 a119, .int .i64 a120, .int .i64 a121, .int .i64 a122, .int .i64 a123, .int .i64 a124]) (t := 32) ?hr ?_; (case hd => rfl); (case hg => rfl); (case hr => first | (go_simp; done) | (go_simp; rfl)); intro g125 hg w126 hbox hb; replace HS : Aside0 (Sep (fps []) w [b1 g125 a118 a119 a120 a121 a122 a123 a124] w126) := ⟨HS.out.box hg hbox hb⟩; clear hg hbox hb) | ((with_reducible refine gate_dst (N := 2) rfl ?_); refine box_on ?hg (N := 2) ?hd (cs := #[.int .i64 0, .int .i64 0, .int .i64 0, .int .i64 0, .int .i64 0]) (t := 108) ?hr ?_; (case hd => rfl); (case hg => rfl); (case hr => first | (go_simp; done) | (go_simp; rfl)); intro g128 hg w129 hbox hb; replace HS : Aside0 (Sep (fps []) w [b1 g125 a118 a119 a120 a121 a122 a123 a124, b2 g128 0 0 0 0 0] w129) := ⟨HS.out.box hg hbox hb⟩; clear hg hbox hb; have hc131 : w129.cell? ⟨g125, 1, none⟩ = some (.int .i64 a119) := blk_cellv (HS.out.at0) 1 rfl; have hc132 : w129.cell? ⟨g125, 2, none⟩ = some (.int .i64 a120) := blk_cellv (HS.out.at0) 2 rfl; have hc133 : w129.cell? ⟨g125, 3, none⟩ = some (.int .i64 a121) := blk_cellv (HS.out.at0) 3 rfl; have hc134 : w129.cell? ⟨g125, 4, none⟩ = some (.int .i64 a122) := blk_cellv (HS.out.at0) 4 rfl; have hc135 : w129.cell? ⟨g125, 5, none⟩ = some (.int .i64 a123) := blk_cellv (HS.out.at0) 5 rfl; have hc136 : w129.cell? ⟨g128, 0, none⟩ = some (.int .i64 0) := blk_cellv (HS.out.at1) 0 rfl; have hz137 : w129.frozen? ⟨g128, 0, none⟩ = false := blk_fz (HS.out.at1) 0; have hc138 : w129.cell? ⟨g128, 1, none⟩ = some (.int .i64 0) := blk_cellv (HS.out.at1) 1 rfl; have hz139 : w129.frozen? ⟨g128, 1, none⟩ = false := blk_fz (HS.out.at1) 1; have hc140 : w129.cell? ⟨g128, 2, none⟩ = some (.int .i64 0) := blk_cellv (HS.out.at1) 2 rfl; have hz141 : w129.frozen? ⟨g128, 2, none⟩ = false := blk_fz (HS.out.at1) 2; have hc142 : w129.cell? ⟨g128, 3, none⟩ = some (.int .i64 0) := blk_cellv (HS.out.at1) 3 rfl; have hz143 : w129.frozen? ⟨g128, 3, none⟩ = false := blk_fz (HS.out.at1) 3; have hc144 : w129.cell? ⟨g128, 4, none⟩ = some (.int .i64 0) := blk_cellv (HS.out.at1) 4 rfl; have hz145 : w129.frozen? ⟨g128, 4, none⟩ = false := blk_fz (HS.out.at1) 4) | ((with_reducible refine gate_store (t := 108) (p := 2) rfl ?_); refine store_event (w1 := (World.setCell (World.setCell (World.setCell (World.setCell (World.setCell w129 ⟨g128, 0, none⟩ (.int .i64 a119)) ⟨g128, 1, none⟩ (.int .i64 a120)) ⟨g128, 2, none⟩ (.int .i64 a121)) ⟨g128, 3, none⟩ (.int .i64 a122)) ⟨g128, 4, none⟩ (.int .i64 a123))) rfl (t := 108) (p := 2) rfl rfl ?hr ?_; (case hr => first | (go_simp; done) | (go_simp; rfl)); intro w146 hst; clear hc131 hc132 hc133 hc134 hc135 hc136 hz137 hc138 hz139 hc140 hz141 hc142 hz143 hc144 hz145; replace HS : Aside0 (Sep (fps []) w [b1 g125 a118 a119 a120 a121 a122 a123 a124, b2 g128 a119 a120 a121 a122 a123] w146) := ⟨by rw [hst]; exact HS.out.setAll (l1 := [b1 g125 a118 a119 a120 a121 a122 a123 a124]) (l2 := []) [.int .i64 a119, .int .i64 a120, .int .i64 a121, .int .i64 a122, .int .i64 a123] rfl⟩; clear hst; replace HS : Aside0 (Sep (fps []) w [b2 g128 a119 a120 a121 a122 a123] w146) := ⟨HS.out.sub (.cons _ (.cons_cons _ .slnil))⟩))
  have hc147 : w146.cell? ⟨g128, 0, none⟩ = some (.int .i64 a119) := blk_cellv (HS.out.at0) 0 rfl
  have hc148 : w146.cell? ⟨g128, 1, none⟩ = some (.int .i64 a120) := blk_cellv (HS.out.at0) 1 rfl
  have hc149 : w146.cell? ⟨g128, 2, none⟩ = some (.int .i64 a121) := blk_cellv (HS.out.at0) 2 rfl
  have hc150 : w146.cell? ⟨g128, 3, none⟩ = some (.int .i64 a122) := blk_cellv (HS.out.at0) 3 rfl
  have hc151 : w146.cell? ⟨g128, 4, none⟩ = some (.int .i64 a123) := blk_cellv (HS.out.at0) 4 rfl
  refine bodyPost_ret (v := .agg #[.int .i64 a119, .int .i64 a120, .int .i64 a121, .int .i64 a122, .int .i64 a123]) (by simp [results, Tryd.results68, go_sem, hc147, hc148, hc149, hc150, hc151]) rfl ?_
  rw [← some_eq H]
  exact ⟨(by first | rfl | (simp [IntKind.wrap_u32]; done)), (HS.out).keep (l := []) (rest := [b2 g128 a119 a120 a121 a122 a123])⟩

set_option maxHeartbeats 30000000 in
set_option maxRecDepth 100000 in
theorem tag_Right.calls (k : Nat) (a101 : Int) (a102 : Int) (a103 : Int) (a104 : Int) (a105 : Int) (a106 : Int) (a107 : Int) (r : Bool) (w : World)  (HGl0 : Aside0 (Gl 0 #[.int .i64 0, .int .i64 0, .int .i64 0, .int .i64 0, .int .i64 0] (fps []) w)) (HS : Aside0 (Sep (fps []) w [] w)) (H : Aside0 (tag_Right.f k a101 a102 a103 a104 a105 a106 a107 = some r)) :
    Calls Tryd.prog 67 #[.agg #[.int .i64 a101, .int .i64 a102, .int .i64 a103, .int .i64 a104, .int .i64 a105, .int .i64 a106, .int .i64 a107]] w fun e w' => e = .returned (.bool r) ∧ Sep (fps []) w [] w' := by
  unfold tag_Right.f at H
  go_enter Tryd.func67, Tryd.ntmps67
  go_wp2_with (first | ((with_reducible refine gate_dst (N := 1) rfl ?_); refine box_on ?hg (N := 1) ?hd (cs := #[.int .i64 a101, .int .i64 a102, .int .i64 a103, .int .i64 a104, .int .i64 a105, .int .i64 a106, .int .i64 a107]) (t := 32) ?hr ?_; (case hd => rfl); (case hg => rfl); (case hr => first | (go_simp; done) | (go_simp; rfl)); intro g108 hg w109 hbox hb; replace HS : Aside0 (Sep (fps []) w [b1 g108 a101 a102 a103 a104 a105 a106 a107] w109) := ⟨HS.out.box hg hbox hb⟩; clear hg hbox hb; have hc111 : w109.cell? ⟨g108, 0, none⟩ = some (.int .i64 a101) := blk_cellv (HS.out.at0) 0 rfl; have hc112 : w109.cell? ⟨g108, 1, none⟩ = some (.int .i64 a102) := blk_cellv (HS.out.at0) 1 rfl; have hc113 : w109.cell? ⟨g108, 2, none⟩ = some (.int .i64 a103) := blk_cellv (HS.out.at0) 2 rfl; have hc114 : w109.cell? ⟨g108, 3, none⟩ = some (.int .i64 a104) := blk_cellv (HS.out.at0) 3 rfl; have hc115 : w109.cell? ⟨g108, 4, none⟩ = some (.int .i64 a105) := blk_cellv (HS.out.at0) 4 rfl; have hc116 : w109.cell? ⟨g108, 5, none⟩ = some (.int .i64 a106) := blk_cellv (HS.out.at0) 5 rfl; have hc117 : w109.cell? ⟨g108, 6, none⟩ = some (.int .i64 a107) := blk_cellv (HS.out.at0) 6 rfl))
  clear hc111 hc112 hc113 hc114 hc115 hc116 hc117
  obtain ⟨t152, HA153, H⟩ := bind_some H
  refine (tag_marks.calls a101 a102 a103 a104 a105 a106 a107 t152 _ ⟨Gl.pass (l := []) (rest := [b1 g108 a101 a102 a103 a104 a105 a106 a107]) HGl0.out HS.out⟩ ⟨HS.out.begin (l := []) (rest := [b1 g108 a101 a102 a103 a104 a105 a106 a107])⟩ HA153).mono ?_
  rintro e_ w154 ⟨rfl, hS⟩
  replace HS : Aside0 (Sep (fps []) w [b1 g108 a101 a102 a103 a104 a105 a106 a107] w154) := ⟨HS.out.call (l := []) (rest := [b1 g108 a101 a102 a103 a104 a105 a106 a107]) hS⟩
  clear hS
  go_wp2_with fail
  obtain ⟨o167, AL168, H⟩ := bind_some H
  go_loopg [7] k (fun kq v7 wc => ∃ (x171 : Int), v7 = .int .i64 x171 ∧ Aside0 (tag_Right.lo0 kq t152 x171 = some o167) ∧ Aside0 (Sep (fps []) w [b1 g108 a101 a102 a103 a104 a105 a106 a107] wc))
  case atStart => exact ⟨(0), (by first | rfl | (simp [IntKind.wrap_u32]; done)), AL168, ⟨HS.out⟩⟩
  case round =>
    clear AL168 HS
    obtain ⟨x171, rfl, AL168, HS⟩ := hrel
    obtain ⟨w169, rfl⟩ : ∃ x : World, x = wr := ⟨_, rfl⟩
    cases gk with
    | zero => exact absurd AL168.out (by simp [tag_Right.lo0])
    | succ k170 =>
      have AL0 := AL168.out
      rw [tag_Right.lo0] at AL0
      clear AL168
      have AL168 := Aside0.mk AL0
      clear AL0
      by_cases c172 : x171 < 5
      · have AL168 := if_yes c172 AL168
        have c172b0 : decide (x171 < 5) = true := decide_eq_true c172
        clear c172
        by_cases c173 : 0 ≤ x171
        · have AL168 := if_yes c173 AL168
          have c173b0 : decide (0 ≤ x171) = true := decide_eq_true c173
          have c173p : (0 ≤ x171) = True := eq_true c173
          clear c173
          have ip174 : (x171 < 5) = True := eq_true (of_decide_eq_true c172b0)
          have ix175 : ∀ w, (Instr.index 108 (.agg #[.int .i64 t152.1, .int .i64 t152.2.1, .int .i64 t152.2.2.1, .int .i64 t152.2.2.2.1, .int .i64 t152.2.2.2.2]) (.int .i64 x171)).run Tryd.prog w = .ok (.int .i64 (rd [t152.1, t152.2.1, t152.2.2.1, t152.2.2.2.1, t152.2.2.2.2] x171)) w := run_index_ints 108 3 5 .i64 .i64 [t152.1, t152.2.1, t152.2.2.1, t152.2.2.2.1, t152.2.2.2.2] x171 Tryd.underlying108 (fun _ => by kernel_rfl) (fun _ => by kernel_rfl) rfl (of_decide_eq_true c173b0) (of_decide_eq_true c172b0)
          by_cases c176 : (rd [t152.1, t152.2.1, t152.2.2.1, t152.2.2.2.1, t152.2.2.2.2] x171) = 0
          · have AL168 := if_yes c176 AL168
            have c176b0 : ((rd [t152.1, t152.2.1, t152.2.2.1, t152.2.2.2.1, t152.2.2.2.2] x171) == 0) = true := beq_iff_eq.mpr c176
            have c176b1 : ((rd [t152.1, t152.2.1, t152.2.2.1, t152.2.2.2.1, t152.2.2.2.2] x171) != 0) = false := bne_eq_false_iff_eq.mpr c176
            clear c176
            go_wp2_with fail
            go_roundg k170
            case measure => exact Nat.lt_succ_self _
            case rel => exact ⟨(wrap64 (x171 + 1)), (by first | rfl | (simp [IntKind.wrap_u32]; done)), Aside0.mk AL168.out, ⟨(HS.out).keep (l := [b1 g108 a101 a102 a103 a104 a105 a106 a107]) (rest := [])⟩⟩
          · have AL168 := if_no c176 AL168
            have c176b0 : ((rd [t152.1, t152.2.1, t152.2.2.1, t152.2.2.2.1, t152.2.2.2.2] x171) == 0) = false := beq_eq_false_iff_ne.mpr c176
            have c176b1 : ((rd [t152.1, t152.2.1, t152.2.2.1, t152.2.2.2.1, t152.2.2.2.2] x171) != 0) = true := bne_iff_ne.mpr c176
            clear c176
            by_cases c177 : (rd [t152.1, t152.2.1, t152.2.2.1, t152.2.2.2.1, t152.2.2.2.2] x171) = 1
            · have AL168 := if_yes c177 AL168
              have c177b0 : ((rd [t152.1, t152.2.1, t152.2.2.1, t152.2.2.2.1, t152.2.2.2.2] x171) == 1) = true := beq_iff_eq.mpr c177
              have c177b1 : ((rd [t152.1, t152.2.1, t152.2.2.1, t152.2.2.2.1, t152.2.2.2.2] x171) != 1) = false := bne_eq_false_iff_eq.mpr c177
              clear c177
              go_wp2_with fail
              go_roundg k170
              case measure => exact Nat.lt_succ_self _
              case rel => exact ⟨(wrap64 (x171 + 1)), (by first | rfl | (simp [IntKind.wrap_u32]; done)), Aside0.mk AL168.out, ⟨(HS.out).keep (l := [b1 g108 a101 a102 a103 a104 a105 a106 a107]) (rest := [])⟩⟩
            · have AL168 := if_no c177 AL168
              have c177b0 : ((rd [t152.1, t152.2.1, t152.2.2.1, t152.2.2.2.1, t152.2.2.2.2] x171) == 1) = false := beq_eq_false_iff_ne.mpr c177
              have c177b1 : ((rd [t152.1, t152.2.1, t152.2.2.1, t152.2.2.2.1, t152.2.2.2.2] x171) != 1) = true := bne_iff_ne.mpr c177
              clear c177
              go_wp2_with fail
              have ho := some_eq AL168
              subst ho
              have H := lp_ret H
              go_ret
              rw [← some_eq H]
              exact ⟨(by first | rfl | (simp [IntKind.wrap_u32]; done)), (HS.out).keep (l := []) (rest := [b1 g108 a101 a102 a103 a104 a105 a106 a107])⟩
        · have AL168 := if_no c173 AL168
          have c173b0 : decide (0 ≤ x171) = false := decide_eq_false c173
          clear c173
          exact (none_no AL168).elim
      · have AL168 := if_no c172 AL168
        have c172b0 : decide (x171 < 5) = false := decide_eq_false c172
        clear c172
        have ho := some_eq AL168
        subst ho
        clear AL168
        have H := lp_out H
        by_cases c179 : a101 = 1
        · have H := if_yes c179 H
          have c179b0 : (a101 == 1) = true := beq_iff_eq.mpr c179
          have c179b1 : (a101 != 1) = false := bne_eq_false_iff_eq.mpr c179
          clear c179
          have hc178 : w169.cell? ⟨g108, 0, none⟩ = some (.int .i64 a101) := blk_cellv (HS.out.at0) 0 rfl
          have hc180 : w169.cell? ⟨g108, 6, none⟩ = some (.int .i64 a107) := blk_cellv (HS.out.at0) 6 rfl
          replace HS : Aside0 (Sep (fps []) w [] w169) := ⟨HS.out.sub (.cons _ .slnil)⟩
          go_wp2_with fail
          clear hc178 hc180
          go_ret
          rw [← some_eq H]
          exact ⟨(by first | rfl | (simp [IntKind.wrap_u32]; done)), (HS.out).keep (l := []) (rest := [])⟩
        · have H := if_no c179 H
          have c179b0 : (a101 == 1) = false := beq_eq_false_iff_ne.mpr c179
          have c179b1 : (a101 != 1) = true := bne_iff_ne.mpr c179
          clear c179
          by_cases c181 : a101 = 2
          · have H := if_yes c181 H
            have c181b0 : (a101 == 2) = true := beq_iff_eq.mpr c181
            have c181b1 : (a101 != 2) = false := bne_eq_false_iff_eq.mpr c181
            clear c181
            have hc178 : w169.cell? ⟨g108, 0, none⟩ = some (.int .i64 a101) := blk_cellv (HS.out.at0) 0 rfl
            have hc182 : w169.cell? ⟨g108, 6, none⟩ = some (.int .i64 a107) := blk_cellv (HS.out.at0) 6 rfl
            replace HS : Aside0 (Sep (fps []) w [] w169) := ⟨HS.out.sub (.cons _ .slnil)⟩
            go_wp2_with fail
            clear hc178 hc182
            go_ret
            rw [← some_eq H]
            exact ⟨(by first | rfl | (simp [IntKind.wrap_u32]; done)), (HS.out).keep (l := []) (rest := [])⟩
          · have H := if_no c181 H
            have c181b0 : (a101 == 2) = false := beq_eq_false_iff_ne.mpr c181
            have c181b1 : (a101 != 2) = true := bne_iff_ne.mpr c181
            clear c181
            by_cases c183 : a101 = 0
            · have H := if_yes c183 H
              have c183b0 : (a101 == 0) = true := beq_iff_eq.mpr c183
              have c183b1 : (a101 != 0) = false := bne_eq_false_iff_eq.mpr c183
              clear c183
              have hc178 : w169.cell? ⟨g108, 0, none⟩ = some (.int .i64 a101) := blk_cellv (HS.out.at0) 0 rfl
              go_wp2_with fail
              clear hc178
              refine start_ (n := 25) (S := (fun w' => w'.cell? ⟨g108, 0, none⟩ = some (.int .i64 a101) ∧ w'.cell? ⟨g108, 1, none⟩ = some (.int .i64 a102) ∧ w'.cell? ⟨g108, 2, none⟩ = some (.int .i64 a103) ∧ w'.cell? ⟨g108, 3, none⟩ = some (.int .i64 a104) ∧ w'.cell? ⟨g108, 4, none⟩ = some (.int .i64 a105) ∧ w'.cell? ⟨g108, 5, none⟩ = some (.int .i64 a106) ∧ w'.cell? ⟨g108, 6, none⟩ = some (.int .i64 a107) ∧ w'.cell? ⟨0, 0, none⟩ = some (.int .i64 0) ∧ w'.cell? ⟨0, 1, none⟩ = some (.int .i64 0) ∧ w'.cell? ⟨0, 2, none⟩ = some (.int .i64 0) ∧ w'.cell? ⟨0, 3, none⟩ = some (.int .i64 0) ∧ w'.cell? ⟨0, 4, none⟩ = some (.int .i64 0))) (ds := []) #[false, false, false, false, false, false, false, false, false, false, false, false, false, false, false, false, false, false, false, false, false, false, false, false, false] (by kernel_rfl) rfl rfl (⟨blk_cellv ((HS.out.drew).at0) 0 rfl, blk_cellv ((HS.out.drew).at0) 1 rfl, blk_cellv ((HS.out.drew).at0) 2 rfl, blk_cellv ((HS.out.drew).at0) 3 rfl, blk_cellv ((HS.out.drew).at0) 4 rfl, blk_cellv ((HS.out.drew).at0) 5 rfl, blk_cellv ((HS.out.drew).at0) 6 rfl, Gl.cell HGl0.out (HS.out.drew).fr 0 rfl, Gl.cell HGl0.out (HS.out.drew).fr 1 rfl, Gl.cell HGl0.out (HS.out.drew).fr 2 rfl, Gl.cell HGl0.out (HS.out.drew).fr 3 rfl, Gl.cell HGl0.out (HS.out.drew).fr 4 rfl⟩) (fun hHeld => ?_)
              have HS_ := Aside0.mk HS.out.drew
              clear HS
              generalize World.drew _ = w185 at HS_ hHeld ⊢
              have HS := HS_
              clear HS_
              refine take_ (i := 0) (N := some 28) (v := ?_) (a' := ?_) #[true, false, false, false, false, false, false, false, false, false, false, false, false, false, false, false, false, false, false, false, false, false, false, false, false] rfl rfl (by kernel_rfl) (fun _ _ _ h => h) (Or.inl ⟨by rfl, ?_⟩) hHeld ?_ ?_
              rotate_left
              · rintro w' hS'
                obtain ⟨s0, s1, s2, s3, s4, s5, s6, s7, s8, s9, s10, s11⟩ := hS'
                go_simp
                with_reducible rfl
              rotate_left
              · simp only [Act.put, List.setIfInBounds_toArray, List.set_cons_zero, List.set_cons_succ, i64_w, i32_w]
                rfl
              refine take_ (i := 2) (N := some 30) (v := ?_) (a' := ?_) #[true, false, true, false, false, false, false, false, false, false, false, false, false, false, false, false, false, false, false, false, false, false, false, false, false] rfl rfl (by kernel_rfl) (fun _ _ _ h => h) (Or.inl ⟨by rfl, ?_⟩) hHeld ?_ ?_
              rotate_left
              · rintro w' hS'
                obtain ⟨s0, s1, s2, s3, s4, s5, s6, s7, s8, s9, s10, s11⟩ := hS'
                go_simp
                with_reducible rfl
              rotate_left
              · simp only [Act.put, List.setIfInBounds_toArray, List.set_cons_zero, List.set_cons_succ, i64_w, i32_w]
                rfl
              refine one_ (i := 1) (N := some 29) #[true, true, true, false, false, false, false, false, false, false, false, false, false, false, false, false, false, false, false, false, false, false, false, false, false] rfl rfl (by kernel_rfl) (by decide) (fun K hK => ?_)
              obtain ⟨t186, HA187, H⟩ := bind_some H
              refine goes_ Tryd.func68 (by kernel_rfl) rfl #[.agg #[.int .i64 a101, .int .i64 a102, .int .i64 a103, .int .i64 a104, .int .i64 a105, .int .i64 a106, .int .i64 a107]] (by rfl) rfl rfl (by (try simp only [List.map_toArray, List.map_cons, List.map_nil]); first | done | rfl) ?_
              refine (tag_marks.calls a101 a102 a103 a104 a105 a106 a107 t186 _ ⟨Gl.pass (l := []) (rest := [b1 g108 a101 a102 a103 a104 a105 a106 a107]) HGl0.out HS.out⟩ ⟨HS.out.begin (l := []) (rest := [b1 g108 a101 a102 a103 a104 a105 a106 a107])⟩ HA187).mono ?_
              rintro e_ w188 ⟨rfl, hS⟩
              replace HS : Aside0 (Sep (fps []) w [b1 g108 a101 a102 a103 a104 a105 a106 a107] w188) := ⟨HS.out.call (l := []) (rest := [b1 g108 a101 a102 a103 a104 a105 a106 a107]) hS⟩
              clear hS
              refine ⟨_, rfl, ?_⟩
              refine hK.out _ _ (⟨blk_cellv (HS.out.at0) 0 rfl, blk_cellv (HS.out.at0) 1 rfl, blk_cellv (HS.out.at0) 2 rfl, blk_cellv (HS.out.at0) 3 rfl, blk_cellv (HS.out.at0) 4 rfl, blk_cellv (HS.out.at0) 5 rfl, blk_cellv (HS.out.at0) 6 rfl, Gl.cell HGl0.out HS.out.fr 0 rfl, Gl.cell HGl0.out HS.out.fr 1 rfl, Gl.cell HGl0.out HS.out.fr 2 rfl, Gl.cell HGl0.out HS.out.fr 3 rfl, Gl.cell HGl0.out HS.out.fr 4 rfl⟩) (fun hHeld => ?_)
              clear hK K
              refine norm_ (a' := ?_) ?_ ?_
              rotate_left
              · show Act.put _ (some 29) _ = _
                simp only [Act.put, List.setIfInBounds_toArray, List.set_cons_zero, List.set_cons_succ, i64_w, i32_w]
                rfl
              obtain ⟨b190, HA191, H⟩ := bind_some H
              have eb189 : ∀ w, (Op.equalIn 10000 108 (.agg #[.int .i64 t186.1, .int .i64 t186.2.1, .int .i64 t186.2.2.1, .int .i64 t186.2.2.2.1, .int .i64 t186.2.2.2.2]) (.agg #[.int .i64 0, .int .i64 0, .int .i64 0, .int .i64 0, .int .i64 0])).run Tryd.prog w = .ok b190 w := some_eq HA191 ▸ run_eq_ints 9998 108 3 5 .i64 [t186.1, t186.2.1, t186.2.2.1, t186.2.2.2.1, t186.2.2.2.2] [0, 0, 0, 0, 0] Tryd.underlying108 (by kernel_rfl) (by kernel_rfl) Tryd.underlying3 (fun _ => by kernel_rfl) rfl rfl
              refine pure_ (i := 3) (N := some 31) (v := ?_) (a' := ?_) #[true, true, true, true, false, false, false, false, false, false, false, false, false, false, false, false, false, false, false, false, false, false, false, false, false] rfl rfl (by kernel_rfl) (fun _ _ _ h => h) (Or.inl ⟨by rfl, ?_⟩) ?_ ?_
              rotate_left
              · intro w'
                go_simp
                with_reducible rfl
              rotate_left
              · simp only [Act.put, List.setIfInBounds_toArray, List.set_cons_zero, List.set_cons_succ, i64_w, i32_w]
                rfl
              refine pure_ (i := 4) (N := some 32) (v := ?_) (a' := ?_) #[true, true, true, true, true, false, false, false, false, false, false, false, false, false, false, false, false, false, false, false, false, false, false, false, false] rfl rfl (by kernel_rfl) (fun _ _ _ h => h) (Or.inl ⟨by rfl, ?_⟩) ?_ ?_
              rotate_left
              · intro w'
                go_simp
                with_reducible rfl
              rotate_left
              · simp only [Act.put, List.setIfInBounds_toArray, List.set_cons_zero, List.set_cons_succ, i64_w, i32_w]
                rfl
              by_cases c192 : b190 = true
              · have H := if_yes c192 H
                have c192b0 : b190 = true := c192
                have c192b1 : (!b190) = false := by rw [c192b0]; rfl
                clear c192
                try simp only [c192b0, Bool.not_true, Bool.not_false]
                refine pure_ (i := 5) (N := some 33) (v := ?_) (a' := ?_) #[true, true, true, true, true, true, false, false, false, false, false, false, false, false, false, false, false, false, false, false, false, false, false, false, false] rfl rfl (by kernel_rfl) (fun _ _ _ h => h) (Or.inl ⟨by rfl, ?_⟩) ?_ ?_
                rotate_left
                · intro w'
                  go_simp
                  with_reducible rfl
                rotate_left
                · simp only [Act.put, List.setIfInBounds_toArray, List.set_cons_zero, List.set_cons_succ, i64_w, i32_w]
                  rfl
                try simp only [c192b0, Bool.not_true, Bool.not_false]
                refine take_ (i := 6) (N := some 34) (v := ?_) (a' := ?_) #[true, true, true, true, true, true, true, false, false, false, false, false, false, false, false, false, false, false, false, false, false, false, false, false, false] rfl rfl (by kernel_rfl) (fun _ _ _ h => h) (Or.inl ⟨by rfl, ?_⟩) hHeld ?_ ?_
                rotate_left
                · rintro w' hS'
                  obtain ⟨s0, s1, s2, s3, s4, s5, s6, s7, s8, s9, s10, s11⟩ := hS'
                  go_simp
                  with_reducible rfl
                rotate_left
                · simp only [Act.put, List.setIfInBounds_toArray, List.set_cons_zero, List.set_cons_succ, i64_w, i32_w]
                  rfl
                try simp only [c192b0, Bool.not_true, Bool.not_false]
                refine pure_ (i := 7) (N := some 35) (v := ?_) (a' := ?_) #[true, true, true, true, true, true, true, true, false, false, false, false, false, false, false, false, false, false, false, false, false, false, false, false, false] rfl rfl (by kernel_rfl) (fun _ _ _ h => h) (Or.inl ⟨by rfl, ?_⟩) ?_ ?_
                rotate_left
                · intro w'
                  go_simp
                  with_reducible rfl
                rotate_left
                · simp only [Act.put, List.setIfInBounds_toArray, List.set_cons_zero, List.set_cons_succ, i64_w, i32_w]
                  rfl
                refine pure_ (i := 8) (N := some 36) (v := ?_) (a' := ?_) #[true, true, true, true, true, true, true, true, true, false, false, false, false, false, false, false, false, false, false, false, false, false, false, false, false] rfl rfl (by kernel_rfl) (fun _ _ _ h => h) (Or.inl ⟨by rfl, ?_⟩) ?_ ?_
                rotate_left
                · intro w'
                  go_simp
                  with_reducible rfl
                rotate_left
                · simp only [Act.put, List.setIfInBounds_toArray, List.set_cons_zero, List.set_cons_succ, i64_w, i32_w]
                  rfl
                refine pure_ (i := 9) (N := some 37) (v := ?_) (a' := ?_) #[true, true, true, true, true, true, true, true, true, true, false, false, false, false, false, false, false, false, false, false, false, false, false, false, false] rfl rfl (by kernel_rfl) (fun _ _ _ h => h) (Or.inl ⟨by rfl, ?_⟩) ?_ ?_
                rotate_left
                · intro w'
                  go_simp
                  with_reducible rfl
                rotate_left
                · simp only [Act.put, List.setIfInBounds_toArray, List.set_cons_zero, List.set_cons_succ, i64_w, i32_w]
                  rfl
                by_cases c193 : a107 ≥ 0
                · have H := if_yes c193 H
                  have c193b0 : decide (0 ≤ a107) = true := decide_eq_true c193
                  clear c193
                  try simp only [c193b0, Bool.not_true, Bool.not_false]
                  refine pure_ (i := 10) (N := some 38) (v := ?_) (a' := ?_) #[true, true, true, true, true, true, true, true, true, true, true, false, false, false, false, false, false, false, false, false, false, false, false, false, false] rfl rfl (by kernel_rfl) (fun _ _ _ h => h) (Or.inl ⟨by rfl, ?_⟩) ?_ ?_
                  rotate_left
                  · intro w'
                    go_simp
                    with_reducible rfl
                  rotate_left
                  · simp only [Act.put, List.setIfInBounds_toArray, List.set_cons_zero, List.set_cons_succ, i64_w, i32_w]
                    rfl
                  try simp only [c193b0, Bool.not_true, Bool.not_false]
                  refine take_ (i := 11) (N := some 39) (v := ?_) (a' := ?_) #[true, true, true, true, true, true, true, true, true, true, true, true, false, false, false, false, false, false, false, false, false, false, false, false, false] rfl rfl (by kernel_rfl) (fun _ _ _ h => h) (Or.inl ⟨by rfl, ?_⟩) hHeld ?_ ?_
                  rotate_left
                  · rintro w' hS'
                    obtain ⟨s0, s1, s2, s3, s4, s5, s6, s7, s8, s9, s10, s11⟩ := hS'
                    go_simp
                    with_reducible rfl
                  rotate_left
                  · simp only [Act.put, List.setIfInBounds_toArray, List.set_cons_zero, List.set_cons_succ, i64_w, i32_w]
                    rfl
                  try simp only [c193b0, Bool.not_true, Bool.not_false]
                  refine pure_ (i := 12) (N := some 40) (v := ?_) (a' := ?_) #[true, true, true, true, true, true, true, true, true, true, true, true, true, false, false, false, false, false, false, false, false, false, false, false, false] rfl rfl (by kernel_rfl) (fun _ _ _ h => h) (Or.inl ⟨by rfl, ?_⟩) ?_ ?_
                  rotate_left
                  · intro w'
                    go_simp
                    with_reducible rfl
                  rotate_left
                  · simp only [Act.put, List.setIfInBounds_toArray, List.set_cons_zero, List.set_cons_succ, i64_w, i32_w]
                    rfl
                  refine pure_ (i := 13) (N := some 41) (v := ?_) (a' := ?_) #[true, true, true, true, true, true, true, true, true, true, true, true, true, true, false, false, false, false, false, false, false, false, false, false, false] rfl rfl (by kernel_rfl) (fun _ _ _ h => h) (Or.inl ⟨by rfl, ?_⟩) ?_ ?_
                  rotate_left
                  · intro w'
                    go_simp
                    with_reducible rfl
                  rotate_left
                  · simp only [Act.put, List.setIfInBounds_toArray, List.set_cons_zero, List.set_cons_succ, i64_w, i32_w]
                    rfl
                  refine pure_ (i := 14) (N := some 42) (v := ?_) (a' := ?_) #[true, true, true, true, true, true, true, true, true, true, true, true, true, true, true, false, false, false, false, false, false, false, false, false, false] rfl rfl (by kernel_rfl) (fun _ _ _ h => h) (Or.inl ⟨by rfl, ?_⟩) ?_ ?_
                  rotate_left
                  · intro w'
                    go_simp
                    with_reducible rfl
                  rotate_left
                  · simp only [Act.put, List.setIfInBounds_toArray, List.set_cons_zero, List.set_cons_succ, i64_w, i32_w]
                    rfl
                  by_cases c194 : a107 < 1048576
                  · have H := if_yes c194 H
                    have c194b0 : decide (a107 < 1048576) = true := decide_eq_true c194
                    clear c194
                    try simp only [c194b0, Bool.not_true, Bool.not_false]
                    refine pure_ (i := 15) (N := some 43) (v := ?_) (a' := ?_) #[true, true, true, true, true, true, true, true, true, true, true, true, true, true, true, true, false, false, false, false, false, false, false, false, false] rfl rfl (by kernel_rfl) (fun _ _ _ h => h) (Or.inl ⟨by rfl, ?_⟩) ?_ ?_
                    rotate_left
                    · intro w'
                      go_simp
                      with_reducible rfl
                    rotate_left
                    · simp only [Act.put, List.setIfInBounds_toArray, List.set_cons_zero, List.set_cons_succ, i64_w, i32_w]
                      rfl
                    try simp only [c194b0, Bool.not_true, Bool.not_false]
                    refine take_ (i := 16) (N := some 44) (v := ?_) (a' := ?_) #[true, true, true, true, true, true, true, true, true, true, true, true, true, true, true, true, true, false, false, false, false, false, false, false, false] rfl rfl (by kernel_rfl) (fun _ _ _ h => h) (Or.inl ⟨by rfl, ?_⟩) hHeld ?_ ?_
                    rotate_left
                    · rintro w' hS'
                      obtain ⟨s0, s1, s2, s3, s4, s5, s6, s7, s8, s9, s10, s11⟩ := hS'
                      go_simp
                      with_reducible rfl
                    rotate_left
                    · simp only [Act.put, List.setIfInBounds_toArray, List.set_cons_zero, List.set_cons_succ, i64_w, i32_w]
                      rfl
                    try simp only [c194b0, Bool.not_true, Bool.not_false]
                    refine pure_ (i := 17) (N := some 45) (v := ?_) (a' := ?_) #[true, true, true, true, true, true, true, true, true, true, true, true, true, true, true, true, true, true, false, false, false, false, false, false, false] rfl rfl (by kernel_rfl) (fun _ _ _ h => h) (Or.inl ⟨by rfl, ?_⟩) ?_ ?_
                    rotate_left
                    · intro w'
                      go_simp
                      with_reducible rfl
                    rotate_left
                    · simp only [Act.put, List.setIfInBounds_toArray, List.set_cons_zero, List.set_cons_succ, i64_w, i32_w]
                      rfl
                    try simp only [c194b0, Bool.not_true, Bool.not_false]
                    refine pure_ (i := 18) (N := some 46) (v := ?_) (a' := ?_) #[true, true, true, true, true, true, true, true, true, true, true, true, true, true, true, true, true, true, true, false, false, false, false, false, false] rfl rfl (by kernel_rfl) (fun _ _ _ h => h) (Or.inl ⟨by rfl, ?_⟩) ?_ ?_
                    rotate_left
                    · intro w'
                      go_simp
                      with_reducible rfl
                    rotate_left
                    · simp only [Act.put, List.setIfInBounds_toArray, List.set_cons_zero, List.set_cons_succ, i64_w, i32_w]
                      rfl
                    by_cases c195 : a101 = 3
                    · have H := if_yes c195 H
                      have c195b0 : (a101 == 3) = true := beq_iff_eq.mpr c195
                      have c195b1 : (a101 != 3) = false := bne_eq_false_iff_eq.mpr c195
                      clear c195
                      try simp only [c195b0, Bool.not_true, Bool.not_false]
                      refine pure_ (i := 19) (N := some 47) (v := undef) (a' := ?_) #[true, true, true, true, true, true, true, true, true, true, true, true, true, true, true, true, true, true, true, true, false, false, false, false, false] rfl rfl (by kernel_rfl) (fun _ _ _ h => h) (Or.inr ⟨by rfl, rfl⟩) ?_ ?_
                      rotate_left
                      · simp only [Act.put, List.setIfInBounds_toArray, List.set_cons_zero, List.set_cons_succ, i64_w, i32_w]
                        rfl
                      try simp only [c195b0, Bool.not_true, Bool.not_false]
                      refine pure_ (i := 20) (N := some 48) (v := undef) (a' := ?_) #[true, true, true, true, true, true, true, true, true, true, true, true, true, true, true, true, true, true, true, true, true, false, false, false, false] rfl rfl (by kernel_rfl) (fun _ _ _ h => h) (Or.inr ⟨by rfl, rfl⟩) ?_ ?_
                      rotate_left
                      · simp only [Act.put, List.setIfInBounds_toArray, List.set_cons_zero, List.set_cons_succ, i64_w, i32_w]
                        rfl
                      try simp only [c195b0, Bool.not_true, Bool.not_false]
                      refine pure_ (i := 21) (N := some 49) (v := undef) (a' := ?_) #[true, true, true, true, true, true, true, true, true, true, true, true, true, true, true, true, true, true, true, true, true, true, false, false, false] rfl rfl (by kernel_rfl) (fun _ _ _ h => h) (Or.inr ⟨by rfl, rfl⟩) ?_ ?_
                      rotate_left
                      · simp only [Act.put, List.setIfInBounds_toArray, List.set_cons_zero, List.set_cons_succ, i64_w, i32_w]
                        rfl
                      try simp only [c194b0, Bool.not_true, Bool.not_false]
                      refine pure_ (i := 22) (N := some 50) (v := ?_) (a' := ?_) #[true, true, true, true, true, true, true, true, true, true, true, true, true, true, true, true, true, true, true, true, true, true, true, false, false] rfl rfl (by kernel_rfl) (fun _ _ _ h => h) (Or.inl ⟨by rfl, ?_⟩) ?_ ?_
                      rotate_left
                      · intro w'
                        go_simp
                        with_reducible rfl
                      rotate_left
                      · simp only [Act.put, List.setIfInBounds_toArray, List.set_cons_zero, List.set_cons_succ, i64_w, i32_w]
                        rfl
                      refine pure_ (i := 23) (N := some 51) (v := ?_) (a' := ?_) #[true, true, true, true, true, true, true, true, true, true, true, true, true, true, true, true, true, true, true, true, true, true, true, true, false] rfl rfl (by kernel_rfl) (fun _ _ _ h => h) (Or.inl ⟨by rfl, ?_⟩) ?_ ?_
                      rotate_left
                      · intro w'
                        go_simp
                        with_reducible rfl
                      rotate_left
                      · simp only [Act.put, List.setIfInBounds_toArray, List.set_cons_zero, List.set_cons_succ, i64_w, i32_w]
                        rfl
                      refine pure_ (i := 24) (N := some 2) (v := ?_) (a' := ?_) #[true, true, true, true, true, true, true, true, true, true, true, true, true, true, true, true, true, true, true, true, true, true, true, true, true] rfl rfl (by kernel_rfl) (fun _ _ _ h => h) (Or.inl ⟨by rfl, ?_⟩) ?_ ?_
                      rotate_left
                      · intro w'
                        go_simp
                        with_reducible rfl
                      rotate_left
                      · simp only [Act.put, List.setIfInBounds_toArray, List.set_cons_zero, List.set_cons_succ, i64_w, i32_w]
                        rfl
                      refine done_ (by kernel_rfl) ?_
                      replace HS : Aside0 (Sep (fps []) w [] w188) := ⟨HS.out.sub (.cons _ .slnil)⟩
                      go_wp2_with fail
                      go_ret
                      rw [← some_eq H]
                      exact ⟨(by first | rfl | (simp [IntKind.wrap_u32]; done)), (HS.out).keep (l := []) (rest := [])⟩
                    · have H := if_no c195 H
                      have c195b0 : (a101 == 3) = false := beq_eq_false_iff_ne.mpr c195
                      have c195b1 : (a101 != 3) = true := bne_iff_ne.mpr c195
                      clear c195
                      try simp only [c195b0, Bool.not_true, Bool.not_false]
                      refine pure_ (i := 19) (N := some 47) (v := ?_) (a' := ?_) #[true, true, true, true, true, true, true, true, true, true, true, true, true, true, true, true, true, true, true, true, false, false, false, false, false] rfl rfl (by kernel_rfl) (fun _ _ _ h => h) (Or.inl ⟨by rfl, ?_⟩) ?_ ?_
                      rotate_left
                      · intro w'
                        go_simp
                        with_reducible rfl
                      rotate_left
                      · simp only [Act.put, List.setIfInBounds_toArray, List.set_cons_zero, List.set_cons_succ, i64_w, i32_w]
                        rfl
                      try simp only [c195b0, Bool.not_true, Bool.not_false]
                      refine take_ (i := 20) (N := some 48) (v := ?_) (a' := ?_) #[true, true, true, true, true, true, true, true, true, true, true, true, true, true, true, true, true, true, true, true, true, false, false, false, false] rfl rfl (by kernel_rfl) (fun _ _ _ h => h) (Or.inl ⟨by rfl, ?_⟩) hHeld ?_ ?_
                      rotate_left
                      · rintro w' hS'
                        obtain ⟨s0, s1, s2, s3, s4, s5, s6, s7, s8, s9, s10, s11⟩ := hS'
                        go_simp
                        with_reducible rfl
                      rotate_left
                      · simp only [Act.put, List.setIfInBounds_toArray, List.set_cons_zero, List.set_cons_succ, i64_w, i32_w]
                        rfl
                      try simp only [c195b0, Bool.not_true, Bool.not_false]
                      refine pure_ (i := 21) (N := some 49) (v := ?_) (a' := ?_) #[true, true, true, true, true, true, true, true, true, true, true, true, true, true, true, true, true, true, true, true, true, true, false, false, false] rfl rfl (by kernel_rfl) (fun _ _ _ h => h) (Or.inl ⟨by rfl, ?_⟩) ?_ ?_
                      rotate_left
                      · intro w'
                        go_simp
                        with_reducible rfl
                      rotate_left
                      · simp only [Act.put, List.setIfInBounds_toArray, List.set_cons_zero, List.set_cons_succ, i64_w, i32_w]
                        rfl
                      try simp only [c194b0, Bool.not_true, Bool.not_false]
                      refine pure_ (i := 22) (N := some 50) (v := ?_) (a' := ?_) #[true, true, true, true, true, true, true, true, true, true, true, true, true, true, true, true, true, true, true, true, true, true, true, false, false] rfl rfl (by kernel_rfl) (fun _ _ _ h => h) (Or.inl ⟨by rfl, ?_⟩) ?_ ?_
                      rotate_left
                      · intro w'
                        go_simp
                        with_reducible rfl
                      rotate_left
                      · simp only [Act.put, List.setIfInBounds_toArray, List.set_cons_zero, List.set_cons_succ, i64_w, i32_w]
                        rfl
                      refine pure_ (i := 23) (N := some 51) (v := ?_) (a' := ?_) #[true, true, true, true, true, true, true, true, true, true, true, true, true, true, true, true, true, true, true, true, true, true, true, true, false] rfl rfl (by kernel_rfl) (fun _ _ _ h => h) (Or.inl ⟨by rfl, ?_⟩) ?_ ?_
                      rotate_left
                      · intro w'
                        go_simp
                        with_reducible rfl
                      rotate_left
                      · simp only [Act.put, List.setIfInBounds_toArray, List.set_cons_zero, List.set_cons_succ, i64_w, i32_w]
                        rfl
                      refine pure_ (i := 24) (N := some 2) (v := ?_) (a' := ?_) #[true, true, true, true, true, true, true, true, true, true, true, true, true, true, true, true, true, true, true, true, true, true, true, true, true] rfl rfl (by kernel_rfl) (fun _ _ _ h => h) (Or.inl ⟨by rfl, ?_⟩) ?_ ?_
                      rotate_left
                      · intro w'
                        go_simp
                        with_reducible rfl
                      rotate_left
                      · simp only [Act.put, List.setIfInBounds_toArray, List.set_cons_zero, List.set_cons_succ, i64_w, i32_w]
                        rfl
                      refine done_ (by kernel_rfl) ?_
                      replace HS : Aside0 (Sep (fps []) w [] w188) := ⟨HS.out.sub (.cons _ .slnil)⟩
                      go_wp2_with fail
                      go_ret
                      rw [← some_eq H]
                      exact ⟨(by first | rfl | (simp [IntKind.wrap_u32]; done)), (HS.out).keep (l := []) (rest := [])⟩
                  · have H := if_no c194 H
                    have c194b0 : decide (a107 < 1048576) = false := decide_eq_false c194
                    clear c194
                    try simp only [c194b0, Bool.not_true, Bool.not_false]
                    refine pure_ (i := 15) (N := some 43) (v := undef) (a' := ?_) #[true, true, true, true, true, true, true, true, true, true, true, true, true, true, true, true, false, false, false, false, false, false, false, false, false] rfl rfl (by kernel_rfl) (fun _ _ _ h => h) (Or.inr ⟨by rfl, rfl⟩) ?_ ?_
                    rotate_left
                    · simp only [Act.put, List.setIfInBounds_toArray, List.set_cons_zero, List.set_cons_succ, i64_w, i32_w]
                      rfl
                    try simp only [c194b0, Bool.not_true, Bool.not_false]
                    refine pure_ (i := 16) (N := some 44) (v := undef) (a' := ?_) #[true, true, true, true, true, true, true, true, true, true, true, true, true, true, true, true, true, false, false, false, false, false, false, false, false] rfl rfl (by kernel_rfl) (fun _ _ _ h => h) (Or.inr ⟨by rfl, rfl⟩) ?_ ?_
                    rotate_left
                    · simp only [Act.put, List.setIfInBounds_toArray, List.set_cons_zero, List.set_cons_succ, i64_w, i32_w]
                      rfl
                    try simp only [c194b0, Bool.not_true, Bool.not_false]
                    refine pure_ (i := 17) (N := some 45) (v := undef) (a' := ?_) #[true, true, true, true, true, true, true, true, true, true, true, true, true, true, true, true, true, true, false, false, false, false, false, false, false] rfl rfl (by kernel_rfl) (fun _ _ _ h => h) (Or.inr ⟨by rfl, rfl⟩) ?_ ?_
                    rotate_left
                    · simp only [Act.put, List.setIfInBounds_toArray, List.set_cons_zero, List.set_cons_succ, i64_w, i32_w]
                      rfl
                    try simp only [c194b0, Bool.not_true, Bool.not_false]
                    refine pure_ (i := 18) (N := some 46) (v := undef) (a' := ?_) #[true, true, true, true, true, true, true, true, true, true, true, true, true, true, true, true, true, true, true, false, false, false, false, false, false] rfl rfl (by kernel_rfl) (fun _ _ _ h => h) (Or.inr ⟨by rfl, rfl⟩) ?_ ?_
                    rotate_left
                    · simp only [Act.put, List.setIfInBounds_toArray, List.set_cons_zero, List.set_cons_succ, i64_w, i32_w]
                      rfl
                    refine pure_ (i := 19) (N := some 47) (v := undef) (a' := ?_) #[true, true, true, true, true, true, true, true, true, true, true, true, true, true, true, true, true, true, true, true, false, false, false, false, false] rfl rfl (by kernel_rfl) (fun _ _ _ h => h) (Or.inr ⟨by rfl, rfl⟩) ?_ ?_
                    rotate_left
                    · simp only [Act.put, List.setIfInBounds_toArray, List.set_cons_zero, List.set_cons_succ, i64_w, i32_w]
                      rfl
                    refine pure_ (i := 20) (N := some 48) (v := undef) (a' := ?_) #[true, true, true, true, true, true, true, true, true, true, true, true, true, true, true, true, true, true, true, true, true, false, false, false, false] rfl rfl (by kernel_rfl) (fun _ _ _ h => h) (Or.inr ⟨by rfl, rfl⟩) ?_ ?_
                    rotate_left
                    · simp only [Act.put, List.setIfInBounds_toArray, List.set_cons_zero, List.set_cons_succ, i64_w, i32_w]
                      rfl
                    refine pure_ (i := 21) (N := some 49) (v := undef) (a' := ?_) #[true, true, true, true, true, true, true, true, true, true, true, true, true, true, true, true, true, true, true, true, true, true, false, false, false] rfl rfl (by kernel_rfl) (fun _ _ _ h => h) (Or.inr ⟨by rfl, rfl⟩) ?_ ?_
                    rotate_left
                    · simp only [Act.put, List.setIfInBounds_toArray, List.set_cons_zero, List.set_cons_succ, i64_w, i32_w]
                      rfl
                    try simp only [c194b0, Bool.not_true, Bool.not_false]
                    refine pure_ (i := 22) (N := some 50) (v := undef) (a' := ?_) #[true, true, true, true, true, true, true, true, true, true, true, true, true, true, true, true, true, true, true, true, true, true, true, false, false] rfl rfl (by kernel_rfl) (fun _ _ _ h => h) (Or.inr ⟨by rfl, rfl⟩) ?_ ?_
                    rotate_left
                    · simp only [Act.put, List.setIfInBounds_toArray, List.set_cons_zero, List.set_cons_succ, i64_w, i32_w]
                      rfl
                    refine pure_ (i := 23) (N := some 51) (v := ?_) (a' := ?_) #[true, true, true, true, true, true, true, true, true, true, true, true, true, true, true, true, true, true, true, true, true, true, true, true, false] rfl rfl (by kernel_rfl) (fun _ _ _ h => h) (Or.inl ⟨by rfl, ?_⟩) ?_ ?_
                    rotate_left
                    · intro w'
                      go_simp
                      with_reducible rfl
                    rotate_left
                    · simp only [Act.put, List.setIfInBounds_toArray, List.set_cons_zero, List.set_cons_succ, i64_w, i32_w]
                      rfl
                    refine pure_ (i := 24) (N := some 2) (v := ?_) (a' := ?_) #[true, true, true, true, true, true, true, true, true, true, true, true, true, true, true, true, true, true, true, true, true, true, true, true, true] rfl rfl (by kernel_rfl) (fun _ _ _ h => h) (Or.inl ⟨by rfl, ?_⟩) ?_ ?_
                    rotate_left
                    · intro w'
                      go_simp
                      with_reducible rfl
                    rotate_left
                    · simp only [Act.put, List.setIfInBounds_toArray, List.set_cons_zero, List.set_cons_succ, i64_w, i32_w]
                      rfl
                    refine done_ (by kernel_rfl) ?_
                    replace HS : Aside0 (Sep (fps []) w [] w188) := ⟨HS.out.sub (.cons _ .slnil)⟩
                    go_wp2_with fail
                    go_ret
                    rw [← some_eq H]
                    exact ⟨(by first | rfl | (simp [IntKind.wrap_u32]; done)), (HS.out).keep (l := []) (rest := [])⟩
                · have H := if_no c193 H
                  have c193b0 : decide (0 ≤ a107) = false := decide_eq_false c193
                  clear c193
                  try simp only [c193b0, Bool.not_true, Bool.not_false]
                  refine pure_ (i := 10) (N := some 38) (v := undef) (a' := ?_) #[true, true, true, true, true, true, true, true, true, true, true, false, false, false, false, false, false, false, false, false, false, false, false, false, false] rfl rfl (by kernel_rfl) (fun _ _ _ h => h) (Or.inr ⟨by rfl, rfl⟩) ?_ ?_
                  rotate_left
                  · simp only [Act.put, List.setIfInBounds_toArray, List.set_cons_zero, List.set_cons_succ, i64_w, i32_w]
                    rfl
                  try simp only [c193b0, Bool.not_true, Bool.not_false]
                  refine pure_ (i := 11) (N := some 39) (v := undef) (a' := ?_) #[true, true, true, true, true, true, true, true, true, true, true, true, false, false, false, false, false, false, false, false, false, false, false, false, false] rfl rfl (by kernel_rfl) (fun _ _ _ h => h) (Or.inr ⟨by rfl, rfl⟩) ?_ ?_
                  rotate_left
                  · simp only [Act.put, List.setIfInBounds_toArray, List.set_cons_zero, List.set_cons_succ, i64_w, i32_w]
                    rfl
                  try simp only [c193b0, Bool.not_true, Bool.not_false]
                  refine pure_ (i := 12) (N := some 40) (v := undef) (a' := ?_) #[true, true, true, true, true, true, true, true, true, true, true, true, true, false, false, false, false, false, false, false, false, false, false, false, false] rfl rfl (by kernel_rfl) (fun _ _ _ h => h) (Or.inr ⟨by rfl, rfl⟩) ?_ ?_
                  rotate_left
                  · simp only [Act.put, List.setIfInBounds_toArray, List.set_cons_zero, List.set_cons_succ, i64_w, i32_w]
                    rfl
                  refine pure_ (i := 13) (N := some 41) (v := ?_) (a' := ?_) #[true, true, true, true, true, true, true, true, true, true, true, true, true, true, false, false, false, false, false, false, false, false, false, false, false] rfl rfl (by kernel_rfl) (fun _ _ _ h => h) (Or.inl ⟨by rfl, ?_⟩) ?_ ?_
                  rotate_left
                  · intro w'
                    go_simp
                    with_reducible rfl
                  rotate_left
                  · simp only [Act.put, List.setIfInBounds_toArray, List.set_cons_zero, List.set_cons_succ, i64_w, i32_w]
                    rfl
                  refine pure_ (i := 14) (N := some 42) (v := ?_) (a' := ?_) #[true, true, true, true, true, true, true, true, true, true, true, true, true, true, true, false, false, false, false, false, false, false, false, false, false] rfl rfl (by kernel_rfl) (fun _ _ _ h => h) (Or.inl ⟨by rfl, ?_⟩) ?_ ?_
                  rotate_left
                  · intro w'
                    go_simp
                    with_reducible rfl
                  rotate_left
                  · simp only [Act.put, List.setIfInBounds_toArray, List.set_cons_zero, List.set_cons_succ, i64_w, i32_w]
                    rfl
                  refine pure_ (i := 15) (N := some 43) (v := undef) (a' := ?_) #[true, true, true, true, true, true, true, true, true, true, true, true, true, true, true, true, false, false, false, false, false, false, false, false, false] rfl rfl (by kernel_rfl) (fun _ _ _ h => h) (Or.inr ⟨by rfl, rfl⟩) ?_ ?_
                  rotate_left
                  · simp only [Act.put, List.setIfInBounds_toArray, List.set_cons_zero, List.set_cons_succ, i64_w, i32_w]
                    rfl
                  refine pure_ (i := 16) (N := some 44) (v := undef) (a' := ?_) #[true, true, true, true, true, true, true, true, true, true, true, true, true, true, true, true, true, false, false, false, false, false, false, false, false] rfl rfl (by kernel_rfl) (fun _ _ _ h => h) (Or.inr ⟨by rfl, rfl⟩) ?_ ?_
                  rotate_left
                  · simp only [Act.put, List.setIfInBounds_toArray, List.set_cons_zero, List.set_cons_succ, i64_w, i32_w]
                    rfl
                  refine pure_ (i := 17) (N := some 45) (v := undef) (a' := ?_) #[true, true, true, true, true, true, true, true, true, true, true, true, true, true, true, true, true, true, false, false, false, false, false, false, false] rfl rfl (by kernel_rfl) (fun _ _ _ h => h) (Or.inr ⟨by rfl, rfl⟩) ?_ ?_
                  rotate_left
                  · simp only [Act.put, List.setIfInBounds_toArray, List.set_cons_zero, List.set_cons_succ, i64_w, i32_w]
                    rfl
                  refine pure_ (i := 18) (N := some 46) (v := undef) (a' := ?_) #[true, true, true, true, true, true, true, true, true, true, true, true, true, true, true, true, true, true, true, false, false, false, false, false, false] rfl rfl (by kernel_rfl) (fun _ _ _ h => h) (Or.inr ⟨by rfl, rfl⟩) ?_ ?_
                  rotate_left
                  · simp only [Act.put, List.setIfInBounds_toArray, List.set_cons_zero, List.set_cons_succ, i64_w, i32_w]
                    rfl
                  refine pure_ (i := 19) (N := some 47) (v := undef) (a' := ?_) #[true, true, true, true, true, true, true, true, true, true, true, true, true, true, true, true, true, true, true, true, false, false, false, false, false] rfl rfl (by kernel_rfl) (fun _ _ _ h => h) (Or.inr ⟨by rfl, rfl⟩) ?_ ?_
                  rotate_left
                  · simp only [Act.put, List.setIfInBounds_toArray, List.set_cons_zero, List.set_cons_succ, i64_w, i32_w]
                    rfl
                  refine pure_ (i := 20) (N := some 48) (v := undef) (a' := ?_) #[true, true, true, true, true, true, true, true, true, true, true, true, true, true, true, true, true, true, true, true, true, false, false, false, false] rfl rfl (by kernel_rfl) (fun _ _ _ h => h) (Or.inr ⟨by rfl, rfl⟩) ?_ ?_
                  rotate_left
                  · simp only [Act.put, List.setIfInBounds_toArray, List.set_cons_zero, List.set_cons_succ, i64_w, i32_w]
                    rfl
                  refine pure_ (i := 21) (N := some 49) (v := undef) (a' := ?_) #[true, true, true, true, true, true, true, true, true, true, true, true, true, true, true, true, true, true, true, true, true, true, false, false, false] rfl rfl (by kernel_rfl) (fun _ _ _ h => h) (Or.inr ⟨by rfl, rfl⟩) ?_ ?_
                  rotate_left
                  · simp only [Act.put, List.setIfInBounds_toArray, List.set_cons_zero, List.set_cons_succ, i64_w, i32_w]
                    rfl
                  refine pure_ (i := 22) (N := some 50) (v := undef) (a' := ?_) #[true, true, true, true, true, true, true, true, true, true, true, true, true, true, true, true, true, true, true, true, true, true, true, false, false] rfl rfl (by kernel_rfl) (fun _ _ _ h => h) (Or.inr ⟨by rfl, rfl⟩) ?_ ?_
                  rotate_left
                  · simp only [Act.put, List.setIfInBounds_toArray, List.set_cons_zero, List.set_cons_succ, i64_w, i32_w]
                    rfl
                  refine pure_ (i := 23) (N := some 51) (v := ?_) (a' := ?_) #[true, true, true, true, true, true, true, true, true, true, true, true, true, true, true, true, true, true, true, true, true, true, true, true, false] rfl rfl (by kernel_rfl) (fun _ _ _ h => h) (Or.inl ⟨by rfl, ?_⟩) ?_ ?_
                  rotate_left
                  · intro w'
                    go_simp
                    with_reducible rfl
                  rotate_left
                  · simp only [Act.put, List.setIfInBounds_toArray, List.set_cons_zero, List.set_cons_succ, i64_w, i32_w]
                    rfl
                  refine pure_ (i := 24) (N := some 2) (v := ?_) (a' := ?_) #[true, true, true, true, true, true, true, true, true, true, true, true, true, true, true, true, true, true, true, true, true, true, true, true, true] rfl rfl (by kernel_rfl) (fun _ _ _ h => h) (Or.inl ⟨by rfl, ?_⟩) ?_ ?_
                  rotate_left
                  · intro w'
                    go_simp
                    with_reducible rfl
                  rotate_left
                  · simp only [Act.put, List.setIfInBounds_toArray, List.set_cons_zero, List.set_cons_succ, i64_w, i32_w]
                    rfl
                  refine done_ (by kernel_rfl) ?_
                  replace HS : Aside0 (Sep (fps []) w [] w188) := ⟨HS.out.sub (.cons _ .slnil)⟩
                  go_wp2_with fail
                  go_ret
                  rw [← some_eq H]
                  exact ⟨(by first | rfl | (simp [IntKind.wrap_u32]; done)), (HS.out).keep (l := []) (rest := [])⟩
              · have H := if_no c192 H
                have c192b0 : b190 = false := by simpa using c192
                have c192b1 : (!b190) = true := by rw [c192b0]; rfl
                clear c192
                try simp only [c192b0, Bool.not_true, Bool.not_false]
                refine pure_ (i := 5) (N := some 33) (v := undef) (a' := ?_) #[true, true, true, true, true, true, false, false, false, false, false, false, false, false, false, false, false, false, false, false, false, false, false, false, false] rfl rfl (by kernel_rfl) (fun _ _ _ h => h) (Or.inr ⟨by rfl, rfl⟩) ?_ ?_
                rotate_left
                · simp only [Act.put, List.setIfInBounds_toArray, List.set_cons_zero, List.set_cons_succ, i64_w, i32_w]
                  rfl
                try simp only [c192b0, Bool.not_true, Bool.not_false]
                refine pure_ (i := 6) (N := some 34) (v := undef) (a' := ?_) #[true, true, true, true, true, true, true, false, false, false, false, false, false, false, false, false, false, false, false, false, false, false, false, false, false] rfl rfl (by kernel_rfl) (fun _ _ _ h => h) (Or.inr ⟨by rfl, rfl⟩) ?_ ?_
                rotate_left
                · simp only [Act.put, List.setIfInBounds_toArray, List.set_cons_zero, List.set_cons_succ, i64_w, i32_w]
                  rfl
                try simp only [c192b0, Bool.not_true, Bool.not_false]
                refine pure_ (i := 7) (N := some 35) (v := undef) (a' := ?_) #[true, true, true, true, true, true, true, true, false, false, false, false, false, false, false, false, false, false, false, false, false, false, false, false, false] rfl rfl (by kernel_rfl) (fun _ _ _ h => h) (Or.inr ⟨by rfl, rfl⟩) ?_ ?_
                rotate_left
                · simp only [Act.put, List.setIfInBounds_toArray, List.set_cons_zero, List.set_cons_succ, i64_w, i32_w]
                  rfl
                refine pure_ (i := 8) (N := some 36) (v := ?_) (a' := ?_) #[true, true, true, true, true, true, true, true, true, false, false, false, false, false, false, false, false, false, false, false, false, false, false, false, false] rfl rfl (by kernel_rfl) (fun _ _ _ h => h) (Or.inl ⟨by rfl, ?_⟩) ?_ ?_
                rotate_left
                · intro w'
                  go_simp
                  with_reducible rfl
                rotate_left
                · simp only [Act.put, List.setIfInBounds_toArray, List.set_cons_zero, List.set_cons_succ, i64_w, i32_w]
                  rfl
                refine pure_ (i := 9) (N := some 37) (v := ?_) (a' := ?_) #[true, true, true, true, true, true, true, true, true, true, false, false, false, false, false, false, false, false, false, false, false, false, false, false, false] rfl rfl (by kernel_rfl) (fun _ _ _ h => h) (Or.inl ⟨by rfl, ?_⟩) ?_ ?_
                rotate_left
                · intro w'
                  go_simp
                  with_reducible rfl
                rotate_left
                · simp only [Act.put, List.setIfInBounds_toArray, List.set_cons_zero, List.set_cons_succ, i64_w, i32_w]
                  rfl
                refine pure_ (i := 10) (N := some 38) (v := undef) (a' := ?_) #[true, true, true, true, true, true, true, true, true, true, true, false, false, false, false, false, false, false, false, false, false, false, false, false, false] rfl rfl (by kernel_rfl) (fun _ _ _ h => h) (Or.inr ⟨by rfl, rfl⟩) ?_ ?_
                rotate_left
                · simp only [Act.put, List.setIfInBounds_toArray, List.set_cons_zero, List.set_cons_succ, i64_w, i32_w]
                  rfl
                refine pure_ (i := 11) (N := some 39) (v := undef) (a' := ?_) #[true, true, true, true, true, true, true, true, true, true, true, true, false, false, false, false, false, false, false, false, false, false, false, false, false] rfl rfl (by kernel_rfl) (fun _ _ _ h => h) (Or.inr ⟨by rfl, rfl⟩) ?_ ?_
                rotate_left
                · simp only [Act.put, List.setIfInBounds_toArray, List.set_cons_zero, List.set_cons_succ, i64_w, i32_w]
                  rfl
                refine pure_ (i := 12) (N := some 40) (v := undef) (a' := ?_) #[true, true, true, true, true, true, true, true, true, true, true, true, true, false, false, false, false, false, false, false, false, false, false, false, false] rfl rfl (by kernel_rfl) (fun _ _ _ h => h) (Or.inr ⟨by rfl, rfl⟩) ?_ ?_
                rotate_left
                · simp only [Act.put, List.setIfInBounds_toArray, List.set_cons_zero, List.set_cons_succ, i64_w, i32_w]
                  rfl
                refine pure_ (i := 13) (N := some 41) (v := ?_) (a' := ?_) #[true, true, true, true, true, true, true, true, true, true, true, true, true, true, false, false, false, false, false, false, false, false, false, false, false] rfl rfl (by kernel_rfl) (fun _ _ _ h => h) (Or.inl ⟨by rfl, ?_⟩) ?_ ?_
                rotate_left
                · intro w'
                  go_simp
                  with_reducible rfl
                rotate_left
                · simp only [Act.put, List.setIfInBounds_toArray, List.set_cons_zero, List.set_cons_succ, i64_w, i32_w]
                  rfl
                refine pure_ (i := 14) (N := some 42) (v := ?_) (a' := ?_) #[true, true, true, true, true, true, true, true, true, true, true, true, true, true, true, false, false, false, false, false, false, false, false, false, false] rfl rfl (by kernel_rfl) (fun _ _ _ h => h) (Or.inl ⟨by rfl, ?_⟩) ?_ ?_
                rotate_left
                · intro w'
                  go_simp
                  with_reducible rfl
                rotate_left
                · simp only [Act.put, List.setIfInBounds_toArray, List.set_cons_zero, List.set_cons_succ, i64_w, i32_w]
                  rfl
                refine pure_ (i := 15) (N := some 43) (v := undef) (a' := ?_) #[true, true, true, true, true, true, true, true, true, true, true, true, true, true, true, true, false, false, false, false, false, false, false, false, false] rfl rfl (by kernel_rfl) (fun _ _ _ h => h) (Or.inr ⟨by rfl, rfl⟩) ?_ ?_
                rotate_left
                · simp only [Act.put, List.setIfInBounds_toArray, List.set_cons_zero, List.set_cons_succ, i64_w, i32_w]
                  rfl
                refine pure_ (i := 16) (N := some 44) (v := undef) (a' := ?_) #[true, true, true, true, true, true, true, true, true, true, true, true, true, true, true, true, true, false, false, false, false, false, false, false, false] rfl rfl (by kernel_rfl) (fun _ _ _ h => h) (Or.inr ⟨by rfl, rfl⟩) ?_ ?_
                rotate_left
                · simp only [Act.put, List.setIfInBounds_toArray, List.set_cons_zero, List.set_cons_succ, i64_w, i32_w]
                  rfl
                refine pure_ (i := 17) (N := some 45) (v := undef) (a' := ?_) #[true, true, true, true, true, true, true, true, true, true, true, true, true, true, true, true, true, true, false, false, false, false, false, false, false] rfl rfl (by kernel_rfl) (fun _ _ _ h => h) (Or.inr ⟨by rfl, rfl⟩) ?_ ?_
                rotate_left
                · simp only [Act.put, List.setIfInBounds_toArray, List.set_cons_zero, List.set_cons_succ, i64_w, i32_w]
                  rfl
                refine pure_ (i := 18) (N := some 46) (v := undef) (a' := ?_) #[true, true, true, true, true, true, true, true, true, true, true, true, true, true, true, true, true, true, true, false, false, false, false, false, false] rfl rfl (by kernel_rfl) (fun _ _ _ h => h) (Or.inr ⟨by rfl, rfl⟩) ?_ ?_
                rotate_left
                · simp only [Act.put, List.setIfInBounds_toArray, List.set_cons_zero, List.set_cons_succ, i64_w, i32_w]
                  rfl
                refine pure_ (i := 19) (N := some 47) (v := undef) (a' := ?_) #[true, true, true, true, true, true, true, true, true, true, true, true, true, true, true, true, true, true, true, true, false, false, false, false, false] rfl rfl (by kernel_rfl) (fun _ _ _ h => h) (Or.inr ⟨by rfl, rfl⟩) ?_ ?_
                rotate_left
                · simp only [Act.put, List.setIfInBounds_toArray, List.set_cons_zero, List.set_cons_succ, i64_w, i32_w]
                  rfl
                refine pure_ (i := 20) (N := some 48) (v := undef) (a' := ?_) #[true, true, true, true, true, true, true, true, true, true, true, true, true, true, true, true, true, true, true, true, true, false, false, false, false] rfl rfl (by kernel_rfl) (fun _ _ _ h => h) (Or.inr ⟨by rfl, rfl⟩) ?_ ?_
                rotate_left
                · simp only [Act.put, List.setIfInBounds_toArray, List.set_cons_zero, List.set_cons_succ, i64_w, i32_w]
                  rfl
                refine pure_ (i := 21) (N := some 49) (v := undef) (a' := ?_) #[true, true, true, true, true, true, true, true, true, true, true, true, true, true, true, true, true, true, true, true, true, true, false, false, false] rfl rfl (by kernel_rfl) (fun _ _ _ h => h) (Or.inr ⟨by rfl, rfl⟩) ?_ ?_
                rotate_left
                · simp only [Act.put, List.setIfInBounds_toArray, List.set_cons_zero, List.set_cons_succ, i64_w, i32_w]
                  rfl
                refine pure_ (i := 22) (N := some 50) (v := undef) (a' := ?_) #[true, true, true, true, true, true, true, true, true, true, true, true, true, true, true, true, true, true, true, true, true, true, true, false, false] rfl rfl (by kernel_rfl) (fun _ _ _ h => h) (Or.inr ⟨by rfl, rfl⟩) ?_ ?_
                rotate_left
                · simp only [Act.put, List.setIfInBounds_toArray, List.set_cons_zero, List.set_cons_succ, i64_w, i32_w]
                  rfl
                refine pure_ (i := 23) (N := some 51) (v := ?_) (a' := ?_) #[true, true, true, true, true, true, true, true, true, true, true, true, true, true, true, true, true, true, true, true, true, true, true, true, false] rfl rfl (by kernel_rfl) (fun _ _ _ h => h) (Or.inl ⟨by rfl, ?_⟩) ?_ ?_
                rotate_left
                · intro w'
                  go_simp
                  with_reducible rfl
                rotate_left
                · simp only [Act.put, List.setIfInBounds_toArray, List.set_cons_zero, List.set_cons_succ, i64_w, i32_w]
                  rfl
                refine pure_ (i := 24) (N := some 2) (v := ?_) (a' := ?_) #[true, true, true, true, true, true, true, true, true, true, true, true, true, true, true, true, true, true, true, true, true, true, true, true, true] rfl rfl (by kernel_rfl) (fun _ _ _ h => h) (Or.inl ⟨by rfl, ?_⟩) ?_ ?_
                rotate_left
                · intro w'
                  go_simp
                  with_reducible rfl
                rotate_left
                · simp only [Act.put, List.setIfInBounds_toArray, List.set_cons_zero, List.set_cons_succ, i64_w, i32_w]
                  rfl
                refine done_ (by kernel_rfl) ?_
                replace HS : Aside0 (Sep (fps []) w [] w188) := ⟨HS.out.sub (.cons _ .slnil)⟩
                go_wp2_with fail
                go_ret
                rw [← some_eq H]
                exact ⟨(by first | rfl | (simp [IntKind.wrap_u32]; done)), (HS.out).keep (l := []) (rest := [])⟩
            · have H := if_no c183 H
              have c183b0 : (a101 == 0) = false := beq_eq_false_iff_ne.mpr c183
              have c183b1 : (a101 != 0) = true := bne_iff_ne.mpr c183
              clear c183
              by_cases c196 : a101 = 3
              · have H := if_yes c196 H
                have c196b0 : (a101 == 3) = true := beq_iff_eq.mpr c196
                have c196b1 : (a101 != 3) = false := bne_eq_false_iff_eq.mpr c196
                clear c196
                have hc178 : w169.cell? ⟨g108, 0, none⟩ = some (.int .i64 a101) := blk_cellv (HS.out.at0) 0 rfl
                go_wp2_with fail
                clear hc178
                refine start_ (n := 25) (S := (fun w' => w'.cell? ⟨g108, 0, none⟩ = some (.int .i64 a101) ∧ w'.cell? ⟨g108, 1, none⟩ = some (.int .i64 a102) ∧ w'.cell? ⟨g108, 2, none⟩ = some (.int .i64 a103) ∧ w'.cell? ⟨g108, 3, none⟩ = some (.int .i64 a104) ∧ w'.cell? ⟨g108, 4, none⟩ = some (.int .i64 a105) ∧ w'.cell? ⟨g108, 5, none⟩ = some (.int .i64 a106) ∧ w'.cell? ⟨g108, 6, none⟩ = some (.int .i64 a107) ∧ w'.cell? ⟨0, 0, none⟩ = some (.int .i64 0) ∧ w'.cell? ⟨0, 1, none⟩ = some (.int .i64 0) ∧ w'.cell? ⟨0, 2, none⟩ = some (.int .i64 0) ∧ w'.cell? ⟨0, 3, none⟩ = some (.int .i64 0) ∧ w'.cell? ⟨0, 4, none⟩ = some (.int .i64 0))) (ds := []) #[false, false, false, false, false, false, false, false, false, false, false, false, false, false, false, false, false, false, false, false, false, false, false, false, false] (by kernel_rfl) rfl rfl (⟨blk_cellv ((HS.out.drew).at0) 0 rfl, blk_cellv ((HS.out.drew).at0) 1 rfl, blk_cellv ((HS.out.drew).at0) 2 rfl, blk_cellv ((HS.out.drew).at0) 3 rfl, blk_cellv ((HS.out.drew).at0) 4 rfl, blk_cellv ((HS.out.drew).at0) 5 rfl, blk_cellv ((HS.out.drew).at0) 6 rfl, Gl.cell HGl0.out (HS.out.drew).fr 0 rfl, Gl.cell HGl0.out (HS.out.drew).fr 1 rfl, Gl.cell HGl0.out (HS.out.drew).fr 2 rfl, Gl.cell HGl0.out (HS.out.drew).fr 3 rfl, Gl.cell HGl0.out (HS.out.drew).fr 4 rfl⟩) (fun hHeld => ?_)
                have HS_ := Aside0.mk HS.out.drew
                clear HS
                generalize World.drew _ = w198 at HS_ hHeld ⊢
                have HS := HS_
                clear HS_
                refine take_ (i := 0) (N := some 28) (v := ?_) (a' := ?_) #[true, false, false, false, false, false, false, false, false, false, false, false, false, false, false, false, false, false, false, false, false, false, false, false, false] rfl rfl (by kernel_rfl) (fun _ _ _ h => h) (Or.inl ⟨by rfl, ?_⟩) hHeld ?_ ?_
                rotate_left
                · rintro w' hS'
                  obtain ⟨s0, s1, s2, s3, s4, s5, s6, s7, s8, s9, s10, s11⟩ := hS'
                  go_simp
                  with_reducible rfl
                rotate_left
                · simp only [Act.put, List.setIfInBounds_toArray, List.set_cons_zero, List.set_cons_succ, i64_w, i32_w]
                  rfl
                refine take_ (i := 2) (N := some 30) (v := ?_) (a' := ?_) #[true, false, true, false, false, false, false, false, false, false, false, false, false, false, false, false, false, false, false, false, false, false, false, false, false] rfl rfl (by kernel_rfl) (fun _ _ _ h => h) (Or.inl ⟨by rfl, ?_⟩) hHeld ?_ ?_
                rotate_left
                · rintro w' hS'
                  obtain ⟨s0, s1, s2, s3, s4, s5, s6, s7, s8, s9, s10, s11⟩ := hS'
                  go_simp
                  with_reducible rfl
                rotate_left
                · simp only [Act.put, List.setIfInBounds_toArray, List.set_cons_zero, List.set_cons_succ, i64_w, i32_w]
                  rfl
                refine one_ (i := 1) (N := some 29) #[true, true, true, false, false, false, false, false, false, false, false, false, false, false, false, false, false, false, false, false, false, false, false, false, false] rfl rfl (by kernel_rfl) (by decide) (fun K hK => ?_)
                obtain ⟨t186, HA199, H⟩ := bind_some H
                refine goes_ Tryd.func68 (by kernel_rfl) rfl #[.agg #[.int .i64 a101, .int .i64 a102, .int .i64 a103, .int .i64 a104, .int .i64 a105, .int .i64 a106, .int .i64 a107]] (by rfl) rfl rfl (by (try simp only [List.map_toArray, List.map_cons, List.map_nil]); first | done | rfl) ?_
                refine (tag_marks.calls a101 a102 a103 a104 a105 a106 a107 t186 _ ⟨Gl.pass (l := []) (rest := [b1 g108 a101 a102 a103 a104 a105 a106 a107]) HGl0.out HS.out⟩ ⟨HS.out.begin (l := []) (rest := [b1 g108 a101 a102 a103 a104 a105 a106 a107])⟩ HA199).mono ?_
                rintro e_ w200 ⟨rfl, hS⟩
                replace HS : Aside0 (Sep (fps []) w [b1 g108 a101 a102 a103 a104 a105 a106 a107] w200) := ⟨HS.out.call (l := []) (rest := [b1 g108 a101 a102 a103 a104 a105 a106 a107]) hS⟩
                clear hS
                refine ⟨_, rfl, ?_⟩
                refine hK.out _ _ (⟨blk_cellv (HS.out.at0) 0 rfl, blk_cellv (HS.out.at0) 1 rfl, blk_cellv (HS.out.at0) 2 rfl, blk_cellv (HS.out.at0) 3 rfl, blk_cellv (HS.out.at0) 4 rfl, blk_cellv (HS.out.at0) 5 rfl, blk_cellv (HS.out.at0) 6 rfl, Gl.cell HGl0.out HS.out.fr 0 rfl, Gl.cell HGl0.out HS.out.fr 1 rfl, Gl.cell HGl0.out HS.out.fr 2 rfl, Gl.cell HGl0.out HS.out.fr 3 rfl, Gl.cell HGl0.out HS.out.fr 4 rfl⟩) (fun hHeld => ?_)
                clear hK K
                refine norm_ (a' := ?_) ?_ ?_
                rotate_left
                · show Act.put _ (some 29) _ = _
                  simp only [Act.put, List.setIfInBounds_toArray, List.set_cons_zero, List.set_cons_succ, i64_w, i32_w]
                  rfl
                obtain ⟨b190, HA202, H⟩ := bind_some H
                have eb201 : ∀ w, (Op.equalIn 10000 108 (.agg #[.int .i64 t186.1, .int .i64 t186.2.1, .int .i64 t186.2.2.1, .int .i64 t186.2.2.2.1, .int .i64 t186.2.2.2.2]) (.agg #[.int .i64 0, .int .i64 0, .int .i64 0, .int .i64 0, .int .i64 0])).run Tryd.prog w = .ok b190 w := some_eq HA202 ▸ run_eq_ints 9998 108 3 5 .i64 [t186.1, t186.2.1, t186.2.2.1, t186.2.2.2.1, t186.2.2.2.2] [0, 0, 0, 0, 0] Tryd.underlying108 (by kernel_rfl) (by kernel_rfl) Tryd.underlying3 (fun _ => by kernel_rfl) rfl rfl
                refine pure_ (i := 3) (N := some 31) (v := ?_) (a' := ?_) #[true, true, true, true, false, false, false, false, false, false, false, false, false, false, false, false, false, false, false, false, false, false, false, false, false] rfl rfl (by kernel_rfl) (fun _ _ _ h => h) (Or.inl ⟨by rfl, ?_⟩) ?_ ?_
                rotate_left
                · intro w'
                  go_simp
                  with_reducible rfl
                rotate_left
                · simp only [Act.put, List.setIfInBounds_toArray, List.set_cons_zero, List.set_cons_succ, i64_w, i32_w]
                  rfl
                refine pure_ (i := 4) (N := some 32) (v := ?_) (a' := ?_) #[true, true, true, true, true, false, false, false, false, false, false, false, false, false, false, false, false, false, false, false, false, false, false, false, false] rfl rfl (by kernel_rfl) (fun _ _ _ h => h) (Or.inl ⟨by rfl, ?_⟩) ?_ ?_
                rotate_left
                · intro w'
                  go_simp
                  with_reducible rfl
                rotate_left
                · simp only [Act.put, List.setIfInBounds_toArray, List.set_cons_zero, List.set_cons_succ, i64_w, i32_w]
                  rfl
                by_cases c203 : b190 = true
                · have H := if_yes c203 H
                  have c203b0 : b190 = true := c203
                  have c203b1 : (!b190) = false := by rw [c203b0]; rfl
                  clear c203
                  try simp only [c203b0, Bool.not_true, Bool.not_false]
                  refine pure_ (i := 5) (N := some 33) (v := ?_) (a' := ?_) #[true, true, true, true, true, true, false, false, false, false, false, false, false, false, false, false, false, false, false, false, false, false, false, false, false] rfl rfl (by kernel_rfl) (fun _ _ _ h => h) (Or.inl ⟨by rfl, ?_⟩) ?_ ?_
                  rotate_left
                  · intro w'
                    go_simp
                    with_reducible rfl
                  rotate_left
                  · simp only [Act.put, List.setIfInBounds_toArray, List.set_cons_zero, List.set_cons_succ, i64_w, i32_w]
                    rfl
                  try simp only [c203b0, Bool.not_true, Bool.not_false]
                  refine take_ (i := 6) (N := some 34) (v := ?_) (a' := ?_) #[true, true, true, true, true, true, true, false, false, false, false, false, false, false, false, false, false, false, false, false, false, false, false, false, false] rfl rfl (by kernel_rfl) (fun _ _ _ h => h) (Or.inl ⟨by rfl, ?_⟩) hHeld ?_ ?_
                  rotate_left
                  · rintro w' hS'
                    obtain ⟨s0, s1, s2, s3, s4, s5, s6, s7, s8, s9, s10, s11⟩ := hS'
                    go_simp
                    with_reducible rfl
                  rotate_left
                  · simp only [Act.put, List.setIfInBounds_toArray, List.set_cons_zero, List.set_cons_succ, i64_w, i32_w]
                    rfl
                  try simp only [c203b0, Bool.not_true, Bool.not_false]
                  refine pure_ (i := 7) (N := some 35) (v := ?_) (a' := ?_) #[true, true, true, true, true, true, true, true, false, false, false, false, false, false, false, false, false, false, false, false, false, false, false, false, false] rfl rfl (by kernel_rfl) (fun _ _ _ h => h) (Or.inl ⟨by rfl, ?_⟩) ?_ ?_
                  rotate_left
                  · intro w'
                    go_simp
                    with_reducible rfl
                  rotate_left
                  · simp only [Act.put, List.setIfInBounds_toArray, List.set_cons_zero, List.set_cons_succ, i64_w, i32_w]
                    rfl
                  refine pure_ (i := 8) (N := some 36) (v := ?_) (a' := ?_) #[true, true, true, true, true, true, true, true, true, false, false, false, false, false, false, false, false, false, false, false, false, false, false, false, false] rfl rfl (by kernel_rfl) (fun _ _ _ h => h) (Or.inl ⟨by rfl, ?_⟩) ?_ ?_
                  rotate_left
                  · intro w'
                    go_simp
                    with_reducible rfl
                  rotate_left
                  · simp only [Act.put, List.setIfInBounds_toArray, List.set_cons_zero, List.set_cons_succ, i64_w, i32_w]
                    rfl
                  refine pure_ (i := 9) (N := some 37) (v := ?_) (a' := ?_) #[true, true, true, true, true, true, true, true, true, true, false, false, false, false, false, false, false, false, false, false, false, false, false, false, false] rfl rfl (by kernel_rfl) (fun _ _ _ h => h) (Or.inl ⟨by rfl, ?_⟩) ?_ ?_
                  rotate_left
                  · intro w'
                    go_simp
                    with_reducible rfl
                  rotate_left
                  · simp only [Act.put, List.setIfInBounds_toArray, List.set_cons_zero, List.set_cons_succ, i64_w, i32_w]
                    rfl
                  by_cases c204 : a107 ≥ 0
                  · have H := if_yes c204 H
                    have c204b0 : decide (0 ≤ a107) = true := decide_eq_true c204
                    clear c204
                    try simp only [c204b0, Bool.not_true, Bool.not_false]
                    refine pure_ (i := 10) (N := some 38) (v := ?_) (a' := ?_) #[true, true, true, true, true, true, true, true, true, true, true, false, false, false, false, false, false, false, false, false, false, false, false, false, false] rfl rfl (by kernel_rfl) (fun _ _ _ h => h) (Or.inl ⟨by rfl, ?_⟩) ?_ ?_
                    rotate_left
                    · intro w'
                      go_simp
                      with_reducible rfl
                    rotate_left
                    · simp only [Act.put, List.setIfInBounds_toArray, List.set_cons_zero, List.set_cons_succ, i64_w, i32_w]
                      rfl
                    try simp only [c204b0, Bool.not_true, Bool.not_false]
                    refine take_ (i := 11) (N := some 39) (v := ?_) (a' := ?_) #[true, true, true, true, true, true, true, true, true, true, true, true, false, false, false, false, false, false, false, false, false, false, false, false, false] rfl rfl (by kernel_rfl) (fun _ _ _ h => h) (Or.inl ⟨by rfl, ?_⟩) hHeld ?_ ?_
                    rotate_left
                    · rintro w' hS'
                      obtain ⟨s0, s1, s2, s3, s4, s5, s6, s7, s8, s9, s10, s11⟩ := hS'
                      go_simp
                      with_reducible rfl
                    rotate_left
                    · simp only [Act.put, List.setIfInBounds_toArray, List.set_cons_zero, List.set_cons_succ, i64_w, i32_w]
                      rfl
                    try simp only [c204b0, Bool.not_true, Bool.not_false]
                    refine pure_ (i := 12) (N := some 40) (v := ?_) (a' := ?_) #[true, true, true, true, true, true, true, true, true, true, true, true, true, false, false, false, false, false, false, false, false, false, false, false, false] rfl rfl (by kernel_rfl) (fun _ _ _ h => h) (Or.inl ⟨by rfl, ?_⟩) ?_ ?_
                    rotate_left
                    · intro w'
                      go_simp
                      with_reducible rfl
                    rotate_left
                    · simp only [Act.put, List.setIfInBounds_toArray, List.set_cons_zero, List.set_cons_succ, i64_w, i32_w]
                      rfl
                    refine pure_ (i := 13) (N := some 41) (v := ?_) (a' := ?_) #[true, true, true, true, true, true, true, true, true, true, true, true, true, true, false, false, false, false, false, false, false, false, false, false, false] rfl rfl (by kernel_rfl) (fun _ _ _ h => h) (Or.inl ⟨by rfl, ?_⟩) ?_ ?_
                    rotate_left
                    · intro w'
                      go_simp
                      with_reducible rfl
                    rotate_left
                    · simp only [Act.put, List.setIfInBounds_toArray, List.set_cons_zero, List.set_cons_succ, i64_w, i32_w]
                      rfl
                    refine pure_ (i := 14) (N := some 42) (v := ?_) (a' := ?_) #[true, true, true, true, true, true, true, true, true, true, true, true, true, true, true, false, false, false, false, false, false, false, false, false, false] rfl rfl (by kernel_rfl) (fun _ _ _ h => h) (Or.inl ⟨by rfl, ?_⟩) ?_ ?_
                    rotate_left
                    · intro w'
                      go_simp
                      with_reducible rfl
                    rotate_left
                    · simp only [Act.put, List.setIfInBounds_toArray, List.set_cons_zero, List.set_cons_succ, i64_w, i32_w]
                      rfl
                    by_cases c205 : a107 < 1048576
                    · have H := if_yes c205 H
                      have c205b0 : decide (a107 < 1048576) = true := decide_eq_true c205
                      clear c205
                      try simp only [c205b0, Bool.not_true, Bool.not_false]
                      refine pure_ (i := 15) (N := some 43) (v := ?_) (a' := ?_) #[true, true, true, true, true, true, true, true, true, true, true, true, true, true, true, true, false, false, false, false, false, false, false, false, false] rfl rfl (by kernel_rfl) (fun _ _ _ h => h) (Or.inl ⟨by rfl, ?_⟩) ?_ ?_
                      rotate_left
                      · intro w'
                        go_simp
                        with_reducible rfl
                      rotate_left
                      · simp only [Act.put, List.setIfInBounds_toArray, List.set_cons_zero, List.set_cons_succ, i64_w, i32_w]
                        rfl
                      try simp only [c205b0, Bool.not_true, Bool.not_false]
                      refine take_ (i := 16) (N := some 44) (v := ?_) (a' := ?_) #[true, true, true, true, true, true, true, true, true, true, true, true, true, true, true, true, true, false, false, false, false, false, false, false, false] rfl rfl (by kernel_rfl) (fun _ _ _ h => h) (Or.inl ⟨by rfl, ?_⟩) hHeld ?_ ?_
                      rotate_left
                      · rintro w' hS'
                        obtain ⟨s0, s1, s2, s3, s4, s5, s6, s7, s8, s9, s10, s11⟩ := hS'
                        go_simp
                        with_reducible rfl
                      rotate_left
                      · simp only [Act.put, List.setIfInBounds_toArray, List.set_cons_zero, List.set_cons_succ, i64_w, i32_w]
                        rfl
                      try simp only [c205b0, Bool.not_true, Bool.not_false]
                      refine pure_ (i := 17) (N := some 45) (v := ?_) (a' := ?_) #[true, true, true, true, true, true, true, true, true, true, true, true, true, true, true, true, true, true, false, false, false, false, false, false, false] rfl rfl (by kernel_rfl) (fun _ _ _ h => h) (Or.inl ⟨by rfl, ?_⟩) ?_ ?_
                      rotate_left
                      · intro w'
                        go_simp
                        with_reducible rfl
                      rotate_left
                      · simp only [Act.put, List.setIfInBounds_toArray, List.set_cons_zero, List.set_cons_succ, i64_w, i32_w]
                        rfl
                      try simp only [c205b0, Bool.not_true, Bool.not_false]
                      refine pure_ (i := 18) (N := some 46) (v := ?_) (a' := ?_) #[true, true, true, true, true, true, true, true, true, true, true, true, true, true, true, true, true, true, true, false, false, false, false, false, false] rfl rfl (by kernel_rfl) (fun _ _ _ h => h) (Or.inl ⟨by rfl, ?_⟩) ?_ ?_
                      rotate_left
                      · intro w'
                        go_simp
                        with_reducible rfl
                      rotate_left
                      · simp only [Act.put, List.setIfInBounds_toArray, List.set_cons_zero, List.set_cons_succ, i64_w, i32_w]
                        rfl
                      try simp only [c196b0, Bool.not_true, Bool.not_false]
                      refine pure_ (i := 19) (N := some 47) (v := undef) (a' := ?_) #[true, true, true, true, true, true, true, true, true, true, true, true, true, true, true, true, true, true, true, true, false, false, false, false, false] rfl rfl (by kernel_rfl) (fun _ _ _ h => h) (Or.inr ⟨by rfl, rfl⟩) ?_ ?_
                      rotate_left
                      · simp only [Act.put, List.setIfInBounds_toArray, List.set_cons_zero, List.set_cons_succ, i64_w, i32_w]
                        rfl
                      try simp only [c196b0, Bool.not_true, Bool.not_false]
                      refine pure_ (i := 20) (N := some 48) (v := undef) (a' := ?_) #[true, true, true, true, true, true, true, true, true, true, true, true, true, true, true, true, true, true, true, true, true, false, false, false, false] rfl rfl (by kernel_rfl) (fun _ _ _ h => h) (Or.inr ⟨by rfl, rfl⟩) ?_ ?_
                      rotate_left
                      · simp only [Act.put, List.setIfInBounds_toArray, List.set_cons_zero, List.set_cons_succ, i64_w, i32_w]
                        rfl
                      try simp only [c196b0, Bool.not_true, Bool.not_false]
                      refine pure_ (i := 21) (N := some 49) (v := undef) (a' := ?_) #[true, true, true, true, true, true, true, true, true, true, true, true, true, true, true, true, true, true, true, true, true, true, false, false, false] rfl rfl (by kernel_rfl) (fun _ _ _ h => h) (Or.inr ⟨by rfl, rfl⟩) ?_ ?_
                      rotate_left
                      · simp only [Act.put, List.setIfInBounds_toArray, List.set_cons_zero, List.set_cons_succ, i64_w, i32_w]
                        rfl
                      try simp only [c205b0, Bool.not_true, Bool.not_false]
                      refine pure_ (i := 22) (N := some 50) (v := ?_) (a' := ?_) #[true, true, true, true, true, true, true, true, true, true, true, true, true, true, true, true, true, true, true, true, true, true, true, false, false] rfl rfl (by kernel_rfl) (fun _ _ _ h => h) (Or.inl ⟨by rfl, ?_⟩) ?_ ?_
                      rotate_left
                      · intro w'
                        go_simp
                        with_reducible rfl
                      rotate_left
                      · simp only [Act.put, List.setIfInBounds_toArray, List.set_cons_zero, List.set_cons_succ, i64_w, i32_w]
                        rfl
                      refine pure_ (i := 23) (N := some 51) (v := ?_) (a' := ?_) #[true, true, true, true, true, true, true, true, true, true, true, true, true, true, true, true, true, true, true, true, true, true, true, true, false] rfl rfl (by kernel_rfl) (fun _ _ _ h => h) (Or.inl ⟨by rfl, ?_⟩) ?_ ?_
                      rotate_left
                      · intro w'
                        go_simp
                        with_reducible rfl
                      rotate_left
                      · simp only [Act.put, List.setIfInBounds_toArray, List.set_cons_zero, List.set_cons_succ, i64_w, i32_w]
                        rfl
                      refine pure_ (i := 24) (N := some 2) (v := ?_) (a' := ?_) #[true, true, true, true, true, true, true, true, true, true, true, true, true, true, true, true, true, true, true, true, true, true, true, true, true] rfl rfl (by kernel_rfl) (fun _ _ _ h => h) (Or.inl ⟨by rfl, ?_⟩) ?_ ?_
                      rotate_left
                      · intro w'
                        go_simp
                        with_reducible rfl
                      rotate_left
                      · simp only [Act.put, List.setIfInBounds_toArray, List.set_cons_zero, List.set_cons_succ, i64_w, i32_w]
                        rfl
                      refine done_ (by kernel_rfl) ?_
                      replace HS : Aside0 (Sep (fps []) w [] w200) := ⟨HS.out.sub (.cons _ .slnil)⟩
                      go_wp2_with fail
                      go_ret
                      rw [← some_eq H]
                      exact ⟨(by first | rfl | (simp [IntKind.wrap_u32]; done)), (HS.out).keep (l := []) (rest := [])⟩
                    · have H := if_no c205 H
                      have c205b0 : decide (a107 < 1048576) = false := decide_eq_false c205
                      clear c205
                      try simp only [c205b0, Bool.not_true, Bool.not_false]
                      refine pure_ (i := 15) (N := some 43) (v := undef) (a' := ?_) #[true, true, true, true, true, true, true, true, true, true, true, true, true, true, true, true, false, false, false, false, false, false, false, false, false] rfl rfl (by kernel_rfl) (fun _ _ _ h => h) (Or.inr ⟨by rfl, rfl⟩) ?_ ?_
                      rotate_left
                      · simp only [Act.put, List.setIfInBounds_toArray, List.set_cons_zero, List.set_cons_succ, i64_w, i32_w]
                        rfl
                      try simp only [c205b0, Bool.not_true, Bool.not_false]
                      refine pure_ (i := 16) (N := some 44) (v := undef) (a' := ?_) #[true, true, true, true, true, true, true, true, true, true, true, true, true, true, true, true, true, false, false, false, false, false, false, false, false] rfl rfl (by kernel_rfl) (fun _ _ _ h => h) (Or.inr ⟨by rfl, rfl⟩) ?_ ?_
                      rotate_left
                      · simp only [Act.put, List.setIfInBounds_toArray, List.set_cons_zero, List.set_cons_succ, i64_w, i32_w]
                        rfl
                      try simp only [c205b0, Bool.not_true, Bool.not_false]
                      refine pure_ (i := 17) (N := some 45) (v := undef) (a' := ?_) #[true, true, true, true, true, true, true, true, true, true, true, true, true, true, true, true, true, true, false, false, false, false, false, false, false] rfl rfl (by kernel_rfl) (fun _ _ _ h => h) (Or.inr ⟨by rfl, rfl⟩) ?_ ?_
                      rotate_left
                      · simp only [Act.put, List.setIfInBounds_toArray, List.set_cons_zero, List.set_cons_succ, i64_w, i32_w]
                        rfl
                      try simp only [c205b0, Bool.not_true, Bool.not_false]
                      refine pure_ (i := 18) (N := some 46) (v := undef) (a' := ?_) #[true, true, true, true, true, true, true, true, true, true, true, true, true, true, true, true, true, true, true, false, false, false, false, false, false] rfl rfl (by kernel_rfl) (fun _ _ _ h => h) (Or.inr ⟨by rfl, rfl⟩) ?_ ?_
                      rotate_left
                      · simp only [Act.put, List.setIfInBounds_toArray, List.set_cons_zero, List.set_cons_succ, i64_w, i32_w]
                        rfl
                      refine pure_ (i := 19) (N := some 47) (v := undef) (a' := ?_) #[true, true, true, true, true, true, true, true, true, true, true, true, true, true, true, true, true, true, true, true, false, false, false, false, false] rfl rfl (by kernel_rfl) (fun _ _ _ h => h) (Or.inr ⟨by rfl, rfl⟩) ?_ ?_
                      rotate_left
                      · simp only [Act.put, List.setIfInBounds_toArray, List.set_cons_zero, List.set_cons_succ, i64_w, i32_w]
                        rfl
                      refine pure_ (i := 20) (N := some 48) (v := undef) (a' := ?_) #[true, true, true, true, true, true, true, true, true, true, true, true, true, true, true, true, true, true, true, true, true, false, false, false, false] rfl rfl (by kernel_rfl) (fun _ _ _ h => h) (Or.inr ⟨by rfl, rfl⟩) ?_ ?_
                      rotate_left
                      · simp only [Act.put, List.setIfInBounds_toArray, List.set_cons_zero, List.set_cons_succ, i64_w, i32_w]
                        rfl
                      refine pure_ (i := 21) (N := some 49) (v := undef) (a' := ?_) #[true, true, true, true, true, true, true, true, true, true, true, true, true, true, true, true, true, true, true, true, true, true, false, false, false] rfl rfl (by kernel_rfl) (fun _ _ _ h => h) (Or.inr ⟨by rfl, rfl⟩) ?_ ?_
                      rotate_left
                      · simp only [Act.put, List.setIfInBounds_toArray, List.set_cons_zero, List.set_cons_succ, i64_w, i32_w]
                        rfl
                      try simp only [c205b0, Bool.not_true, Bool.not_false]
                      refine pure_ (i := 22) (N := some 50) (v := undef) (a' := ?_) #[true, true, true, true, true, true, true, true, true, true, true, true, true, true, true, true, true, true, true, true, true, true, true, false, false] rfl rfl (by kernel_rfl) (fun _ _ _ h => h) (Or.inr ⟨by rfl, rfl⟩) ?_ ?_
                      rotate_left
                      · simp only [Act.put, List.setIfInBounds_toArray, List.set_cons_zero, List.set_cons_succ, i64_w, i32_w]
                        rfl
                      refine pure_ (i := 23) (N := some 51) (v := ?_) (a' := ?_) #[true, true, true, true, true, true, true, true, true, true, true, true, true, true, true, true, true, true, true, true, true, true, true, true, false] rfl rfl (by kernel_rfl) (fun _ _ _ h => h) (Or.inl ⟨by rfl, ?_⟩) ?_ ?_
                      rotate_left
                      · intro w'
                        go_simp
                        with_reducible rfl
                      rotate_left
                      · simp only [Act.put, List.setIfInBounds_toArray, List.set_cons_zero, List.set_cons_succ, i64_w, i32_w]
                        rfl
                      refine pure_ (i := 24) (N := some 2) (v := ?_) (a' := ?_) #[true, true, true, true, true, true, true, true, true, true, true, true, true, true, true, true, true, true, true, true, true, true, true, true, true] rfl rfl (by kernel_rfl) (fun _ _ _ h => h) (Or.inl ⟨by rfl, ?_⟩) ?_ ?_
                      rotate_left
                      · intro w'
                        go_simp
                        with_reducible rfl
                      rotate_left
                      · simp only [Act.put, List.setIfInBounds_toArray, List.set_cons_zero, List.set_cons_succ, i64_w, i32_w]
                        rfl
                      refine done_ (by kernel_rfl) ?_
                      replace HS : Aside0 (Sep (fps []) w [] w200) := ⟨HS.out.sub (.cons _ .slnil)⟩
                      go_wp2_with fail
                      go_ret
                      rw [← some_eq H]
                      exact ⟨(by first | rfl | (simp [IntKind.wrap_u32]; done)), (HS.out).keep (l := []) (rest := [])⟩
                  · have H := if_no c204 H
                    have c204b0 : decide (0 ≤ a107) = false := decide_eq_false c204
                    clear c204
                    try simp only [c204b0, Bool.not_true, Bool.not_false]
                    refine pure_ (i := 10) (N := some 38) (v := undef) (a' := ?_) #[true, true, true, true, true, true, true, true, true, true, true, false, false, false, false, false, false, false, false, false, false, false, false, false, false] rfl rfl (by kernel_rfl) (fun _ _ _ h => h) (Or.inr ⟨by rfl, rfl⟩) ?_ ?_
                    rotate_left
                    · simp only [Act.put, List.setIfInBounds_toArray, List.set_cons_zero, List.set_cons_succ, i64_w, i32_w]
                      rfl
                    try simp only [c204b0, Bool.not_true, Bool.not_false]
                    refine pure_ (i := 11) (N := some 39) (v := undef) (a' := ?_) #[true, true, true, true, true, true, true, true, true, true, true, true, false, false, false, false, false, false, false, false, false, false, false, false, false] rfl rfl (by kernel_rfl) (fun _ _ _ h => h) (Or.inr ⟨by rfl, rfl⟩) ?_ ?_
                    rotate_left
                    · simp only [Act.put, List.setIfInBounds_toArray, List.set_cons_zero, List.set_cons_succ, i64_w, i32_w]
                      rfl
                    try simp only [c204b0, Bool.not_true, Bool.not_false]
                    refine pure_ (i := 12) (N := some 40) (v := undef) (a' := ?_) #[true, true, true, true, true, true, true, true, true, true, true, true, true, false, false, false, false, false, false, false, false, false, false, false, false] rfl rfl (by kernel_rfl) (fun _ _ _ h => h) (Or.inr ⟨by rfl, rfl⟩) ?_ ?_
                    rotate_left
                    · simp only [Act.put, List.setIfInBounds_toArray, List.set_cons_zero, List.set_cons_succ, i64_w, i32_w]
                      rfl
                    refine pure_ (i := 13) (N := some 41) (v := ?_) (a' := ?_) #[true, true, true, true, true, true, true, true, true, true, true, true, true, true, false, false, false, false, false, false, false, false, false, false, false] rfl rfl (by kernel_rfl) (fun _ _ _ h => h) (Or.inl ⟨by rfl, ?_⟩) ?_ ?_
                    rotate_left
                    · intro w'
                      go_simp
                      with_reducible rfl
                    rotate_left
                    · simp only [Act.put, List.setIfInBounds_toArray, List.set_cons_zero, List.set_cons_succ, i64_w, i32_w]
                      rfl
                    refine pure_ (i := 14) (N := some 42) (v := ?_) (a' := ?_) #[true, true, true, true, true, true, true, true, true, true, true, true, true, true, true, false, false, false, false, false, false, false, false, false, false] rfl rfl (by kernel_rfl) (fun _ _ _ h => h) (Or.inl ⟨by rfl, ?_⟩) ?_ ?_
                    rotate_left
                    · intro w'
                      go_simp
                      with_reducible rfl
                    rotate_left
                    · simp only [Act.put, List.setIfInBounds_toArray, List.set_cons_zero, List.set_cons_succ, i64_w, i32_w]
                      rfl
                    refine pure_ (i := 15) (N := some 43) (v := undef) (a' := ?_) #[true, true, true, true, true, true, true, true, true, true, true, true, true, true, true, true, false, false, false, false, false, false, false, false, false] rfl rfl (by kernel_rfl) (fun _ _ _ h => h) (Or.inr ⟨by rfl, rfl⟩) ?_ ?_
                    rotate_left
                    · simp only [Act.put, List.setIfInBounds_toArray, List.set_cons_zero, List.set_cons_succ, i64_w, i32_w]
                      rfl
                    refine pure_ (i := 16) (N := some 44) (v := undef) (a' := ?_) #[true, true, true, true, true, true, true, true, true, true, true, true, true, true, true, true, true, false, false, false, false, false, false, false, false] rfl rfl (by kernel_rfl) (fun _ _ _ h => h) (Or.inr ⟨by rfl, rfl⟩) ?_ ?_
                    rotate_left
                    · simp only [Act.put, List.setIfInBounds_toArray, List.set_cons_zero, List.set_cons_succ, i64_w, i32_w]
                      rfl
                    refine pure_ (i := 17) (N := some 45) (v := undef) (a' := ?_) #[true, true, true, true, true, true, true, true, true, true, true, true, true, true, true, true, true, true, false, false, false, false, false, false, false] rfl rfl (by kernel_rfl) (fun _ _ _ h => h) (Or.inr ⟨by rfl, rfl⟩) ?_ ?_
                    rotate_left
                    · simp only [Act.put, List.setIfInBounds_toArray, List.set_cons_zero, List.set_cons_succ, i64_w, i32_w]
                      rfl
                    refine pure_ (i := 18) (N := some 46) (v := undef) (a' := ?_) #[true, true, true, true, true, true, true, true, true, true, true, true, true, true, true, true, true, true, true, false, false, false, false, false, false] rfl rfl (by kernel_rfl) (fun _ _ _ h => h) (Or.inr ⟨by rfl, rfl⟩) ?_ ?_
                    rotate_left
                    · simp only [Act.put, List.setIfInBounds_toArray, List.set_cons_zero, List.set_cons_succ, i64_w, i32_w]
                      rfl
                    refine pure_ (i := 19) (N := some 47) (v := undef) (a' := ?_) #[true, true, true, true, true, true, true, true, true, true, true, true, true, true, true, true, true, true, true, true, false, false, false, false, false] rfl rfl (by kernel_rfl) (fun _ _ _ h => h) (Or.inr ⟨by rfl, rfl⟩) ?_ ?_
                    rotate_left
                    · simp only [Act.put, List.setIfInBounds_toArray, List.set_cons_zero, List.set_cons_succ, i64_w, i32_w]
                      rfl
                    refine pure_ (i := 20) (N := some 48) (v := undef) (a' := ?_) #[true, true, true, true, true, true, true, true, true, true, true, true, true, true, true, true, true, true, true, true, true, false, false, false, false] rfl rfl (by kernel_rfl) (fun _ _ _ h => h) (Or.inr ⟨by rfl, rfl⟩) ?_ ?_
                    rotate_left
                    · simp only [Act.put, List.setIfInBounds_toArray, List.set_cons_zero, List.set_cons_succ, i64_w, i32_w]
                      rfl
                    refine pure_ (i := 21) (N := some 49) (v := undef) (a' := ?_) #[true, true, true, true, true, true, true, true, true, true, true, true, true, true, true, true, true, true, true, true, true, true, false, false, false] rfl rfl (by kernel_rfl) (fun _ _ _ h => h) (Or.inr ⟨by rfl, rfl⟩) ?_ ?_
                    rotate_left
                    · simp only [Act.put, List.setIfInBounds_toArray, List.set_cons_zero, List.set_cons_succ, i64_w, i32_w]
                      rfl
                    refine pure_ (i := 22) (N := some 50) (v := undef) (a' := ?_) #[true, true, true, true, true, true, true, true, true, true, true, true, true, true, true, true, true, true, true, true, true, true, true, false, false] rfl rfl (by kernel_rfl) (fun _ _ _ h => h) (Or.inr ⟨by rfl, rfl⟩) ?_ ?_
                    rotate_left
                    · simp only [Act.put, List.setIfInBounds_toArray, List.set_cons_zero, List.set_cons_succ, i64_w, i32_w]
                      rfl
                    refine pure_ (i := 23) (N := some 51) (v := ?_) (a' := ?_) #[true, true, true, true, true, true, true, true, true, true, true, true, true, true, true, true, true, true, true, true, true, true, true, true, false] rfl rfl (by kernel_rfl) (fun _ _ _ h => h) (Or.inl ⟨by rfl, ?_⟩) ?_ ?_
                    rotate_left
                    · intro w'
                      go_simp
                      with_reducible rfl
                    rotate_left
                    · simp only [Act.put, List.setIfInBounds_toArray, List.set_cons_zero, List.set_cons_succ, i64_w, i32_w]
                      rfl
                    refine pure_ (i := 24) (N := some 2) (v := ?_) (a' := ?_) #[true, true, true, true, true, true, true, true, true, true, true, true, true, true, true, true, true, true, true, true, true, true, true, true, true] rfl rfl (by kernel_rfl) (fun _ _ _ h => h) (Or.inl ⟨by rfl, ?_⟩) ?_ ?_
                    rotate_left
                    · intro w'
                      go_simp
                      with_reducible rfl
                    rotate_left
                    · simp only [Act.put, List.setIfInBounds_toArray, List.set_cons_zero, List.set_cons_succ, i64_w, i32_w]
                      rfl
                    refine done_ (by kernel_rfl) ?_
                    replace HS : Aside0 (Sep (fps []) w [] w200) := ⟨HS.out.sub (.cons _ .slnil)⟩
                    go_wp2_with fail
                    go_ret
                    rw [← some_eq H]
                    exact ⟨(by first | rfl | (simp [IntKind.wrap_u32]; done)), (HS.out).keep (l := []) (rest := [])⟩
                · have H := if_no c203 H
                  have c203b0 : b190 = false := by simpa using c203
                  have c203b1 : (!b190) = true := by rw [c203b0]; rfl
                  clear c203
                  try simp only [c203b0, Bool.not_true, Bool.not_false]
                  refine pure_ (i := 5) (N := some 33) (v := undef) (a' := ?_) #[true, true, true, true, true, true, false, false, false, false, false, false, false, false, false, false, false, false, false, false, false, false, false, false, false] rfl rfl (by kernel_rfl) (fun _ _ _ h => h) (Or.inr ⟨by rfl, rfl⟩) ?_ ?_
                  rotate_left
                  · simp only [Act.put, List.setIfInBounds_toArray, List.set_cons_zero, List.set_cons_succ, i64_w, i32_w]
                    rfl
                  try simp only [c203b0, Bool.not_true, Bool.not_false]
                  refine pure_ (i := 6) (N := some 34) (v := undef) (a' := ?_) #[true, true, true, true, true, true, true, false, false, false, false, false, false, false, false, false, false, false, false, false, false, false, false, false, false] rfl rfl (by kernel_rfl) (fun _ _ _ h => h) (Or.inr ⟨by rfl, rfl⟩) ?_ ?_
                  rotate_left
                  · simp only [Act.put, List.setIfInBounds_toArray, List.set_cons_zero, List.set_cons_succ, i64_w, i32_w]
                    rfl
                  try simp only [c203b0, Bool.not_true, Bool.not_false]
                  refine pure_ (i := 7) (N := some 35) (v := undef) (a' := ?_) #[true, true, true, true, true, true, true, true, false, false, false, false, false, false, false, false, false, false, false, false, false, false, false, false, false] rfl rfl (by kernel_rfl) (fun _ _ _ h => h) (Or.inr ⟨by rfl, rfl⟩) ?_ ?_
                  rotate_left
                  · simp only [Act.put, List.setIfInBounds_toArray, List.set_cons_zero, List.set_cons_succ, i64_w, i32_w]
                    rfl
                  refine pure_ (i := 8) (N := some 36) (v := ?_) (a' := ?_) #[true, true, true, true, true, true, true, true, true, false, false, false, false, false, false, false, false, false, false, false, false, false, false, false, false] rfl rfl (by kernel_rfl) (fun _ _ _ h => h) (Or.inl ⟨by rfl, ?_⟩) ?_ ?_
                  rotate_left
                  · intro w'
                    go_simp
                    with_reducible rfl
                  rotate_left
                  · simp only [Act.put, List.setIfInBounds_toArray, List.set_cons_zero, List.set_cons_succ, i64_w, i32_w]
                    rfl
                  refine pure_ (i := 9) (N := some 37) (v := ?_) (a' := ?_) #[true, true, true, true, true, true, true, true, true, true, false, false, false, false, false, false, false, false, false, false, false, false, false, false, false] rfl rfl (by kernel_rfl) (fun _ _ _ h => h) (Or.inl ⟨by rfl, ?_⟩) ?_ ?_
                  rotate_left
                  · intro w'
                    go_simp
                    with_reducible rfl
                  rotate_left
                  · simp only [Act.put, List.setIfInBounds_toArray, List.set_cons_zero, List.set_cons_succ, i64_w, i32_w]
                    rfl
                  refine pure_ (i := 10) (N := some 38) (v := undef) (a' := ?_) #[true, true, true, true, true, true, true, true, true, true, true, false, false, false, false, false, false, false, false, false, false, false, false, false, false] rfl rfl (by kernel_rfl) (fun _ _ _ h => h) (Or.inr ⟨by rfl, rfl⟩) ?_ ?_
                  rotate_left
                  · simp only [Act.put, List.setIfInBounds_toArray, List.set_cons_zero, List.set_cons_succ, i64_w, i32_w]
                    rfl
                  refine pure_ (i := 11) (N := some 39) (v := undef) (a' := ?_) #[true, true, true, true, true, true, true, true, true, true, true, true, false, false, false, false, false, false, false, false, false, false, false, false, false] rfl rfl (by kernel_rfl) (fun _ _ _ h => h) (Or.inr ⟨by rfl, rfl⟩) ?_ ?_
                  rotate_left
                  · simp only [Act.put, List.setIfInBounds_toArray, List.set_cons_zero, List.set_cons_succ, i64_w, i32_w]
                    rfl
                  refine pure_ (i := 12) (N := some 40) (v := undef) (a' := ?_) #[true, true, true, true, true, true, true, true, true, true, true, true, true, false, false, false, false, false, false, false, false, false, false, false, false] rfl rfl (by kernel_rfl) (fun _ _ _ h => h) (Or.inr ⟨by rfl, rfl⟩) ?_ ?_
                  rotate_left
                  · simp only [Act.put, List.setIfInBounds_toArray, List.set_cons_zero, List.set_cons_succ, i64_w, i32_w]
                    rfl
                  refine pure_ (i := 13) (N := some 41) (v := ?_) (a' := ?_) #[true, true, true, true, true, true, true, true, true, true, true, true, true, true, false, false, false, false, false, false, false, false, false, false, false] rfl rfl (by kernel_rfl) (fun _ _ _ h => h) (Or.inl ⟨by rfl, ?_⟩) ?_ ?_
                  rotate_left
                  · intro w'
                    go_simp
                    with_reducible rfl
                  rotate_left
                  · simp only [Act.put, List.setIfInBounds_toArray, List.set_cons_zero, List.set_cons_succ, i64_w, i32_w]
                    rfl
                  refine pure_ (i := 14) (N := some 42) (v := ?_) (a' := ?_) #[true, true, true, true, true, true, true, true, true, true, true, true, true, true, true, false, false, false, false, false, false, false, false, false, false] rfl rfl (by kernel_rfl) (fun _ _ _ h => h) (Or.inl ⟨by rfl, ?_⟩) ?_ ?_
                  rotate_left
                  · intro w'
                    go_simp
                    with_reducible rfl
                  rotate_left
                  · simp only [Act.put, List.setIfInBounds_toArray, List.set_cons_zero, List.set_cons_succ, i64_w, i32_w]
                    rfl
                  refine pure_ (i := 15) (N := some 43) (v := undef) (a' := ?_) #[true, true, true, true, true, true, true, true, true, true, true, true, true, true, true, true, false, false, false, false, false, false, false, false, false] rfl rfl (by kernel_rfl) (fun _ _ _ h => h) (Or.inr ⟨by rfl, rfl⟩) ?_ ?_
                  rotate_left
                  · simp only [Act.put, List.setIfInBounds_toArray, List.set_cons_zero, List.set_cons_succ, i64_w, i32_w]
                    rfl
                  refine pure_ (i := 16) (N := some 44) (v := undef) (a' := ?_) #[true, true, true, true, true, true, true, true, true, true, true, true, true, true, true, true, true, false, false, false, false, false, false, false, false] rfl rfl (by kernel_rfl) (fun _ _ _ h => h) (Or.inr ⟨by rfl, rfl⟩) ?_ ?_
                  rotate_left
                  · simp only [Act.put, List.setIfInBounds_toArray, List.set_cons_zero, List.set_cons_succ, i64_w, i32_w]
                    rfl
                  refine pure_ (i := 17) (N := some 45) (v := undef) (a' := ?_) #[true, true, true, true, true, true, true, true, true, true, true, true, true, true, true, true, true, true, false, false, false, false, false, false, false] rfl rfl (by kernel_rfl) (fun _ _ _ h => h) (Or.inr ⟨by rfl, rfl⟩) ?_ ?_
                  rotate_left
                  · simp only [Act.put, List.setIfInBounds_toArray, List.set_cons_zero, List.set_cons_succ, i64_w, i32_w]
                    rfl
                  refine pure_ (i := 18) (N := some 46) (v := undef) (a' := ?_) #[true, true, true, true, true, true, true, true, true, true, true, true, true, true, true, true, true, true, true, false, false, false, false, false, false] rfl rfl (by kernel_rfl) (fun _ _ _ h => h) (Or.inr ⟨by rfl, rfl⟩) ?_ ?_
                  rotate_left
                  · simp only [Act.put, List.setIfInBounds_toArray, List.set_cons_zero, List.set_cons_succ, i64_w, i32_w]
                    rfl
                  refine pure_ (i := 19) (N := some 47) (v := undef) (a' := ?_) #[true, true, true, true, true, true, true, true, true, true, true, true, true, true, true, true, true, true, true, true, false, false, false, false, false] rfl rfl (by kernel_rfl) (fun _ _ _ h => h) (Or.inr ⟨by rfl, rfl⟩) ?_ ?_
                  rotate_left
                  · simp only [Act.put, List.setIfInBounds_toArray, List.set_cons_zero, List.set_cons_succ, i64_w, i32_w]
                    rfl
                  refine pure_ (i := 20) (N := some 48) (v := undef) (a' := ?_) #[true, true, true, true, true, true, true, true, true, true, true, true, true, true, true, true, true, true, true, true, true, false, false, false, false] rfl rfl (by kernel_rfl) (fun _ _ _ h => h) (Or.inr ⟨by rfl, rfl⟩) ?_ ?_
                  rotate_left
                  · simp only [Act.put, List.setIfInBounds_toArray, List.set_cons_zero, List.set_cons_succ, i64_w, i32_w]
                    rfl
                  refine pure_ (i := 21) (N := some 49) (v := undef) (a' := ?_) #[true, true, true, true, true, true, true, true, true, true, true, true, true, true, true, true, true, true, true, true, true, true, false, false, false] rfl rfl (by kernel_rfl) (fun _ _ _ h => h) (Or.inr ⟨by rfl, rfl⟩) ?_ ?_
                  rotate_left
                  · simp only [Act.put, List.setIfInBounds_toArray, List.set_cons_zero, List.set_cons_succ, i64_w, i32_w]
                    rfl
                  refine pure_ (i := 22) (N := some 50) (v := undef) (a' := ?_) #[true, true, true, true, true, true, true, true, true, true, true, true, true, true, true, true, true, true, true, true, true, true, true, false, false] rfl rfl (by kernel_rfl) (fun _ _ _ h => h) (Or.inr ⟨by rfl, rfl⟩) ?_ ?_
                  rotate_left
                  · simp only [Act.put, List.setIfInBounds_toArray, List.set_cons_zero, List.set_cons_succ, i64_w, i32_w]
                    rfl
                  refine pure_ (i := 23) (N := some 51) (v := ?_) (a' := ?_) #[true, true, true, true, true, true, true, true, true, true, true, true, true, true, true, true, true, true, true, true, true, true, true, true, false] rfl rfl (by kernel_rfl) (fun _ _ _ h => h) (Or.inl ⟨by rfl, ?_⟩) ?_ ?_
                  rotate_left
                  · intro w'
                    go_simp
                    with_reducible rfl
                  rotate_left
                  · simp only [Act.put, List.setIfInBounds_toArray, List.set_cons_zero, List.set_cons_succ, i64_w, i32_w]
                    rfl
                  refine pure_ (i := 24) (N := some 2) (v := ?_) (a' := ?_) #[true, true, true, true, true, true, true, true, true, true, true, true, true, true, true, true, true, true, true, true, true, true, true, true, true] rfl rfl (by kernel_rfl) (fun _ _ _ h => h) (Or.inl ⟨by rfl, ?_⟩) ?_ ?_
                  rotate_left
                  · intro w'
                    go_simp
                    with_reducible rfl
                  rotate_left
                  · simp only [Act.put, List.setIfInBounds_toArray, List.set_cons_zero, List.set_cons_succ, i64_w, i32_w]
                    rfl
                  refine done_ (by kernel_rfl) ?_
                  replace HS : Aside0 (Sep (fps []) w [] w200) := ⟨HS.out.sub (.cons _ .slnil)⟩
                  go_wp2_with fail
                  go_ret
                  rw [← some_eq H]
                  exact ⟨(by first | rfl | (simp [IntKind.wrap_u32]; done)), (HS.out).keep (l := []) (rest := [])⟩
              · have H := if_no c196 H
                have c196b0 : (a101 == 3) = false := beq_eq_false_iff_ne.mpr c196
                have c196b1 : (a101 != 3) = true := bne_iff_ne.mpr c196
                clear c196
                have hc178 : w169.cell? ⟨g108, 0, none⟩ = some (.int .i64 a101) := blk_cellv (HS.out.at0) 0 rfl
                replace HS : Aside0 (Sep (fps []) w [] w169) := ⟨HS.out.sub (.cons _ .slnil)⟩
                go_wp2_with fail
                clear hc178
                go_ret
                rw [← some_eq H]
                exact ⟨(by first | rfl | (simp [IntKind.wrap_u32]; done)), (HS.out).keep (l := []) (rest := [])⟩

set_option maxHeartbeats 30000000 in
set_option maxRecDepth 100000 in
theorem pack_total.calls (k : Nat) (l299 : List Int) (A300 : Option Addr) (n301 : Nat) (r : Int) (w : World) (HR302 : Aside0 (Rd (Kd.int .i64) (fps []) w A300 l299.length l299)) (HGl0 : Aside0 (Gl 0 #[.int .i64 0, .int .i64 0, .int .i64 0, .int .i64 0, .int .i64 0] (fps []) w)) (HS : Aside0 (Sep (fps []) w [] w)) (H : Aside0 (pack_total.f k l299 = some r)) :
    Calls Tryd.prog 125 #[.slice A300 l299.length n301] w fun e w' => e = .returned (.int .i64 r) ∧ Sep (fps []) w [] w' := by
  unfold pack_total.f at H
  go_enter Tryd.func125, Tryd.ntmps125
  go_wp2_with fail
  obtain ⟨o315, AL316, H⟩ := bind_some H
  go_loopg [3, 8] k (fun kq v3 v8 wc => ∃ (x319 : Int) (x320 : Int), v3 = .int .i64 x319 ∧ v8 = .int .i64 x320 ∧ Aside0 (pack_total.lo0 kq l299 x319 x320 = some o315) ∧ Aside0 (Sep (fps []) w [] wc))
  case atStart => exact ⟨(0), (0), (by first | rfl | (simp [IntKind.wrap_u32]; done)), (by first | rfl | (simp [IntKind.wrap_u32]; done)), AL316, ⟨HS.out⟩⟩
  case round =>
    clear AL316 HS
    obtain ⟨x319, x320, rfl, rfl, AL316, HS⟩ := hrel
    obtain ⟨w317, rfl⟩ : ∃ x : World, x = wr := ⟨_, rfl⟩
    cases gk with
    | zero => exact absurd AL316.out (by simp [pack_total.lo0])
    | succ k318 =>
      have AL0 := AL316.out
      rw [pack_total.lo0] at AL0
      clear AL316
      have AL316 := Aside0.mk AL0
      clear AL0
      by_cases c321 : x320 < (l299.length : Int)
      · have AL316 := if_yes c321 AL316
        have c321b0 : decide (x320 < (l299.length : Int)) = true := decide_eq_true c321
        clear c321
        by_cases c322 : 0 ≤ x320
        · have AL316 := if_yes c322 AL316
          have c322b0 : decide (0 ≤ x320) = true := decide_eq_true c322
          have c322p : (0 ≤ x320) = True := eq_true c322
          clear c322
          have ip323 : (x320 < (l299.length : Int)) = True := eq_true (of_decide_eq_true c321b0)
          by_cases c325 : (rd l299 x320) < 1
          · have AL316 := if_yes c325 AL316
            have c325b0 : decide ((rd l299 x320) < 1) = true := decide_eq_true c325
            clear c325
            obtain ⟨hx324a, hx324e, hx324⟩ := Kd.at_int (Rd.read (fun _ _ _ _ h => h) HR302.out HS.out.fr) x320 (of_decide_eq_true c322b0) (of_decide_eq_true c321b0); cases hx324e
            go_wp2_with fail
            clear hx324
            have ho := some_eq AL316
            subst ho
            have H := lp_ret H
            go_ret
            rw [← some_eq H]
            exact ⟨(by first | rfl | (simp [IntKind.wrap_u32]; done)), (HS.out).keep (l := []) (rest := [])⟩
          · have AL316 := if_no c325 AL316
            have c325b0 : decide ((rd l299 x320) < 1) = false := decide_eq_false c325
            clear c325
            by_cases c326 : (rd l299 x320) > (wrap64 (32 - x319))
            · have AL316 := if_yes c326 AL316
              have c326b0 : decide ((wrap64 (32 - x319)) < (rd l299 x320)) = true := decide_eq_true c326
              clear c326
              obtain ⟨hx324a, hx324e, hx324⟩ := Kd.at_int (Rd.read (fun _ _ _ _ h => h) HR302.out HS.out.fr) x320 (of_decide_eq_true c322b0) (of_decide_eq_true c321b0); cases hx324e
              go_wp2_with fail
              clear hx324
              have ho := some_eq AL316
              subst ho
              have H := lp_ret H
              go_ret
              rw [← some_eq H]
              exact ⟨(by first | rfl | (simp [IntKind.wrap_u32]; done)), (HS.out).keep (l := []) (rest := [])⟩
            · have AL316 := if_no c326 AL316
              have c326b0 : decide ((wrap64 (32 - x319)) < (rd l299 x320)) = false := decide_eq_false c326
              clear c326
              obtain ⟨hx324a, hx324e, hx324⟩ := Kd.at_int (Rd.read (fun _ _ _ _ h => h) HR302.out HS.out.fr) x320 (of_decide_eq_true c322b0) (of_decide_eq_true c321b0); cases hx324e
              go_wp2_with fail
              clear hx324
              go_roundg k318
              case measure => exact Nat.lt_succ_self _
              case rel => exact ⟨(wrap64 (x319 + (rd l299 x320))), (wrap64 (x320 + 1)), (by first | rfl | (simp [IntKind.wrap_u32]; done)), (by first | rfl | (simp [IntKind.wrap_u32]; done)), Aside0.mk AL316.out, ⟨(HS.out).keep (l := []) (rest := [])⟩⟩
        · have AL316 := if_no c322 AL316
          have c322b0 : decide (0 ≤ x320) = false := decide_eq_false c322
          clear c322
          exact (none_no AL316).elim
      · have AL316 := if_no c321 AL316
        have c321b0 : decide (x320 < (l299.length : Int)) = false := decide_eq_false c321
        clear c321
        have ho := some_eq AL316
        subst ho
        clear AL316
        have H := lp_out H
        go_wp2_with fail
        go_ret
        rw [← some_eq H]
        exact ⟨(by first | rfl | (simp [IntKind.wrap_u32]; done)), (HS.out).keep (l := []) (rest := [])⟩

set_option maxHeartbeats 30000000 in
set_option maxRecDepth 100000 in
theorem pack_isPiece.calls (a351 : Int) (a352 : Int) (r : Bool) (w : World)  (HGl0 : Aside0 (Gl 0 #[.int .i64 0, .int .i64 0, .int .i64 0, .int .i64 0, .int .i64 0] (fps []) w)) (HS : Aside0 (Sep (fps []) w [] w)) (H : Aside0 (pack_isPiece.f a351 a352 = some r)) :
    Calls Tryd.prog 75 #[.int .i64 a351, .int .i64 a352] w fun e w' => e = .returned (.bool r) ∧ Sep (fps []) w [] w' := by
  unfold pack_isPiece.f at H
  go_enter Tryd.func75, Tryd.ntmps75
  by_cases c353 : a351 ≥ 0
  · have H := if_yes c353 H
    have c353b0 : decide (0 ≤ a351) = true := decide_eq_true c353
    clear c353
    by_cases c354 : a352 ≥ 1
    · have H := if_yes c354 H
      have c354b0 : decide (1 ≤ a352) = true := decide_eq_true c354
      clear c354
      by_cases c355 : a352 ≤ 32
      · have H := if_yes c355 H
        have c355b0 : decide (a352 ≤ 32) = true := decide_eq_true c355
        clear c355
        go_wp2_with fail
        go_ret
        rw [← some_eq H]
        exact ⟨(by first | rfl | (simp [IntKind.wrap_u32]; done)), (HS.out).keep (l := []) (rest := [])⟩
      · have H := if_no c355 H
        have c355b0 : decide (a352 ≤ 32) = false := decide_eq_false c355
        clear c355
        go_wp2_with fail
        go_ret
        rw [← some_eq H]
        exact ⟨(by first | rfl | (simp [IntKind.wrap_u32]; done)), (HS.out).keep (l := []) (rest := [])⟩
    · have H := if_no c354 H
      have c354b0 : decide (1 ≤ a352) = false := decide_eq_false c354
      clear c354
      go_wp2_with fail
      go_ret
      rw [← some_eq H]
      exact ⟨(by first | rfl | (simp [IntKind.wrap_u32]; done)), (HS.out).keep (l := []) (rest := [])⟩
  · have H := if_no c353 H
    have c353b0 : decide (0 ≤ a351) = false := decide_eq_false c353
    clear c353
    go_wp2_with fail
    go_ret
    rw [← some_eq H]
    exact ⟨(by first | rfl | (simp [IntKind.wrap_u32]; done)), (HS.out).keep (l := []) (rest := [])⟩

set_option maxHeartbeats 30000000 in
set_option maxRecDepth 100000 in
theorem pack_Fits.calls (a360 : Int) (a361 : Int) (r : Bool) (w : World)  (HGl0 : Aside0 (Gl 0 #[.int .i64 0, .int .i64 0, .int .i64 0, .int .i64 0, .int .i64 0] (fps []) w)) (HS : Aside0 (Sep (fps []) w [] w)) (H : Aside0 (pack_Fits.f a360 a361 = some r)) :
    Calls Tryd.prog 152 #[.int .u32 a360, .int .i64 a361] w fun e w' => e = .returned (.bool r) ∧ Sep (fps []) w [] w' := by
  unfold pack_Fits.f at H
  go_enter Tryd.func152, Tryd.ntmps152
  by_cases c362 : a361 ≥ 32
  · have H := if_yes c362 H
    have c362b0 : decide (32 ≤ a361) = true := decide_eq_true c362
    clear c362
    go_wp2_with fail
    go_ret
    rw [← some_eq H]
    exact ⟨(by first | rfl | (simp [IntKind.wrap_u32]; done)), (HS.out).keep (l := []) (rest := [])⟩
  · have H := if_no c362 H
    have c362b0 : decide (32 ≤ a361) = false := decide_eq_false c362
    clear c362
    by_cases c363 : a361 < 0
    · have H := if_yes c363 H
      have c363b0 : decide (a361 < 0) = true := decide_eq_true c363
      skip
      go_wp2_with fail
      clear c363
      go_ret
      rw [← some_eq H]
      exact ⟨(by first | rfl | (simp [IntKind.wrap_u32]; done)), (HS.out).keep (l := []) (rest := [])⟩
    · have H := if_no c363 H
      have c363b0 : decide (a361 < 0) = false := decide_eq_false c363
      by_cases c364 : 0 ≤ (IntKind.u64.wrap (a361))
      · have H := if_yes c364 H
        have c364b0 : decide (0 ≤ (IntKind.u64.wrap (a361))) = true := decide_eq_true c364
        skip
        skip
        go_wp2_with fail
        clear c363 c364
        go_ret
        rw [← some_eq H]
        exact ⟨(by first | rfl | (simp [IntKind.wrap_u32]; done)), (HS.out).keep (l := []) (rest := [])⟩
      · have H := if_no c364 H
        have c364b0 : decide (0 ≤ (IntKind.u64.wrap (a361))) = false := decide_eq_false c364
        exact (none_no H).elim

set_option maxHeartbeats 30000000 in
set_option maxRecDepth 100000 in
theorem pack_mask.calls (a369 : Int) (a370 : Int) (r : Int) (w : World)  (HGl0 : Aside0 (Gl 0 #[.int .i64 0, .int .i64 0, .int .i64 0, .int .i64 0, .int .i64 0] (fps []) w)) (HS : Aside0 (Sep (fps []) w [] w)) (H : Aside0 (pack_mask.f a369 a370 = some r)) :
    Calls Tryd.prog 76 #[.int .i64 a369, .int .i64 a370] w fun e w' => e = .returned (.int .u32 r) ∧ Sep (fps []) w [] w' := by
  unfold pack_mask.f at H
  go_enter Tryd.func76, Tryd.ntmps76
  by_cases c371 : 0 ≤ (IntKind.u64.wrap (a370))
  · have H := if_yes c371 H
    have c371b0 : decide (0 ≤ (IntKind.u64.wrap (a370))) = true := decide_eq_true c371
    by_cases c372 : 0 ≤ (IntKind.u64.wrap (a369))
    · have H := if_yes c372 H
      have c372b0 : decide (0 ≤ (IntKind.u64.wrap (a369))) = true := decide_eq_true c372
      skip
      skip
      go_wp2_with fail
      clear c371 c372
      go_ret
      rw [← some_eq H]
      exact ⟨(by first | rfl | (simp [IntKind.wrap_u32]; done)), (HS.out).keep (l := []) (rest := [])⟩
    · have H := if_no c372 H
      have c372b0 : decide (0 ≤ (IntKind.u64.wrap (a369))) = false := decide_eq_false c372
      exact (none_no H).elim
  · have H := if_no c371 H
    have c371b0 : decide (0 ≤ (IntKind.u64.wrap (a370))) = false := decide_eq_false c371
    exact (none_no H).elim

set_option maxHeartbeats 30000000 in
set_option maxRecDepth 100000 in
theorem pack_Put.calls (a347 : Int) (a348 : Int) (a349 : Int) (a350 : Int) (r : Int × Int) (w : World)  (HGl0 : Aside0 (Gl 0 #[.int .i64 0, .int .i64 0, .int .i64 0, .int .i64 0, .int .i64 0] (fps []) w)) (HS : Aside0 (Sep (fps []) w [] w)) (H : Aside0 (pack_Put.f a347 a348 a349 a350 = some r)) :
    Calls Tryd.prog 126 #[.int .u32 a347, .int .i64 a348, .int .i64 a349, .int .u32 a350] w fun e w' => e = .returned (.tuple #[.int .u32 r.1, .int .i64 r.2]) ∧ Sep (fps []) w [] w' := by
  unfold pack_Put.f at H
  go_enter Tryd.func126, Tryd.ntmps126
  go_wp2_with fail
  obtain ⟨t356, HA357, H⟩ := bind_some H
  refine (pack_isPiece.calls a348 a349 t356 _ ⟨Gl.pass (l := []) (rest := []) HGl0.out HS.out⟩ ⟨HS.out.begin (l := []) (rest := [])⟩ HA357).mono ?_
  rintro e_ w358 ⟨rfl, hS⟩
  replace HS : Aside0 (Sep (fps []) w [] w358) := ⟨HS.out.call (l := []) (rest := []) hS⟩
  clear hS
  by_cases c359 : t356 = true
  · have H := if_yes c359 H
    have c359b0 : t356 = true := c359
    have c359b1 : (!t356) = false := by rw [c359b0]; rfl
    try rw [c359b1]
    clear c359
    go_wp2_with fail
    obtain ⟨t365, HA366, H⟩ := bind_some H
    refine (pack_Fits.calls a350 a349 t365 _ ⟨Gl.pass (l := []) (rest := []) HGl0.out HS.out⟩ ⟨HS.out.begin (l := []) (rest := [])⟩ HA366).mono ?_
    rintro e_ w367 ⟨rfl, hS⟩
    replace HS : Aside0 (Sep (fps []) w [] w367) := ⟨HS.out.call (l := []) (rest := []) hS⟩
    clear hS
    by_cases c368 : t365 = true
    · have H := if_yes c368 H
      have c368b0 : t365 = true := c368
      have c368b1 : (!t365) = false := by rw [c368b0]; rfl
      try rw [c368b1]
      clear c368
      go_wp2_with fail
      obtain ⟨t373, HA374, H⟩ := bind_some H
      refine (pack_mask.calls a348 a349 t373 _ ⟨Gl.pass (l := []) (rest := []) HGl0.out HS.out⟩ ⟨HS.out.begin (l := []) (rest := [])⟩ HA374).mono ?_
      rintro e_ w375 ⟨rfl, hS⟩
      replace HS : Aside0 (Sep (fps []) w [] w375) := ⟨HS.out.call (l := []) (rest := []) hS⟩
      clear hS
      by_cases c376 : 0 ≤ (IntKind.u64.wrap (a348))
      · have H := if_yes c376 H
        have c376b0 : decide (0 ≤ (IntKind.u64.wrap (a348))) = true := decide_eq_true c376
        skip
        go_wp2_with fail
        clear c376
        go_ret2
        rw [← some_eq H]
        exact ⟨(by first | rfl | (simp [IntKind.wrap_u32]; done)), (HS.out).keep (l := []) (rest := [])⟩
      · have H := if_no c376 H
        have c376b0 : decide (0 ≤ (IntKind.u64.wrap (a348))) = false := decide_eq_false c376
        exact (none_no H).elim
    · have H := if_no c368 H
      have c368b0 : t365 = false := by simpa using c368
      have c368b1 : (!t365) = true := by rw [c368b0]; rfl
      try rw [c368b1]
      clear c368
      go_wp2_with fail
      go_ret2
      rw [← some_eq H]
      exact ⟨(by first | rfl | (simp [IntKind.wrap_u32]; done)), (HS.out).keep (l := []) (rest := [])⟩
  · have H := if_no c359 H
    have c359b0 : t356 = false := by simpa using c359
    have c359b1 : (!t356) = true := by rw [c359b0]; rfl
    try rw [c359b1]
    clear c359
    go_wp2_with fail
    go_ret2
    rw [← some_eq H]
    exact ⟨(by first | rfl | (simp [IntKind.wrap_u32]; done)), (HS.out).keep (l := []) (rest := [])⟩

set_option maxHeartbeats 30000000 in
set_option maxRecDepth 100000 in
theorem pack_Join.calls (k : Nat) (l291 : List Int) (l295 : List Int) (A292 : Option Addr) (n293 : Nat) (A296 : Option Addr) (n297 : Nat) (r : Int × Int) (w : World) (HR294 : Aside0 (Rd (Kd.int .u32) (fps []) w A292 l291.length l291)) (HR298 : Aside0 (Rd (Kd.int .i64) (fps []) w A296 l295.length l295)) (HGl0 : Aside0 (Gl 0 #[.int .i64 0, .int .i64 0, .int .i64 0, .int .i64 0, .int .i64 0] (fps []) w)) (HS : Aside0 (Sep (fps []) w [] w)) (H : Aside0 (pack_Join.f k l291 l295 = some r)) :
    Calls Tryd.prog 69 #[.slice A292 l291.length n293, .slice A296 l295.length n297] w fun e w' => e = .returned (.tuple #[.int .u32 r.1, .int .i64 r.2]) ∧ Sep (fps []) w [] w' := by
  unfold pack_Join.f at H
  go_enter Tryd.func69, Tryd.ntmps69
  go_wp2_with fail
  obtain ⟨t328, HA329, H⟩ := bind_some H
  refine (pack_total.calls _ l295 A296 n297 t328 _ ⟨Rd.pass (l := []) (rest := []) (by decide) (fun _ _ _ _ h => h) HR298.out HS.out⟩ ⟨Gl.pass (l := []) (rest := []) HGl0.out HS.out⟩ ⟨HS.out.begin (l := []) (rest := [])⟩ HA329).mono ?_
  rintro e_ w330 ⟨rfl, hS⟩
  replace HS : Aside0 (Sep (fps []) w [] w330) := ⟨HS.out.call (l := []) (rest := []) hS⟩
  clear hS
  by_cases c331 : t328 < 0
  · have H := if_yes c331 H
    have c331b0 : decide (t328 < 0) = true := decide_eq_true c331
    clear c331
    go_wp2_with fail
    go_ret2
    rw [← some_eq H]
    exact ⟨(by first | rfl | (simp [IntKind.wrap_u32]; done)), (HS.out).keep (l := []) (rest := [])⟩
  · have H := if_no c331 H
    have c331b0 : decide (t328 < 0) = false := decide_eq_false c331
    clear c331
    by_cases c332 : (l291.length : Int) = (l295.length : Int)
    · have H := if_yes c332 H
      have c332b0 : ((l291.length : Int) == (l295.length : Int)) = true := beq_iff_eq.mpr c332
      have c332b1 : ((l291.length : Int) != (l295.length : Int)) = false := bne_eq_false_iff_eq.mpr c332
      clear c332
      go_wp2_with fail
      obtain ⟨o381, AL382, H⟩ := bind_some H
      go_loopg [6, 7, 24] k (fun kq v6 v7 v24 wc => ∃ (x385 : Int) (x386 : Int) (x387 : Int), v6 = .int .u32 x385 ∧ v7 = .int .i64 x386 ∧ v24 = .int .i64 x387 ∧ Aside0 (pack_Join.lo0 kq l291 l295 x385 x386 x387 = some o381) ∧ Aside0 (Sep (fps []) w [] wc))
      case atStart => exact ⟨(0), (0), (0), (by first | rfl | (simp [IntKind.wrap_u32]; done)), (by first | rfl | (simp [IntKind.wrap_u32]; done)), (by first | rfl | (simp [IntKind.wrap_u32]; done)), AL382, ⟨HS.out⟩⟩
      case round =>
        clear AL382 HS
        obtain ⟨x385, x386, x387, rfl, rfl, rfl, AL382, HS⟩ := hrel
        obtain ⟨w383, rfl⟩ : ∃ x : World, x = wr := ⟨_, rfl⟩
        cases gk with
        | zero => exact absurd AL382.out (by simp [pack_Join.lo0])
        | succ k384 =>
          have AL0 := AL382.out
          rw [pack_Join.lo0] at AL0
          clear AL382
          have AL382 := Aside0.mk AL0
          clear AL0
          by_cases c388 : x387 < (l295.length : Int)
          · have AL382 := if_yes c388 AL382
            have c388b0 : decide (x387 < (l295.length : Int)) = true := decide_eq_true c388
            clear c388
            by_cases c389 : 0 ≤ x387
            · have AL382 := if_yes c389 AL382
              have c389b0 : decide (0 ≤ x387) = true := decide_eq_true c389
              have c389p : (0 ≤ x387) = True := eq_true c389
              clear c389
              have ip390 : (x387 < (l295.length : Int)) = True := eq_true (of_decide_eq_true c388b0)
              by_cases c392 : x387 < (l291.length : Int)
              · have AL382 := if_yes c392 AL382
                have c392b0 : decide (x387 < (l291.length : Int)) = true := decide_eq_true c392
                have c392p : (x387 < (l291.length : Int)) = True := eq_true c392
                clear c392
                obtain ⟨hx391a, hx391e, hx391⟩ := Kd.at_int (Rd.read (fun _ _ _ _ h => h) HR298.out HS.out.fr) x387 (of_decide_eq_true c389b0) (of_decide_eq_true c388b0); cases hx391e
                obtain ⟨hx393a, hx393e, hx393⟩ := Kd.at_int (Rd.read (fun _ _ _ _ h => h) HR294.out HS.out.fr) x387 (of_decide_eq_true c389b0) (of_decide_eq_true c392b0); cases hx393e
                go_wp2_with fail
                clear hx391 hx393
                obtain ⟨t377, HA394, AL382⟩ := bind_some AL382
                refine (pack_Put.calls x385 x386 (rd l295 x387) (rd l291 x387) t377 _ ⟨Gl.pass (l := []) (rest := []) HGl0.out HS.out⟩ ⟨HS.out.begin (l := []) (rest := [])⟩ HA394).mono ?_
                rintro e_ w395 ⟨rfl, hS⟩
                replace HS : Aside0 (Sep (fps []) w [] w395) := ⟨HS.out.call (l := []) (rest := []) hS⟩
                clear hS
                by_cases c396 : t377.2 = 0
                · have AL382 := if_yes c396 AL382
                  have c396b0 : (t377.2 == 0) = true := beq_iff_eq.mpr c396
                  have c396b1 : (t377.2 != 0) = false := bne_eq_false_iff_eq.mpr c396
                  clear c396
                  go_wp2_with fail
                  go_roundg k384
                  case measure => exact Nat.lt_succ_self _
                  case rel => exact ⟨(t377.1), (wrap64 (x386 + (rd l295 x387))), (wrap64 (x387 + 1)), (by first | rfl | (simp [IntKind.wrap_u32]; done)), (by first | rfl | (simp [IntKind.wrap_u32]; done)), (by first | rfl | (simp [IntKind.wrap_u32]; done)), Aside0.mk AL382.out, ⟨(HS.out).keep (l := []) (rest := [])⟩⟩
                · have AL382 := if_no c396 AL382
                  have c396b0 : (t377.2 == 0) = false := beq_eq_false_iff_ne.mpr c396
                  have c396b1 : (t377.2 != 0) = true := bne_iff_ne.mpr c396
                  clear c396
                  go_wp2_with fail
                  have ho := some_eq AL382
                  subst ho
                  have H := lp_ret H
                  go_ret2
                  rw [← some_eq H]
                  exact ⟨(by first | rfl | (simp [IntKind.wrap_u32]; done)), (HS.out).keep (l := []) (rest := [])⟩
              · have AL382 := if_no c392 AL382
                have c392b0 : decide (x387 < (l291.length : Int)) = false := decide_eq_false c392
                clear c392
                exact (none_no AL382).elim
            · have AL382 := if_no c389 AL382
              have c389b0 : decide (0 ≤ x387) = false := decide_eq_false c389
              clear c389
              exact (none_no AL382).elim
          · have AL382 := if_no c388 AL382
            have c388b0 : decide (x387 < (l295.length : Int)) = false := decide_eq_false c388
            clear c388
            have ho := some_eq AL382
            subst ho
            clear AL382
            have H := lp_out H
            go_wp2_with fail
            go_ret2
            rw [← some_eq H]
            exact ⟨(by first | rfl | (simp [IntKind.wrap_u32]; done)), (HS.out).keep (l := []) (rest := [])⟩
    · have H := if_no c332 H
      have c332b0 : ((l291.length : Int) == (l295.length : Int)) = false := beq_eq_false_iff_ne.mpr c332
      have c332b1 : ((l291.length : Int) != (l295.length : Int)) = true := bne_iff_ne.mpr c332
      clear c332
      go_wp2_with fail
      go_ret2
      rw [← some_eq H]
      exact ⟨(by first | rfl | (simp [IntKind.wrap_u32]; done)), (HS.out).keep (l := []) (rest := [])⟩

set_option maxHeartbeats 30000000 in
set_option maxRecDepth 100000 in
theorem tag_Pack.calls (k : Nat) (a84 : Int) (a85 : Int) (a86 : Int) (a87 : Int) (a88 : Int) (a89 : Int) (a90 : Int) (r : Int × Int) (w : World)  (HGl0 : Aside0 (Gl 0 #[.int .i64 0, .int .i64 0, .int .i64 0, .int .i64 0, .int .i64 0] (fps []) w)) (HS : Aside0 (Sep (fps []) w [] w)) (H : Aside0 (tag_Pack.f k a84 a85 a86 a87 a88 a89 a90 = some r)) :
    Calls Tryd.prog 16 #[.agg #[.int .i64 a84, .int .i64 a85, .int .i64 a86, .int .i64 a87, .int .i64 a88, .int .i64 a89, .int .i64 a90]] w fun e w' => e = .returned (.tuple #[.int .u32 r.1, .int .i64 r.2]) ∧ Sep (fps []) w [] w' := by
  unfold tag_Pack.f at H
  go_enter Tryd.func16, Tryd.ntmps16
  go_wp2_with (first | ((with_reducible refine gate_dst (N := 1) rfl ?_); refine box_on ?hg (N := 1) ?hd (cs := #[.int .i64 a84, .int .i64 a85, .int .i64 a86, .int .i64 a87, .int .i64 a88, .int .i64 a89, .int .i64 a90]) (t := 32) ?hr ?_; (case hd => rfl); (case hg => rfl); (case hr => first | (go_simp; done) | (go_simp; rfl)); intro g91 hg w92 hbox hb; replace HS : Aside0 (Sep (fps []) w [b1 g91 a84 a85 a86 a87 a88 a89 a90] w92) := ⟨HS.out.box hg hbox hb⟩; clear hg hbox hb; have hc94 : w92.cell? ⟨g91, 0, none⟩ = some (.int .i64 a84) := blk_cellv (HS.out.at0) 0 rfl; have hc95 : w92.cell? ⟨g91, 1, none⟩ = some (.int .i64 a85) := blk_cellv (HS.out.at0) 1 rfl; have hc96 : w92.cell? ⟨g91, 2, none⟩ = some (.int .i64 a86) := blk_cellv (HS.out.at0) 2 rfl; have hc97 : w92.cell? ⟨g91, 3, none⟩ = some (.int .i64 a87) := blk_cellv (HS.out.at0) 3 rfl; have hc98 : w92.cell? ⟨g91, 4, none⟩ = some (.int .i64 a88) := blk_cellv (HS.out.at0) 4 rfl; have hc99 : w92.cell? ⟨g91, 5, none⟩ = some (.int .i64 a89) := blk_cellv (HS.out.at0) 5 rfl; have hc100 : w92.cell? ⟨g91, 6, none⟩ = some (.int .i64 a90) := blk_cellv (HS.out.at0) 6 rfl))
  clear hc94 hc95 hc96 hc97 hc98 hc99 hc100
  obtain ⟨t233, HA234, H⟩ := bind_some H
  refine (tag_Right.calls _ a84 a85 a86 a87 a88 a89 a90 t233 _ ⟨Gl.pass (l := []) (rest := [b1 g91 a84 a85 a86 a87 a88 a89 a90]) HGl0.out HS.out⟩ ⟨HS.out.begin (l := []) (rest := [b1 g91 a84 a85 a86 a87 a88 a89 a90])⟩ HA234).mono ?_
  rintro e_ w235 ⟨rfl, hS⟩
  replace HS : Aside0 (Sep (fps []) w [b1 g91 a84 a85 a86 a87 a88 a89 a90] w235) := ⟨HS.out.call (l := []) (rest := [b1 g91 a84 a85 a86 a87 a88 a89 a90]) hS⟩
  clear hS
  by_cases c236 : t233 = true
  · have H := if_yes c236 H
    have c236b0 : t233 = true := c236
    have c236b1 : (!t233) = false := by rw [c236b0]; rfl
    try rw [c236b1]
    clear c236
    have hc237 : w235.cell? ⟨g91, 0, none⟩ = some (.int .i64 a84) := blk_cellv (HS.out.at0) 0 rfl
    go_wp2_with (first | ((with_reducible refine gate_dst (N := 13) rfl ?_); refine slice_on (n := 1) ?hg (N := 13) ?hd (cs := #[.int .u32 ((a84) % 4294967296)]) (t := 33) ?hr ?_; (case hd => rfl); (case hg => rfl); (case hr => first | (go_simp; done) | (go_simp; rfl)); intro g238 hg w239 hbox hb; clear hc237; replace HS : Aside0 (Sep (fps []) w [b1 g91 a84 a85 a86 a87 a88 a89 a90, b3 g238 ((a84) % 4294967296)] w239) := ⟨HS.out.box hg hbox hb⟩; clear hg hbox hb; have hc241 : w239.cell? ⟨g91, 0, none⟩ = some (.int .i64 a84) := blk_cellv (HS.out.at0) 0 rfl; have hc242 : w239.cell? ⟨g91, 1, none⟩ = some (.int .i64 a85) := blk_cellv (HS.out.at0) 1 rfl; have hc243 : w239.cell? ⟨g91, 2, none⟩ = some (.int .i64 a86) := blk_cellv (HS.out.at0) 2 rfl; have hc244 : w239.cell? ⟨g91, 3, none⟩ = some (.int .i64 a87) := blk_cellv (HS.out.at0) 3 rfl; have hc245 : w239.cell? ⟨g91, 4, none⟩ = some (.int .i64 a88) := blk_cellv (HS.out.at0) 4 rfl; have hc246 : w239.cell? ⟨g91, 5, none⟩ = some (.int .i64 a89) := blk_cellv (HS.out.at0) 5 rfl; have hc247 : w239.cell? ⟨g91, 6, none⟩ = some (.int .i64 a90) := blk_cellv (HS.out.at0) 6 rfl))
    clear hc241 hc242 hc243 hc244 hc245 hc246 hc247
    obtain ⟨t248, HA249, H⟩ := bind_some H
    refine (tag_marks.calls a84 a85 a86 a87 a88 a89 a90 t248 _ ⟨Gl.pass (l := []) (rest := [b1 g91 a84 a85 a86 a87 a88 a89 a90, b3 g238 ((a84) % 4294967296)]) HGl0.out HS.out⟩ ⟨HS.out.begin (l := []) (rest := [b1 g91 a84 a85 a86 a87 a88 a89 a90, b3 g238 ((a84) % 4294967296)])⟩ HA249).mono ?_
    rintro e_ w250 ⟨rfl, hS⟩
    replace HS : Aside0 (Sep (fps []) w [b1 g91 a84 a85 a86 a87 a88 a89 a90, b3 g238 ((a84) % 4294967296)] w250) := ⟨HS.out.call (l := []) (rest := [b1 g91 a84 a85 a86 a87 a88 a89 a90, b3 g238 ((a84) % 4294967296)]) hS⟩
    clear hS
    go_wp2_with fail
    replace HS : Aside0 (Sep (fps []) w [b1 g91 a84 a85 a86 a87 a88 a89 a90, r4 (some ⟨g238, 0, none⟩) 1 1 [(a84) % 4294967296]] w250) := ⟨Sep.litrow (l1 := [b1 g91 a84 a85 a86 a87 a88 a89 a90]) (l2 := []) (enc := Value.int .u32) (xs := [(a84) % 4294967296]) (n := 1) HS.out rfl (by decide)⟩
    obtain ⟨o252, AL253, H⟩ := bind_some H
    go_loopg [4, 16] k (fun kq v4 v16 wc => ∃ (x257 : Int) (x258 : List Int) (A259 : Option Addr) (m260 : Nat) (n261 : Nat), v4 = .slice A259 m260 n261 ∧ v16 = .int .i64 x257 ∧ Aside0 (tag_Pack.lo0 kq t248 x257 x258 = some o252) ∧ Aside0 (Sep (fps []) w [b1 g91 a84 a85 a86 a87 a88 a89 a90, r4 A259 m260 n261 x258] wc))
    case atStart => exact ⟨(0), ([(a84) % 4294967296]), ((some ⟨g238, 0, none⟩)), (1), (1), (by first | rfl | (simp [IntKind.wrap_u32]; done)), (by first | rfl | (simp [IntKind.wrap_u32]; done)), AL253, ⟨HS.out⟩⟩
    case round =>
      clear AL253 HS
      obtain ⟨x257, x258, A259, m260, n261, rfl, rfl, AL253, HS⟩ := hrel
      obtain ⟨w254, rfl⟩ : ∃ x : World, x = wr := ⟨_, rfl⟩
      obtain rfl := (row_len (HS.out.at1)).symm
      cases gk with
      | zero => exact absurd AL253.out (by simp [tag_Pack.lo0])
      | succ k255 =>
        have AL0 := AL253.out
        rw [tag_Pack.lo0] at AL0
        clear AL253
        have AL253 := Aside0.mk AL0
        clear AL0
        by_cases c263 : x257 < 5
        · have AL253 := if_yes c263 AL253
          have c263b0 : decide (x257 < 5) = true := decide_eq_true c263
          clear c263
          by_cases c264 : 0 ≤ x257
          · have AL253 := if_yes c264 AL253
            have c264b0 : decide (0 ≤ x257) = true := decide_eq_true c264
            have c264p : (0 ≤ x257) = True := eq_true c264
            clear c264
            have ip265 : (x257 < 5) = True := eq_true (of_decide_eq_true c263b0)
            have ix266 : ∀ w, (Instr.index 108 (.agg #[.int .i64 t248.1, .int .i64 t248.2.1, .int .i64 t248.2.2.1, .int .i64 t248.2.2.2.1, .int .i64 t248.2.2.2.2]) (.int .i64 x257)).run Tryd.prog w = .ok (.int .i64 (rd [t248.1, t248.2.1, t248.2.2.1, t248.2.2.2.1, t248.2.2.2.2] x257)) w := run_index_ints 108 3 5 .i64 .i64 [t248.1, t248.2.1, t248.2.2.1, t248.2.2.2.1, t248.2.2.2.2] x257 Tryd.underlying108 (fun _ => by kernel_rfl) (fun _ => by kernel_rfl) rfl (of_decide_eq_true c264b0) (of_decide_eq_true c263b0)
            by_cases c270 : x258.length < 35184372088832
            · have AL253 := if_yes c270 AL253
              have c270b0 : decide (x258.length < 35184372088832) = true := decide_eq_true c270
              clear c270
              obtain ⟨y274, HA275, AL253⟩ := bind_some AL253
              go_wp2_with (first | ((with_reducible refine gate_dst (N := 22) rfl ?_); refine slice_on (n := 1) ?hg (N := 22) ?hd (cs := #[.int .u32 ((rd [t248.1, t248.2.1, t248.2.2.1, t248.2.2.2.1, t248.2.2.2.2] x257) % 4294967296)]) (t := 33) ?hr ?_; (case hd => rfl); (case hg => rfl); (case hr => first | (go_simp; done) | (go_simp; rfl)); intro g267 hg w268 hbox hb; replace HS : Aside0 (Sep (fps []) w [b1 g91 a84 a85 a86 a87 a88 a89 a90, r4 A259 x258.length n261 x258, b3 g267 ((rd [t248.1, t248.2.1, t248.2.2.1, t248.2.2.2.1, t248.2.2.2.2] x257) % 4294967296)] w268) := ⟨HS.out.box hg hbox hb⟩; clear hg hbox hb) | ((with_reducible refine gate_dst (N := 23) rfl ?_); refine append_event (l1 := [b1 g91 a84 a85 a86 a87 a88 a89 a90]) (l2 := [b3 g267 ((rd [t248.1, t248.2.1, t248.2.2.1, t248.2.2.2.1, t248.2.2.2.2] x257) % 4294967296)]) rfl (.tmp 19) (.tmp 22) 69 33 (.int .u32 0) 4 rfl Tryd.underlying69 (by kernel_rfl) rfl (by decide) (Value.int .u32) (fun _ => rfl) (.slice A259 x258.length n261) (x258 : List Int) [(rd [t248.1, t248.2.1, t248.2.2.1, t248.2.2.2.1, t248.2.2.2.2] x257) % 4294967296] ⟨g267, 0, none⟩ 1 rfl rfl (blk_news (xs := [(rd [t248.1, t248.2.1, t248.2.2.1, t248.2.2.2.1, t248.2.2.2.2] x257) % 4294967296]) (HS.out.at2)) HS.out (by have := of_decide_eq_true c270b0; simp only [List.length_cons, List.length_nil]; omega) HA275 ?_; intro A271 n272 w273 HS1; replace HS : Aside0 (Sep (fps []) w [b1 g91 a84 a85 a86 a87 a88 a89 a90, r4 A271 y274.length n272 y274, b3 g267 ((rd [t248.1, t248.2.1, t248.2.2.1, t248.2.2.2.1, t248.2.2.2.2] x257) % 4294967296)] w273) := ⟨HS1⟩; clear HS1; replace HS : Aside0 (Sep (fps []) w [b1 g91 a84 a85 a86 a87 a88 a89 a90, r4 A271 y274.length n272 y274] w273) := ⟨HS.out.sub (.cons_cons _ (.cons_cons _ (.cons _ .slnil)))⟩))
              go_roundg k255
              case measure => exact Nat.lt_succ_self _
              case rel => exact ⟨(wrap64 (x257 + 1)), (y274), (A271), (y274.length), (n272), (by first | rfl | (simp [IntKind.wrap_u32]; done)), (by first | rfl | (simp [IntKind.wrap_u32]; done)), Aside0.mk AL253.out, ⟨(((HS.out).front 1 (by simp)).front 1 (by simp)).keep (l := [b1 g91 a84 a85 a86 a87 a88 a89 a90, r4 A271 y274.length n272 y274]) (rest := [])⟩⟩
            · have AL253 := if_no c270 AL253
              have c270b0 : decide (x258.length < 35184372088832) = false := decide_eq_false c270
              clear c270
              exact (none_no AL253).elim
          · have AL253 := if_no c264 AL253
            have c264b0 : decide (0 ≤ x257) = false := decide_eq_false c264
            clear c264
            exact (none_no AL253).elim
        · have AL253 := if_no c263 AL253
          have c263b0 : decide (x257 < 5) = false := decide_eq_false c263
          clear c263
          have ho := some_eq AL253
          subst ho
          clear AL253
          by_cases c281 : x258.length < 35184372088831
          · have H := if_yes c281 H
            have c281b0 : decide (x258.length < 35184372088831) = true := decide_eq_true c281
            clear c281
            obtain ⟨y285, HA286, H⟩ := bind_some H
            have hc277 : w254.cell? ⟨g91, 6, none⟩ = some (.int .i64 a90) := blk_cellv (HS.out.at0) 6 rfl
            go_wp2_with (first | ((with_reducible refine gate_dst (N := 29) rfl ?_); refine slice_on (n := 2) ?hg (N := 29) ?hd (cs := #[.int .u32 0, .int .u32 ((a90) % 4294967296)]) (t := 33) ?hr ?_; (case hd => rfl); (case hg => rfl); (case hr => first | (go_simp; done) | (go_simp; rfl)); intro g278 hg w279 hbox hb; clear hc277; replace HS : Aside0 (Sep (fps []) w [b1 g91 a84 a85 a86 a87 a88 a89 a90, r4 A259 x258.length n261 x258, b5 g278 0 ((a90) % 4294967296)] w279) := ⟨HS.out.box hg hbox hb⟩; clear hg hbox hb) | ((with_reducible refine gate_dst (N := 30) rfl ?_); refine append_event (l1 := [b1 g91 a84 a85 a86 a87 a88 a89 a90]) (l2 := [b5 g278 0 ((a90) % 4294967296)]) rfl (.tmp 25) (.tmp 29) 69 33 (.int .u32 0) 4 rfl Tryd.underlying69 (by kernel_rfl) rfl (by decide) (Value.int .u32) (fun _ => rfl) (.slice A259 x258.length n261) (x258 : List Int) [0, (a90) % 4294967296] ⟨g278, 0, none⟩ 2 rfl rfl (blk_news (xs := [0, (a90) % 4294967296]) (HS.out.at2)) HS.out (by have := of_decide_eq_true c281b0; simp only [List.length_cons, List.length_nil]; omega) HA286 ?_; intro A282 n283 w284 HS1; replace HS : Aside0 (Sep (fps []) w [b1 g91 a84 a85 a86 a87 a88 a89 a90, r4 A282 y285.length n283 y285, b5 g278 0 ((a90) % 4294967296)] w284) := ⟨HS1⟩; clear HS1) | ((with_reducible refine gate_dst (N := 31) rfl ?_); refine slice_on (n := 8) ?hg (N := 31) ?hd (cs := #[.int .i64 2, .int .i64 1, .int .i64 1, .int .i64 1, .int .i64 1, .int .i64 1, .int .i64 1, .int .i64 24]) (t := 3) ?hr ?_; (case hd => rfl); (case hg => rfl); (case hr => first | (go_simp; done) | (go_simp; rfl)); intro g288 hg w289 hbox hb; replace HS : Aside0 (Sep (fps []) w [b1 g91 a84 a85 a86 a87 a88 a89 a90, r4 A282 y285.length n283 y285, b5 g278 0 ((a90) % 4294967296), b6 g288 2 1 1 1 1 1 1 24] w289) := ⟨HS.out.box hg hbox hb⟩; clear hg hbox hb))
            obtain ⟨t398, HA399, H⟩ := bind_some H
            refine (pack_Join.calls _ y285 [2, 1, 1, 1, 1, 1, 1, 24] A282 n283 (some ⟨g288, 0, none⟩) 8 t398 _ ⟨Rd.ownI (l := []) (rest := [b1 g91 a84 a85 a86 a87 a88 a89 a90, r4 A282 y285.length n283 y285, b5 g278 0 ((a90) % 4294967296), b6 g288 2 1 1 1 1 1 1 24]) HS.out 1 rfl⟩ ⟨Rd.lit (l := []) (rest := [b1 g91 a84 a85 a86 a87 a88 a89 a90, r4 A282 y285.length n283 y285, b5 g278 0 ((a90) % 4294967296), b6 g288 2 1 1 1 1 1 1 24]) (xs := [2, 1, 1, 1, 1, 1, 1, 24]) HS.out 3 rfl (by simp)⟩ ⟨Gl.pass (l := []) (rest := [b1 g91 a84 a85 a86 a87 a88 a89 a90, r4 A282 y285.length n283 y285, b5 g278 0 ((a90) % 4294967296), b6 g288 2 1 1 1 1 1 1 24]) HGl0.out HS.out⟩ ⟨HS.out.begin (l := []) (rest := [b1 g91 a84 a85 a86 a87 a88 a89 a90, r4 A282 y285.length n283 y285, b5 g278 0 ((a90) % 4294967296), b6 g288 2 1 1 1 1 1 1 24])⟩ HA399).mono ?_
            rintro e_ w400 ⟨rfl, hS⟩
            replace HS : Aside0 (Sep (fps []) w [b1 g91 a84 a85 a86 a87 a88 a89 a90, r4 A282 y285.length n283 y285, b5 g278 0 ((a90) % 4294967296), b6 g288 2 1 1 1 1 1 1 24] w400) := ⟨HS.out.call (l := []) (rest := [b1 g91 a84 a85 a86 a87 a88 a89 a90, r4 A282 y285.length n283 y285, b5 g278 0 ((a90) % 4294967296), b6 g288 2 1 1 1 1 1 1 24]) hS⟩
            clear hS
            replace HS : Aside0 (Sep (fps []) w [] w400) := ⟨HS.out.sub (.cons _ (.cons _ (.cons _ (.cons _ .slnil))))⟩
            go_wp2_with fail
            go_ret2
            rw [← some_eq H]
            exact ⟨(by first | rfl | (simp [IntKind.wrap_u32]; done)), (HS.out).keep (l := []) (rest := [])⟩
          · have H := if_no c281 H
            have c281b0 : decide (x258.length < 35184372088831) = false := decide_eq_false c281
            clear c281
            exact (none_no H).elim
  · have H := if_no c236 H
    have c236b0 : t233 = false := by simpa using c236
    have c236b1 : (!t233) = true := by rw [c236b0]; rfl
    try rw [c236b1]
    clear c236
    replace HS : Aside0 (Sep (fps []) w [] w235) := ⟨HS.out.sub (.cons _ .slnil)⟩
    go_wp2_with fail
    go_ret2
    rw [← some_eq H]
    exact ⟨(by first | rfl | (simp [IntKind.wrap_u32]; done)), (HS.out).keep (l := []) (rest := [])⟩

set_option maxHeartbeats 30000000 in
set_option maxRecDepth 100000 in
theorem ground_Ground_all_nil.calls  (r : Unit) (w : World)  (HGl0 : Aside0 (Gl 0 #[.int .i64 0, .int .i64 0, .int .i64 0, .int .i64 0, .int .i64 0] (fps []) w)) (HS : Aside0 (Sep (fps []) w [] w)) (H : Aside0 (ground_Ground_all_nil.f = some r)) :
    Calls Tryd.prog 70 #[.pointer none] w fun e w' => e = .returned (.pointer none) ∧ Sep (fps []) w [] w' := by
  unfold ground_Ground_all_nil.f at H
  go_enter Tryd.func70, Tryd.ntmps70
  go_wp2_with fail
  go_ret
  clear H
  exact ⟨(by first | rfl | (simp [IntKind.wrap_u32]; done)), (HS.out).keep (l := []) (rest := [])⟩

set_option maxHeartbeats 30000000 in
set_option maxRecDepth 100000 in
theorem ground_Ground_Conf_nil.calls  (r : Int × Int × Int × Int) (w : World)  (HGl0 : Aside0 (Gl 0 #[.int .i64 0, .int .i64 0, .int .i64 0, .int .i64 0, .int .i64 0] (fps []) w)) (HS : Aside0 (Sep (fps []) w [] w)) (H : Aside0 (ground_Ground_Conf_nil.f = some r)) :
    Calls Tryd.prog 86 #[.pointer none] w fun e w' => e = .returned (.agg #[.int .i64 r.1, .int .i64 r.2.1, .int .i64 r.2.2.1, .int .i64 r.2.2.2]) ∧ Sep (fps []) w [] w' := by
  unfold ground_Ground_Conf_nil.f at H
  go_enter Tryd.func86, Tryd.ntmps86
  go_wp2_with (first | ((with_reducible refine gate_dst (N := 2) rfl ?_); refine box_on ?hg (N := 2) ?hd (cs := #[.int .i64 0, .int .i64 0, .int .i64 0, .int .i64 0]) (t := 30) ?hr ?_; (case hd => rfl); (case hg => rfl); (case hr => first | (go_simp; done) | (go_simp; rfl)); intro g432 hg w433 hbox hb; replace HS : Aside0 (Sep (fps []) w [b7 g432 0 0 0 0] w433) := ⟨HS.out.box hg hbox hb⟩; clear hg hbox hb; have hc435 : w433.cell? ⟨g432, 0, none⟩ = some (.int .i64 0) := blk_cellv (HS.out.at0) 0 rfl; have hz436 : w433.frozen? ⟨g432, 0, none⟩ = false := blk_fz (HS.out.at0) 0; have hc437 : w433.cell? ⟨g432, 1, none⟩ = some (.int .i64 0) := blk_cellv (HS.out.at0) 1 rfl; have hz438 : w433.frozen? ⟨g432, 1, none⟩ = false := blk_fz (HS.out.at0) 1; have hc439 : w433.cell? ⟨g432, 2, none⟩ = some (.int .i64 0) := blk_cellv (HS.out.at0) 2 rfl; have hz440 : w433.frozen? ⟨g432, 2, none⟩ = false := blk_fz (HS.out.at0) 2; have hc441 : w433.cell? ⟨g432, 3, none⟩ = some (.int .i64 0) := blk_cellv (HS.out.at0) 3 rfl; have hz442 : w433.frozen? ⟨g432, 3, none⟩ = false := blk_fz (HS.out.at0) 3) | ((with_reducible refine gate_store (t := 30) (p := 2) rfl ?_); refine store_event (w1 := (World.setCell (World.setCell (World.setCell (World.setCell w433 ⟨g432, 0, none⟩ (.int .i64 0)) ⟨g432, 1, none⟩ (.int .i64 0)) ⟨g432, 2, none⟩ (.int .i64 0)) ⟨g432, 3, none⟩ (.int .i64 0))) rfl (t := 30) (p := 2) rfl rfl ?hr ?_; (case hr => first | (go_simp; done) | (go_simp; rfl)); intro w443 hst; clear hc435 hz436 hc437 hz438 hc439 hz440 hc441 hz442; replace HS : Aside0 (Sep (fps []) w [b7 g432 0 0 0 0] w443) := ⟨by rw [hst]; exact HS.out.setAll (l1 := []) (l2 := []) [.int .i64 0, .int .i64 0, .int .i64 0, .int .i64 0] rfl⟩; clear hst))
  have hc444 : w443.cell? ⟨g432, 0, none⟩ = some (.int .i64 0) := blk_cellv (HS.out.at0) 0 rfl
  have hc445 : w443.cell? ⟨g432, 1, none⟩ = some (.int .i64 0) := blk_cellv (HS.out.at0) 1 rfl
  have hc446 : w443.cell? ⟨g432, 2, none⟩ = some (.int .i64 0) := blk_cellv (HS.out.at0) 2 rfl
  have hc447 : w443.cell? ⟨g432, 3, none⟩ = some (.int .i64 0) := blk_cellv (HS.out.at0) 3 rfl
  refine bodyPost_ret (v := .agg #[.int .i64 0, .int .i64 0, .int .i64 0, .int .i64 0]) (by simp [results, Tryd.results86, go_sem, hc444, hc445, hc446, hc447]) rfl ?_
  rw [← some_eq H]
  exact ⟨(by first | rfl | (simp [IntKind.wrap_u32]; done)), (HS.out).keep (l := []) (rest := [b7 g432 0 0 0 0])⟩

set_option maxHeartbeats 30000000 in
set_option maxRecDepth 100000 in
theorem ground_within.calls (a464 : Int) (a465 : Int) (a466 : Int) (r : Int) (w : World)  (HGl0 : Aside0 (Gl 0 #[.int .i64 0, .int .i64 0, .int .i64 0, .int .i64 0, .int .i64 0] (fps []) w)) (HS : Aside0 (Sep (fps []) w [] w)) (H : Aside0 (ground_within.f a464 a465 a466 = some r)) :
    Calls Tryd.prog 129 #[.int .i64 a464, .int .i64 a465, .int .i64 a466] w fun e w' => e = .returned (.int .i64 r) ∧ Sep (fps []) w [] w' := by
  unfold ground_within.f at H
  go_enter Tryd.func129, Tryd.ntmps129
  by_cases c467 : a464 < 0
  · have H := if_yes c467 H
    have c467b0 : decide (a464 < 0) = true := decide_eq_true c467
    clear c467
    go_wp2_with fail
    go_ret
    rw [← some_eq H]
    exact ⟨(by first | rfl | (simp [IntKind.wrap_u32]; done)), (HS.out).keep (l := []) (rest := [])⟩
  · have H := if_no c467 H
    have c467b0 : decide (a464 < 0) = false := decide_eq_false c467
    clear c467
    by_cases c468 : a464 ≥ a465
    · have H := if_yes c468 H
      have c468b0 : decide (a465 ≤ a464) = true := decide_eq_true c468
      clear c468
      go_wp2_with fail
      go_ret
      rw [← some_eq H]
      exact ⟨(by first | rfl | (simp [IntKind.wrap_u32]; done)), (HS.out).keep (l := []) (rest := [])⟩
    · have H := if_no c468 H
      have c468b0 : decide (a465 ≤ a464) = false := decide_eq_false c468
      clear c468
      go_wp2_with fail
      go_ret
      rw [← some_eq H]
      exact ⟨(by first | rfl | (simp [IntKind.wrap_u32]; done)), (HS.out).keep (l := []) (rest := [])⟩

set_option maxHeartbeats 30000000 in
set_option maxRecDepth 100000 in
theorem ground_Ground_word_nil.calls (a430 : Int) (a431 : Int) (r : Int) (w : World)  (HGl0 : Aside0 (Gl 0 #[.int .i64 0, .int .i64 0, .int .i64 0, .int .i64 0, .int .i64 0] (fps []) w)) (HS : Aside0 (Sep (fps []) w [] w)) (H : Aside0 (ground_Ground_word_nil.f a430 a431 = some r)) :
    Calls Tryd.prog 72 #[.pointer none, .int .i64 a430, .int .i64 a431] w fun e w' => e = .returned (.int .i64 r) ∧ Sep (fps []) w [] w' := by
  unfold ground_Ground_word_nil.f at H
  go_enter Tryd.func72, Tryd.ntmps72
  go_wp2_with fail
  obtain ⟨t448, HA449, H⟩ := bind_some H
  refine (ground_Ground_Conf_nil.calls t448 _ ⟨Gl.pass (l := []) (rest := []) HGl0.out HS.out⟩ ⟨HS.out.begin (l := []) (rest := [])⟩ HA449).mono ?_
  rintro e_ w450 ⟨rfl, hS⟩
  replace HS : Aside0 (Sep (fps []) w [] w450) := ⟨HS.out.call (l := []) (rest := []) hS⟩
  clear hS
  go_wp2_with (first | ((with_reducible refine gate_dst (N := 7) rfl ?_); refine box_on ?hg (N := 7) ?hd (cs := #[.int .i64 0, .int .i64 0, .int .i64 0, .int .i64 0]) (t := 30) ?hr ?_; (case hd => rfl); (case hg => rfl); (case hr => first | (go_simp; done) | (go_simp; rfl)); intro g451 hg w452 hbox hb; replace HS : Aside0 (Sep (fps []) w [b7 g451 0 0 0 0] w452) := ⟨HS.out.box hg hbox hb⟩; clear hg hbox hb; have hc454 : w452.cell? ⟨g451, 0, none⟩ = some (.int .i64 0) := blk_cellv (HS.out.at0) 0 rfl; have hz455 : w452.frozen? ⟨g451, 0, none⟩ = false := blk_fz (HS.out.at0) 0; have hc456 : w452.cell? ⟨g451, 1, none⟩ = some (.int .i64 0) := blk_cellv (HS.out.at0) 1 rfl; have hz457 : w452.frozen? ⟨g451, 1, none⟩ = false := blk_fz (HS.out.at0) 1; have hc458 : w452.cell? ⟨g451, 2, none⟩ = some (.int .i64 0) := blk_cellv (HS.out.at0) 2 rfl; have hz459 : w452.frozen? ⟨g451, 2, none⟩ = false := blk_fz (HS.out.at0) 2; have hc460 : w452.cell? ⟨g451, 3, none⟩ = some (.int .i64 0) := blk_cellv (HS.out.at0) 3 rfl; have hz461 : w452.frozen? ⟨g451, 3, none⟩ = false := blk_fz (HS.out.at0) 3) | ((with_reducible refine gate_store (t := 30) (p := 7) rfl ?_); refine store_event (w1 := (World.setCell (World.setCell (World.setCell (World.setCell w452 ⟨g451, 0, none⟩ (.int .i64 t448.1)) ⟨g451, 1, none⟩ (.int .i64 t448.2.1)) ⟨g451, 2, none⟩ (.int .i64 t448.2.2.1)) ⟨g451, 3, none⟩ (.int .i64 t448.2.2.2))) rfl (t := 30) (p := 7) rfl rfl ?hr ?_; (case hr => first | (go_simp; done) | (go_simp; rfl)); intro w462 hst; clear hc454 hz455 hc456 hz457 hc458 hz459 hc460 hz461; replace HS : Aside0 (Sep (fps []) w [b7 g451 t448.1 t448.2.1 t448.2.2.1 t448.2.2.2] w462) := ⟨by rw [hst]; exact HS.out.setAll (l1 := []) (l2 := []) [.int .i64 t448.1, .int .i64 t448.2.1, .int .i64 t448.2.2.1, .int .i64 t448.2.2.2] rfl⟩; clear hst; have hc463 : w462.cell? ⟨g451, 0, none⟩ = some (.int .i64 t448.1) := blk_cellv (HS.out.at0) 0 rfl))
  clear hc463
  obtain ⟨t469, HA470, H⟩ := bind_some H
  refine (ground_within.calls a430 t448.1 0 t469 _ ⟨Gl.pass (l := []) (rest := [b7 g451 t448.1 t448.2.1 t448.2.2.1 t448.2.2.2]) HGl0.out HS.out⟩ ⟨HS.out.begin (l := []) (rest := [b7 g451 t448.1 t448.2.1 t448.2.2.1 t448.2.2.2])⟩ HA470).mono ?_
  rintro e_ w471 ⟨rfl, hS⟩
  replace HS : Aside0 (Sep (fps []) w [b7 g451 t448.1 t448.2.1 t448.2.2.1 t448.2.2.2] w471) := ⟨HS.out.call (l := []) (rest := [b7 g451 t448.1 t448.2.1 t448.2.2.1 t448.2.2.2]) hS⟩
  clear hS
  by_cases c472 : t469 = (-1)
  · have H := if_yes c472 H
    have c472b0 : (t469 == (-1)) = true := beq_iff_eq.mpr c472
    have c472b1 : (t469 != (-1)) = false := bne_eq_false_iff_eq.mpr c472
    clear c472
    replace HS : Aside0 (Sep (fps []) w [] w471) := ⟨HS.out.sub (.cons _ .slnil)⟩
    go_wp2_with fail
    go_ret
    rw [← some_eq H]
    exact ⟨(by first | rfl | (simp [IntKind.wrap_u32]; done)), (HS.out).keep (l := []) (rest := [])⟩
  · have H := if_no c472 H
    have c472b0 : (t469 == (-1)) = false := beq_eq_false_iff_ne.mpr c472
    have c472b1 : (t469 != (-1)) = true := bne_iff_ne.mpr c472
    clear c472
    have hc473 : w471.cell? ⟨g451, 1, none⟩ = some (.int .i64 t448.2.1) := blk_cellv (HS.out.at0) 1 rfl
    have hc474 : w471.cell? ⟨g451, 2, none⟩ = some (.int .i64 t448.2.2.1) := blk_cellv (HS.out.at0) 2 rfl
    go_wp2_with fail
    clear hc473 hc474
    obtain ⟨t475, HA476, H⟩ := bind_some H
    refine (ground_within.calls a431 t448.2.1 (wrap64 ((wrap64 (24 + t448.2.2.1)) + (wrap64 (a430 * t448.2.1)))) t475 _ ⟨Gl.pass (l := []) (rest := [b7 g451 t448.1 t448.2.1 t448.2.2.1 t448.2.2.2]) HGl0.out HS.out⟩ ⟨HS.out.begin (l := []) (rest := [b7 g451 t448.1 t448.2.1 t448.2.2.1 t448.2.2.2])⟩ HA476).mono ?_
    rintro e_ w477 ⟨rfl, hS⟩
    replace HS : Aside0 (Sep (fps []) w [b7 g451 t448.1 t448.2.1 t448.2.2.1 t448.2.2.2] w477) := ⟨HS.out.call (l := []) (rest := [b7 g451 t448.1 t448.2.1 t448.2.2.1 t448.2.2.2]) hS⟩
    clear hS
    replace HS : Aside0 (Sep (fps []) w [] w477) := ⟨HS.out.sub (.cons _ .slnil)⟩
    go_wp2_with fail
    go_ret
    rw [← some_eq H]
    exact ⟨(by first | rfl | (simp [IntKind.wrap_u32]; done)), (HS.out).keep (l := []) (rest := [])⟩

set_option maxHeartbeats 30000000 in
set_option maxRecDepth 100000 in
theorem store_Store_has_nil.calls (a483 : Int) (r : Bool) (w : World)  (HGl0 : Aside0 (Gl 0 #[.int .i64 0, .int .i64 0, .int .i64 0, .int .i64 0, .int .i64 0] (fps []) w)) (HS : Aside0 (Sep (fps []) w [] w)) (H : Aside0 (store_Store_has_nil.f a483 = some r)) :
    Calls Tryd.prog 127 #[.pointer none, .int .i64 a483] w fun e w' => e = .returned (.bool r) ∧ Sep (fps []) w [] w' := by
  unfold store_Store_has_nil.f at H
  go_enter Tryd.func127, Tryd.ntmps127
  go_wp2_with fail
  go_ret
  rw [← some_eq H]
  exact ⟨(by first | rfl | (simp [IntKind.wrap_u32]; done)), (HS.out).keep (l := []) (rest := [])⟩

set_option maxHeartbeats 30000000 in
set_option maxRecDepth 100000 in
theorem store_Store_Put_nil.calls (a481 : Int) (a482 : Int) (r : Bool) (w : World)  (HGl0 : Aside0 (Gl 0 #[.int .i64 0, .int .i64 0, .int .i64 0, .int .i64 0, .int .i64 0] (fps []) w)) (HS : Aside0 (Sep (fps []) w [] w)) (H : Aside0 (store_Store_Put_nil.f a481 a482 = some r)) :
    Calls Tryd.prog 71 #[.pointer none, .int .i64 a481, .int .u32 a482] w fun e w' => e = .returned (.bool r) ∧ Sep (fps []) w [] w' := by
  unfold store_Store_Put_nil.f at H
  go_enter Tryd.func71, Tryd.ntmps71
  go_wp2_with fail
  obtain ⟨t484, HA485, H⟩ := bind_some H
  refine (store_Store_has_nil.calls a481 t484 _ ⟨Gl.pass (l := []) (rest := []) HGl0.out HS.out⟩ ⟨HS.out.begin (l := []) (rest := [])⟩ HA485).mono ?_
  rintro e_ w486 ⟨rfl, hS⟩
  replace HS : Aside0 (Sep (fps []) w [] w486) := ⟨HS.out.call (l := []) (rest := []) hS⟩
  clear hS
  by_cases c487 : t484 = true
  · have H := if_yes c487 H
    have c487b0 : t484 = true := c487
    have c487b1 : (!t484) = false := by rw [c487b0]; rfl
    try rw [c487b1]
    clear c487
    exact (none_no H).elim
  · have H := if_no c487 H
    have c487b0 : t484 = false := by simpa using c487
    have c487b1 : (!t484) = true := by rw [c487b0]; rfl
    try rw [c487b1]
    clear c487
    go_wp2_with fail
    go_ret
    rw [← some_eq H]
    exact ⟨(by first | rfl | (simp [IntKind.wrap_u32]; done)), (HS.out).keep (l := []) (rest := [])⟩

set_option maxHeartbeats 30000000 in
set_option maxRecDepth 100000 in
theorem ground_Ground_SetWord_nil.calls (a424 : Int) (a425 : Int) (a426 : Int) (r : Bool) (w : World)  (HGl0 : Aside0 (Gl 0 #[.int .i64 0, .int .i64 0, .int .i64 0, .int .i64 0, .int .i64 0] (fps []) w)) (HS : Aside0 (Sep (fps []) w [] w)) (H : Aside0 (ground_Ground_SetWord_nil.f a424 a425 a426 = some r)) :
    Calls Tryd.prog 17 #[.pointer none, .int .i64 a424, .int .i64 a425, .int .u32 a426] w fun e w' => e = .returned (.bool r) ∧ Sep (fps []) w [] w' := by
  unfold ground_Ground_SetWord_nil.f at H
  go_enter Tryd.func17, Tryd.ntmps17
  go_wp2_with fail
  obtain ⟨t427, HA428, H⟩ := bind_some H
  refine (ground_Ground_all_nil.calls t427 _ ⟨Gl.pass (l := []) (rest := []) HGl0.out HS.out⟩ ⟨HS.out.begin (l := []) (rest := [])⟩ HA428).mono ?_
  rintro e_ w429 ⟨rfl, hS⟩
  replace HS : Aside0 (Sep (fps []) w [] w429) := ⟨HS.out.call (l := []) (rest := []) hS⟩
  clear hS
  go_wp2_with fail
  obtain ⟨t478, HA479, H⟩ := bind_some H
  refine (ground_Ground_word_nil.calls a424 a425 t478 _ ⟨Gl.pass (l := []) (rest := []) HGl0.out HS.out⟩ ⟨HS.out.begin (l := []) (rest := [])⟩ HA479).mono ?_
  rintro e_ w480 ⟨rfl, hS⟩
  replace HS : Aside0 (Sep (fps []) w [] w480) := ⟨HS.out.call (l := []) (rest := []) hS⟩
  clear hS
  go_wp2_with fail
  obtain ⟨t488, HA489, H⟩ := bind_some H
  refine (store_Store_Put_nil.calls t478 a426 t488 _ ⟨Gl.pass (l := []) (rest := []) HGl0.out HS.out⟩ ⟨HS.out.begin (l := []) (rest := [])⟩ HA489).mono ?_
  rintro e_ w490 ⟨rfl, hS⟩
  replace HS : Aside0 (Sep (fps []) w [] w490) := ⟨HS.out.call (l := []) (rest := []) hS⟩
  clear hS
  go_wp2_with fail
  go_ret
  rw [← some_eq H]
  exact ⟨(by first | rfl | (simp [IntKind.wrap_u32]; done)), (HS.out).keep (l := []) (rest := [])⟩

set_option maxHeartbeats 30000000 in
set_option maxRecDepth 100000 in
theorem ring_mark_nil.calls (k : Nat) (a62 : Int) (a63 : Int) (a64 : Int) (a65 : Int) (a66 : Int) (a67 : Int) (a68 : Int) (a69 : Int) (a70 : Int) (r : Unit) (w : World)  (HGl0 : Aside0 (Gl 0 #[.int .i64 0, .int .i64 0, .int .i64 0, .int .i64 0, .int .i64 0] (fps []) w)) (HS : Aside0 (Sep (fps []) w [] w)) (H : Aside0 (ring_mark_nil.f k a62 a63 a64 a65 a66 a67 a68 a69 a70 = some r)) :
    Calls Tryd.prog 80 #[.pointer none, .int .i64 a62, .agg #[.int .i64 a63, .int .i64 a64, .int .i64 a65, .int .i64 a66, .int .i64 a67, .int .i64 a68, .int .i64 a69], .int .i64 a70] w fun e w' => e = .returned (.tuple #[]) ∧ Sep (fps []) w [] w' := by
  unfold ring_mark_nil.f at H
  go_enter Tryd.func80, Tryd.ntmps80
  go_wp2_with (first | ((with_reducible refine gate_dst (N := 6) rfl ?_); refine box_on ?hg (N := 6) ?hd (cs := #[.int .i64 a63, .int .i64 a64, .int .i64 a65, .int .i64 a66, .int .i64 a67, .int .i64 a68, .int .i64 a69]) (t := 32) ?hr ?_; (case hd => rfl); (case hg => rfl); (case hr => first | (go_simp; done) | (go_simp; rfl)); intro g71 hg w72 hbox hb; replace HS : Aside0 (Sep (fps []) w [b1 g71 a63 a64 a65 a66 a67 a68 a69] w72) := ⟨HS.out.box hg hbox hb⟩; clear hg hbox hb; have hc74 : w72.cell? ⟨g71, 5, none⟩ = some (.int .i64 a68) := blk_cellv (HS.out.at0) 5 rfl; have hz75 : w72.frozen? ⟨g71, 5, none⟩ = false := blk_fz (HS.out.at0) 5) | ((with_reducible refine gate_store (t := 3) (p := 11) rfl ?_); refine store_event (w1 := (World.setCell w72 ⟨g71, 5, none⟩ (.int .i64 a70))) rfl (t := 3) (p := 11) rfl rfl ?hr ?_; (case hr => first | (go_simp; done) | (go_simp; rfl)); intro w76 hst; clear hc74 hz75; have hq0 : Sep (fps []) w [b1 g71 a63 a64 a65 a66 a67 a70 a69] (World.setCell w72 ⟨g71, 5, none⟩ (.int .i64 a70)) := (HS.out).set1 (l1 := []) (l2 := []) 5 (.int .i64 a70); replace HS : Aside0 (Sep (fps []) w [b1 g71 a63 a64 a65 a66 a67 a70 a69] w76) := ⟨by rw [hst]; exact hq0⟩; clear hq0; clear hst; have hc77 : w76.cell? ⟨g71, 0, none⟩ = some (.int .i64 a63) := blk_cellv (HS.out.at0) 0 rfl; have hc78 : w76.cell? ⟨g71, 1, none⟩ = some (.int .i64 a64) := blk_cellv (HS.out.at0) 1 rfl; have hc79 : w76.cell? ⟨g71, 2, none⟩ = some (.int .i64 a65) := blk_cellv (HS.out.at0) 2 rfl; have hc80 : w76.cell? ⟨g71, 3, none⟩ = some (.int .i64 a66) := blk_cellv (HS.out.at0) 3 rfl; have hc81 : w76.cell? ⟨g71, 4, none⟩ = some (.int .i64 a67) := blk_cellv (HS.out.at0) 4 rfl; have hc82 : w76.cell? ⟨g71, 5, none⟩ = some (.int .i64 a70) := blk_cellv (HS.out.at0) 5 rfl; have hc83 : w76.cell? ⟨g71, 6, none⟩ = some (.int .i64 a69) := blk_cellv (HS.out.at0) 6 rfl))
  clear hc77 hc78 hc79 hc80 hc81 hc82 hc83
  obtain ⟨t420, HA421, H⟩ := bind_some H
  refine (tag_Pack.calls _ a63 a64 a65 a66 a67 a70 a69 t420 _ ⟨Gl.pass (l := []) (rest := [b1 g71 a63 a64 a65 a66 a67 a70 a69]) HGl0.out HS.out⟩ ⟨HS.out.begin (l := []) (rest := [b1 g71 a63 a64 a65 a66 a67 a70 a69])⟩ HA421).mono ?_
  rintro e_ w422 ⟨rfl, hS⟩
  replace HS : Aside0 (Sep (fps []) w [b1 g71 a63 a64 a65 a66 a67 a70 a69] w422) := ⟨HS.out.call (l := []) (rest := [b1 g71 a63 a64 a65 a66 a67 a70 a69]) hS⟩
  clear hS
  by_cases c423 : t420.2 = 0
  · have H := if_yes c423 H
    have c423b0 : (t420.2 == 0) = true := beq_iff_eq.mpr c423
    have c423b1 : (t420.2 != 0) = false := bne_eq_false_iff_eq.mpr c423
    clear c423
    replace HS : Aside0 (Sep (fps []) w [] w422) := ⟨HS.out.sub (.cons _ .slnil)⟩
    go_wp2_with fail
    obtain ⟨t491, HA492, H⟩ := bind_some H
    refine (ground_Ground_SetWord_nil.calls a62 0 t420.1 t491 _ ⟨Gl.pass (l := []) (rest := []) HGl0.out HS.out⟩ ⟨HS.out.begin (l := []) (rest := [])⟩ HA492).mono ?_
    rintro e_ w493 ⟨rfl, hS⟩
    replace HS : Aside0 (Sep (fps []) w [] w493) := ⟨HS.out.call (l := []) (rest := []) hS⟩
    clear hS
    go_wp2_with fail
    first | go_end0 | refine bodyPost_ret (results_none rfl _ _ _) rfl ?_
    clear H
    exact ⟨rfl, (HS.out).keep (l := []) (rest := [])⟩
  · have H := if_no c423 H
    have c423b0 : (t420.2 == 0) = false := beq_eq_false_iff_ne.mpr c423
    have c423b1 : (t420.2 != 0) = true := bne_iff_ne.mpr c423
    clear c423
    replace HS : Aside0 (Sep (fps []) w [] w422) := ⟨HS.out.sub (.cons _ .slnil)⟩
    go_wp2_with fail
    first | go_end0 | refine bodyPost_ret (results_none rfl _ _ _) rfl ?_
    clear H
    exact ⟨rfl, (HS.out).keep (l := []) (rest := [])⟩

set_option maxHeartbeats 30000000 in
set_option maxRecDepth 100000 in
theorem ground_reg.calls (a501 : Int) (r : Int) (w : World)  (HGl0 : Aside0 (Gl 0 #[.int .i64 0, .int .i64 0, .int .i64 0, .int .i64 0, .int .i64 0] (fps []) w)) (HS : Aside0 (Sep (fps []) w [] w)) (H : Aside0 (ground_reg.f a501 = some r)) :
    Calls Tryd.prog 131 #[.int .i64 a501] w fun e w' => e = .returned (.int .i64 r) ∧ Sep (fps []) w [] w' := by
  unfold ground_reg.f at H
  go_enter Tryd.func131, Tryd.ntmps131
  go_wp2_with fail
  obtain ⟨t502, HA503, H⟩ := bind_some H
  refine (ground_within.calls a501 24 0 t502 _ ⟨Gl.pass (l := []) (rest := []) HGl0.out HS.out⟩ ⟨HS.out.begin (l := []) (rest := [])⟩ HA503).mono ?_
  rintro e_ w504 ⟨rfl, hS⟩
  replace HS : Aside0 (Sep (fps []) w [] w504) := ⟨HS.out.call (l := []) (rest := []) hS⟩
  clear hS
  go_wp2_with fail
  go_ret
  rw [← some_eq H]
  exact ⟨(by first | rfl | (simp [IntKind.wrap_u32]; done)), (HS.out).keep (l := []) (rest := [])⟩

set_option maxHeartbeats 30000000 in
set_option maxRecDepth 100000 in
theorem store_Store_Get_nil.calls (a508 : Int) (r : Int) (w : World)  (HGl0 : Aside0 (Gl 0 #[.int .i64 0, .int .i64 0, .int .i64 0, .int .i64 0, .int .i64 0] (fps []) w)) (HS : Aside0 (Sep (fps []) w [] w)) (H : Aside0 (store_Store_Get_nil.f a508 = some r)) :
    Calls Tryd.prog 130 #[.pointer none, .int .i64 a508] w fun e w' => e = .returned (.int .u32 r) ∧ Sep (fps []) w [] w' := by
  unfold store_Store_Get_nil.f at H
  go_enter Tryd.func130, Tryd.ntmps130
  go_wp2_with fail
  obtain ⟨t509, HA510, H⟩ := bind_some H
  refine (store_Store_has_nil.calls a508 t509 _ ⟨Gl.pass (l := []) (rest := []) HGl0.out HS.out⟩ ⟨HS.out.begin (l := []) (rest := [])⟩ HA510).mono ?_
  rintro e_ w511 ⟨rfl, hS⟩
  replace HS : Aside0 (Sep (fps []) w [] w511) := ⟨HS.out.call (l := []) (rest := []) hS⟩
  clear hS
  by_cases c512 : t509 = true
  · have H := if_yes c512 H
    have c512b0 : t509 = true := c512
    have c512b1 : (!t509) = false := by rw [c512b0]; rfl
    try rw [c512b1]
    clear c512
    exact (none_no H).elim
  · have H := if_no c512 H
    have c512b0 : t509 = false := by simpa using c512
    have c512b1 : (!t509) = true := by rw [c512b0]; rfl
    try rw [c512b1]
    clear c512
    go_wp2_with fail
    go_ret
    rw [← some_eq H]
    exact ⟨(by first | rfl | (simp [IntKind.wrap_u32]; done)), (HS.out).keep (l := []) (rest := [])⟩

set_option maxHeartbeats 30000000 in
set_option maxRecDepth 100000 in
theorem ground_Ground_Reg_nil.calls (a497 : Int) (r : Int) (w : World)  (HGl0 : Aside0 (Gl 0 #[.int .i64 0, .int .i64 0, .int .i64 0, .int .i64 0, .int .i64 0] (fps []) w)) (HS : Aside0 (Sep (fps []) w [] w)) (H : Aside0 (ground_Ground_Reg_nil.f a497 = some r)) :
    Calls Tryd.prog 81 #[.pointer none, .int .i64 a497] w fun e w' => e = .returned (.int .i64 r) ∧ Sep (fps []) w [] w' := by
  unfold ground_Ground_Reg_nil.f at H
  go_enter Tryd.func81, Tryd.ntmps81
  go_wp2_with fail
  obtain ⟨t498, HA499, H⟩ := bind_some H
  refine (ground_Ground_all_nil.calls t498 _ ⟨Gl.pass (l := []) (rest := []) HGl0.out HS.out⟩ ⟨HS.out.begin (l := []) (rest := [])⟩ HA499).mono ?_
  rintro e_ w500 ⟨rfl, hS⟩
  replace HS : Aside0 (Sep (fps []) w [] w500) := ⟨HS.out.call (l := []) (rest := []) hS⟩
  clear hS
  go_wp2_with fail
  obtain ⟨t505, HA506, H⟩ := bind_some H
  refine (ground_reg.calls a497 t505 _ ⟨Gl.pass (l := []) (rest := []) HGl0.out HS.out⟩ ⟨HS.out.begin (l := []) (rest := [])⟩ HA506).mono ?_
  rintro e_ w507 ⟨rfl, hS⟩
  replace HS : Aside0 (Sep (fps []) w [] w507) := ⟨HS.out.call (l := []) (rest := []) hS⟩
  clear hS
  go_wp2_with fail
  obtain ⟨t513, HA514, H⟩ := bind_some H
  refine (store_Store_Get_nil.calls t505 t513 _ ⟨Gl.pass (l := []) (rest := []) HGl0.out HS.out⟩ ⟨HS.out.begin (l := []) (rest := [])⟩ HA514).mono ?_
  rintro e_ w515 ⟨rfl, hS⟩
  replace HS : Aside0 (Sep (fps []) w [] w515) := ⟨HS.out.call (l := []) (rest := []) hS⟩
  clear hS
  go_wp2_with fail
  go_ret
  rw [← some_eq H]
  exact ⟨(by first | rfl | (simp [IntKind.wrap_u32]; done)), (HS.out).keep (l := []) (rest := [])⟩

set_option maxHeartbeats 30000000 in
set_option maxRecDepth 100000 in
theorem ground_Ground_set_nil.calls (a535 : Int) (a536 : Int) (r : Bool) (w : World)  (HGl0 : Aside0 (Gl 0 #[.int .i64 0, .int .i64 0, .int .i64 0, .int .i64 0, .int .i64 0] (fps []) w)) (HS : Aside0 (Sep (fps []) w [] w)) (H : Aside0 (ground_Ground_set_nil.f a535 a536 = some r)) :
    Calls Tryd.prog 132 #[.pointer none, .int .i64 a535, .int .i64 a536] w fun e w' => e = .returned (.bool r) ∧ Sep (fps []) w [] w' := by
  unfold ground_Ground_set_nil.f at H
  go_enter Tryd.func132, Tryd.ntmps132
  by_cases c537 : a536 < 0
  · have H := if_yes c537 H
    have c537b0 : decide (a536 < 0) = true := decide_eq_true c537
    clear c537
    go_wp2_with fail
    go_ret
    rw [← some_eq H]
    exact ⟨(by first | rfl | (simp [IntKind.wrap_u32]; done)), (HS.out).keep (l := []) (rest := [])⟩
  · have H := if_no c537 H
    have c537b0 : decide (a536 < 0) = false := decide_eq_false c537
    clear c537
    by_cases c538 : a536 > 4294967295
    · have H := if_yes c538 H
      have c538b0 : decide (4294967295 < a536) = true := decide_eq_true c538
      clear c538
      go_wp2_with fail
      go_ret
      rw [← some_eq H]
      exact ⟨(by first | rfl | (simp [IntKind.wrap_u32]; done)), (HS.out).keep (l := []) (rest := [])⟩
    · have H := if_no c538 H
      have c538b0 : decide (4294967295 < a536) = false := decide_eq_false c538
      clear c538
      go_wp2_with fail
      obtain ⟨t539, HA540, H⟩ := bind_some H
      refine (ground_Ground_all_nil.calls t539 _ ⟨Gl.pass (l := []) (rest := []) HGl0.out HS.out⟩ ⟨HS.out.begin (l := []) (rest := [])⟩ HA540).mono ?_
      rintro e_ w541 ⟨rfl, hS⟩
      replace HS : Aside0 (Sep (fps []) w [] w541) := ⟨HS.out.call (l := []) (rest := []) hS⟩
      clear hS
      go_wp2_with fail
      obtain ⟨t542, HA543, H⟩ := bind_some H
      refine (store_Store_Put_nil.calls a535 ((a536) % 4294967296) t542 _ ⟨Gl.pass (l := []) (rest := []) HGl0.out HS.out⟩ ⟨HS.out.begin (l := []) (rest := [])⟩ HA543).mono ?_
      rintro e_ w544 ⟨rfl, hS⟩
      replace HS : Aside0 (Sep (fps []) w [] w544) := ⟨HS.out.call (l := []) (rest := []) hS⟩
      clear hS
      go_wp2_with fail
      go_ret
      rw [← some_eq H]
      exact ⟨(by first | rfl | (simp [IntKind.wrap_u32]; done)), (HS.out).keep (l := []) (rest := [])⟩

set_option maxHeartbeats 30000000 in
set_option maxRecDepth 100000 in
theorem ground_Ground_SetReg_nil.calls (a530 : Int) (a531 : Int) (r : Bool) (w : World)  (HGl0 : Aside0 (Gl 0 #[.int .i64 0, .int .i64 0, .int .i64 0, .int .i64 0, .int .i64 0] (fps []) w)) (HS : Aside0 (Sep (fps []) w [] w)) (H : Aside0 (ground_Ground_SetReg_nil.f a530 a531 = some r)) :
    Calls Tryd.prog 83 #[.pointer none, .int .i64 a530, .int .i64 a531] w fun e w' => e = .returned (.bool r) ∧ Sep (fps []) w [] w' := by
  unfold ground_Ground_SetReg_nil.f at H
  go_enter Tryd.func83, Tryd.ntmps83
  go_wp2_with fail
  obtain ⟨t532, HA533, H⟩ := bind_some H
  refine (ground_reg.calls a530 t532 _ ⟨Gl.pass (l := []) (rest := []) HGl0.out HS.out⟩ ⟨HS.out.begin (l := []) (rest := [])⟩ HA533).mono ?_
  rintro e_ w534 ⟨rfl, hS⟩
  replace HS : Aside0 (Sep (fps []) w [] w534) := ⟨HS.out.call (l := []) (rest := []) hS⟩
  clear hS
  go_wp2_with fail
  obtain ⟨t545, HA546, H⟩ := bind_some H
  refine (ground_Ground_set_nil.calls t532 a531 t545 _ ⟨Gl.pass (l := []) (rest := []) HGl0.out HS.out⟩ ⟨HS.out.begin (l := []) (rest := [])⟩ HA546).mono ?_
  rintro e_ w547 ⟨rfl, hS⟩
  replace HS : Aside0 (Sep (fps []) w [] w547) := ⟨HS.out.call (l := []) (rest := []) hS⟩
  clear hS
  go_wp2_with fail
  go_ret
  rw [← some_eq H]
  exact ⟨(by first | rfl | (simp [IntKind.wrap_u32]; done)), (HS.out).keep (l := []) (rest := [])⟩

set_option maxHeartbeats 30000000 in
set_option maxRecDepth 100000 in
theorem ring_link_nil.calls (a525 : Int) (a526 : Int) (a527 : Int) (a528 : Int) (r : Unit) (w : World)  (HGl0 : Aside0 (Gl 0 #[.int .i64 0, .int .i64 0, .int .i64 0, .int .i64 0, .int .i64 0] (fps []) w)) (HS : Aside0 (Sep (fps []) w [] w)) (H : Aside0 (ring_link_nil.f a525 a526 a527 a528 = some r)) :
    Calls Tryd.prog 82 #[.pointer none, .int .i64 a525, .int .i64 a526, .int .i64 a527, .int .i64 a528] w fun e w' => e = .returned (.tuple #[]) ∧ Sep (fps []) w [] w' := by
  unfold ring_link_nil.f at H
  go_enter Tryd.func82, Tryd.ntmps82
  by_cases c529 : a525 = 0
  · have H := if_yes c529 H
    have c529b0 : (a525 == 0) = true := beq_iff_eq.mpr c529
    have c529b1 : (a525 != 0) = false := bne_eq_false_iff_eq.mpr c529
    clear c529
    go_wp2_with fail
    obtain ⟨t548, HA549, H⟩ := bind_some H
    refine (ground_Ground_SetReg_nil.calls a527 a528 t548 _ ⟨Gl.pass (l := []) (rest := []) HGl0.out HS.out⟩ ⟨HS.out.begin (l := []) (rest := [])⟩ HA549).mono ?_
    rintro e_ w550 ⟨rfl, hS⟩
    replace HS : Aside0 (Sep (fps []) w [] w550) := ⟨HS.out.call (l := []) (rest := []) hS⟩
    clear hS
    go_wp2_with fail
    first | go_end0 | refine bodyPost_ret (results_none rfl _ _ _) rfl ?_
    clear H
    exact ⟨rfl, (HS.out).keep (l := []) (rest := [])⟩
  · have H := if_no c529 H
    have c529b0 : (a525 == 0) = false := beq_eq_false_iff_ne.mpr c529
    have c529b1 : (a525 != 0) = true := bne_iff_ne.mpr c529
    clear c529
    go_wp2_with fail
    obtain ⟨t551, HA552, H⟩ := bind_some H
    refine (ground_Ground_SetWord_nil.calls (wrap64 (a525 - 1)) a526 ((a528) % 4294967296) t551 _ ⟨Gl.pass (l := []) (rest := []) HGl0.out HS.out⟩ ⟨HS.out.begin (l := []) (rest := [])⟩ HA552).mono ?_
    rintro e_ w553 ⟨rfl, hS⟩
    replace HS : Aside0 (Sep (fps []) w [] w553) := ⟨HS.out.call (l := []) (rest := []) hS⟩
    clear hS
    go_wp2_with fail
    first | go_end0 | refine bodyPost_ret (results_none rfl _ _ _) rfl ?_
    clear H
    exact ⟨rfl, (HS.out).keep (l := []) (rest := [])⟩

set_option maxHeartbeats 30000000 in
set_option maxRecDepth 100000 in
theorem ring_Add_nil.calls (k : Nat) (a5 : Int) (r : Bool) (w : World)  (HGl0 : Aside0 (Gl 0 #[.int .i64 0, .int .i64 0, .int .i64 0, .int .i64 0, .int .i64 0] (fps []) w)) (HS : Aside0 (Sep (fps []) w [] w)) (H : Aside0 (ring_Add_nil.f k a5 = some r)) :
    Calls Tryd.prog 23 #[.pointer none, .int .i64 a5] w fun e w' => e = .returned (.bool r) ∧ Sep (fps []) w [] w' := by
  unfold ring_Add_nil.f at H
  go_enter Tryd.func23, Tryd.ntmps23
  go_wp2_with fail
  obtain ⟨t33, HA34, H⟩ := bind_some H
  refine (ring_marked_nil.calls a5 0 t33 _ ⟨Gl.pass (l := []) (rest := []) HGl0.out HS.out⟩ ⟨HS.out.begin (l := []) (rest := [])⟩ HA34).mono ?_
  rintro e_ w35 ⟨rfl, hS⟩
  replace HS : Aside0 (Sep (fps []) w [] w35) := ⟨HS.out.call (l := []) (rest := []) hS⟩
  clear hS
  by_cases c54 : t33.2.2.2.2.2.2.2 = true
  · have H := if_yes c54 H
    have c54b0 : t33.2.2.2.2.2.2.2 = true := c54
    have c54b1 : (!t33.2.2.2.2.2.2.2) = false := by rw [c54b0]; rfl
    try rw [c54b1]
    clear c54
    go_wp2_with (first | ((with_reducible refine gate_dst (N := 5) rfl ?_); refine box_on ?hg (N := 5) ?hd (cs := #[.int .i64 0, .int .i64 0, .int .i64 0, .int .i64 0, .int .i64 0, .int .i64 0, .int .i64 0]) (t := 32) ?hr ?_; (case hd => rfl); (case hg => rfl); (case hr => first | (go_simp; done) | (go_simp; rfl)); intro g36 hg w37 hbox hb; replace HS : Aside0 (Sep (fps []) w [b1 g36 0 0 0 0 0 0 0] w37) := ⟨HS.out.box hg hbox hb⟩; clear hg hbox hb; have hc39 : w37.cell? ⟨g36, 0, none⟩ = some (.int .i64 0) := blk_cellv (HS.out.at0) 0 rfl; have hz40 : w37.frozen? ⟨g36, 0, none⟩ = false := blk_fz (HS.out.at0) 0; have hc41 : w37.cell? ⟨g36, 1, none⟩ = some (.int .i64 0) := blk_cellv (HS.out.at0) 1 rfl; have hz42 : w37.frozen? ⟨g36, 1, none⟩ = false := blk_fz (HS.out.at0) 1; have hc43 : w37.cell? ⟨g36, 2, none⟩ = some (.int .i64 0) := blk_cellv (HS.out.at0) 2 rfl; have hz44 : w37.frozen? ⟨g36, 2, none⟩ = false := blk_fz (HS.out.at0) 2; have hc45 : w37.cell? ⟨g36, 3, none⟩ = some (.int .i64 0) := blk_cellv (HS.out.at0) 3 rfl; have hz46 : w37.frozen? ⟨g36, 3, none⟩ = false := blk_fz (HS.out.at0) 3; have hc47 : w37.cell? ⟨g36, 4, none⟩ = some (.int .i64 0) := blk_cellv (HS.out.at0) 4 rfl; have hz48 : w37.frozen? ⟨g36, 4, none⟩ = false := blk_fz (HS.out.at0) 4; have hc49 : w37.cell? ⟨g36, 5, none⟩ = some (.int .i64 0) := blk_cellv (HS.out.at0) 5 rfl; have hz50 : w37.frozen? ⟨g36, 5, none⟩ = false := blk_fz (HS.out.at0) 5; have hc51 : w37.cell? ⟨g36, 6, none⟩ = some (.int .i64 0) := blk_cellv (HS.out.at0) 6 rfl; have hz52 : w37.frozen? ⟨g36, 6, none⟩ = false := blk_fz (HS.out.at0) 6) | ((with_reducible refine gate_store (t := 32) (p := 5) rfl ?_); refine store_event (w1 := (World.setCell (World.setCell (World.setCell (World.setCell (World.setCell (World.setCell (World.setCell w37 ⟨g36, 0, none⟩ (.int .i64 t33.1)) ⟨g36, 1, none⟩ (.int .i64 t33.2.1)) ⟨g36, 2, none⟩ (.int .i64 t33.2.2.1)) ⟨g36, 3, none⟩ (.int .i64 t33.2.2.2.1)) ⟨g36, 4, none⟩ (.int .i64 t33.2.2.2.2.1)) ⟨g36, 5, none⟩ (.int .i64 t33.2.2.2.2.2.1)) ⟨g36, 6, none⟩ (.int .i64 t33.2.2.2.2.2.2.1))) rfl (t := 32) (p := 5) rfl rfl ?hr ?_; (case hr => first | (go_simp; done) | (go_simp; rfl)); intro w53 hst; clear hc39 hz40 hc41 hz42 hc43 hz44 hc45 hz46 hc47 hz48 hc49 hz50 hc51 hz52; replace HS : Aside0 (Sep (fps []) w [b1 g36 t33.1 t33.2.1 t33.2.2.1 t33.2.2.2.1 t33.2.2.2.2.1 t33.2.2.2.2.2.1 t33.2.2.2.2.2.2.1] w53) := ⟨by rw [hst]; exact HS.out.setAll (l1 := []) (l2 := []) [.int .i64 t33.1, .int .i64 t33.2.1, .int .i64 t33.2.2.1, .int .i64 t33.2.2.2.1, .int .i64 t33.2.2.2.2.1, .int .i64 t33.2.2.2.2.2.1, .int .i64 t33.2.2.2.2.2.2.1] rfl⟩; clear hst; have hc55 : w53.cell? ⟨g36, 0, none⟩ = some (.int .i64 t33.1) := blk_cellv (HS.out.at0) 0 rfl; have hc56 : w53.cell? ⟨g36, 1, none⟩ = some (.int .i64 t33.2.1) := blk_cellv (HS.out.at0) 1 rfl; have hc57 : w53.cell? ⟨g36, 2, none⟩ = some (.int .i64 t33.2.2.1) := blk_cellv (HS.out.at0) 2 rfl; have hc58 : w53.cell? ⟨g36, 3, none⟩ = some (.int .i64 t33.2.2.2.1) := blk_cellv (HS.out.at0) 3 rfl; have hc59 : w53.cell? ⟨g36, 4, none⟩ = some (.int .i64 t33.2.2.2.2.1) := blk_cellv (HS.out.at0) 4 rfl; have hc60 : w53.cell? ⟨g36, 5, none⟩ = some (.int .i64 t33.2.2.2.2.2.1) := blk_cellv (HS.out.at0) 5 rfl; have hc61 : w53.cell? ⟨g36, 6, none⟩ = some (.int .i64 t33.2.2.2.2.2.2.1) := blk_cellv (HS.out.at0) 6 rfl))
    clear hc55 hc56 hc57 hc58 hc59 hc60 hc61
    obtain ⟨t494, HA495, H⟩ := bind_some H
    refine (ring_mark_nil.calls _ a5 t33.1 t33.2.1 t33.2.2.1 t33.2.2.2.1 t33.2.2.2.2.1 t33.2.2.2.2.2.1 t33.2.2.2.2.2.2.1 1 t494 _ ⟨Gl.pass (l := []) (rest := [b1 g36 t33.1 t33.2.1 t33.2.2.1 t33.2.2.2.1 t33.2.2.2.2.1 t33.2.2.2.2.2.1 t33.2.2.2.2.2.2.1]) HGl0.out HS.out⟩ ⟨HS.out.begin (l := []) (rest := [b1 g36 t33.1 t33.2.1 t33.2.2.1 t33.2.2.2.1 t33.2.2.2.2.1 t33.2.2.2.2.2.1 t33.2.2.2.2.2.2.1])⟩ HA495).mono ?_
    rintro e_ w496 ⟨rfl, hS⟩
    replace HS : Aside0 (Sep (fps []) w [b1 g36 t33.1 t33.2.1 t33.2.2.1 t33.2.2.2.1 t33.2.2.2.2.1 t33.2.2.2.2.2.1 t33.2.2.2.2.2.2.1] w496) := ⟨HS.out.call (l := []) (rest := [b1 g36 t33.1 t33.2.1 t33.2.2.1 t33.2.2.2.1 t33.2.2.2.2.1 t33.2.2.2.2.2.1 t33.2.2.2.2.2.2.1]) hS⟩
    clear hS
    replace HS : Aside0 (Sep (fps []) w [] w496) := ⟨HS.out.sub (.cons _ .slnil)⟩
    go_wp2_with fail
    obtain ⟨t516, HA517, H⟩ := bind_some H
    refine (ground_Ground_Reg_nil.calls 8 t516 _ ⟨Gl.pass (l := []) (rest := []) HGl0.out HS.out⟩ ⟨HS.out.begin (l := []) (rest := [])⟩ HA517).mono ?_
    rintro e_ w518 ⟨rfl, hS⟩
    replace HS : Aside0 (Sep (fps []) w [] w518) := ⟨HS.out.call (l := []) (rest := []) hS⟩
    clear hS
    go_wp2_with fail
    obtain ⟨t519, HA520, H⟩ := bind_some H
    refine (ground_Ground_SetWord_nil.calls a5 6 ((t516) % 4294967296) t519 _ ⟨Gl.pass (l := []) (rest := []) HGl0.out HS.out⟩ ⟨HS.out.begin (l := []) (rest := [])⟩ HA520).mono ?_
    rintro e_ w521 ⟨rfl, hS⟩
    replace HS : Aside0 (Sep (fps []) w [] w521) := ⟨HS.out.call (l := []) (rest := []) hS⟩
    clear hS
    go_wp2_with fail
    obtain ⟨t522, HA523, H⟩ := bind_some H
    refine (ground_Ground_SetWord_nil.calls a5 7 0 t522 _ ⟨Gl.pass (l := []) (rest := []) HGl0.out HS.out⟩ ⟨HS.out.begin (l := []) (rest := [])⟩ HA523).mono ?_
    rintro e_ w524 ⟨rfl, hS⟩
    replace HS : Aside0 (Sep (fps []) w [] w524) := ⟨HS.out.call (l := []) (rest := []) hS⟩
    clear hS
    go_wp2_with fail
    obtain ⟨t554, HA555, H⟩ := bind_some H
    refine (ring_link_nil.calls t516 7 7 (wrap64 (a5 + 1)) t554 _ ⟨Gl.pass (l := []) (rest := []) HGl0.out HS.out⟩ ⟨HS.out.begin (l := []) (rest := [])⟩ HA555).mono ?_
    rintro e_ w556 ⟨rfl, hS⟩
    replace HS : Aside0 (Sep (fps []) w [] w556) := ⟨HS.out.call (l := []) (rest := []) hS⟩
    clear hS
    go_wp2_with fail
    obtain ⟨t557, HA558, H⟩ := bind_some H
    refine (ground_Ground_SetReg_nil.calls 8 (wrap64 (a5 + 1)) t557 _ ⟨Gl.pass (l := []) (rest := []) HGl0.out HS.out⟩ ⟨HS.out.begin (l := []) (rest := [])⟩ HA558).mono ?_
    rintro e_ w559 ⟨rfl, hS⟩
    replace HS : Aside0 (Sep (fps []) w [] w559) := ⟨HS.out.call (l := []) (rest := []) hS⟩
    clear hS
    go_wp2_with fail
    obtain ⟨t560, HA561, H⟩ := bind_some H
    refine (ground_Ground_Reg_nil.calls 9 t560 _ ⟨Gl.pass (l := []) (rest := []) HGl0.out HS.out⟩ ⟨HS.out.begin (l := []) (rest := [])⟩ HA561).mono ?_
    rintro e_ w562 ⟨rfl, hS⟩
    replace HS : Aside0 (Sep (fps []) w [] w562) := ⟨HS.out.call (l := []) (rest := []) hS⟩
    clear hS
    go_wp2_with fail
    obtain ⟨t563, HA564, H⟩ := bind_some H
    refine (ground_Ground_SetReg_nil.calls 9 (wrap64 (t560 + 1)) t563 _ ⟨Gl.pass (l := []) (rest := []) HGl0.out HS.out⟩ ⟨HS.out.begin (l := []) (rest := [])⟩ HA564).mono ?_
    rintro e_ w565 ⟨rfl, hS⟩
    replace HS : Aside0 (Sep (fps []) w [] w565) := ⟨HS.out.call (l := []) (rest := []) hS⟩
    clear hS
    go_wp2_with fail
    go_ret
    rw [← some_eq H]
    exact ⟨(by first | rfl | (simp [IntKind.wrap_u32]; done)), (HS.out).keep (l := []) (rest := [])⟩
  · have H := if_no c54 H
    have c54b0 : t33.2.2.2.2.2.2.2 = false := by simpa using c54
    have c54b1 : (!t33.2.2.2.2.2.2.2) = true := by rw [c54b0]; rfl
    try rw [c54b1]
    clear c54
    go_wp2_with (first | ((with_reducible refine gate_dst (N := 5) rfl ?_); refine box_on ?hg (N := 5) ?hd (cs := #[.int .i64 0, .int .i64 0, .int .i64 0, .int .i64 0, .int .i64 0, .int .i64 0, .int .i64 0]) (t := 32) ?hr ?_; (case hd => rfl); (case hg => rfl); (case hr => first | (go_simp; done) | (go_simp; rfl)); intro g36 hg w37 hbox hb; replace HS : Aside0 (Sep (fps []) w [b1 g36 0 0 0 0 0 0 0] w37) := ⟨HS.out.box hg hbox hb⟩; clear hg hbox hb; have hc39 : w37.cell? ⟨g36, 0, none⟩ = some (.int .i64 0) := blk_cellv (HS.out.at0) 0 rfl; have hz40 : w37.frozen? ⟨g36, 0, none⟩ = false := blk_fz (HS.out.at0) 0; have hc41 : w37.cell? ⟨g36, 1, none⟩ = some (.int .i64 0) := blk_cellv (HS.out.at0) 1 rfl; have hz42 : w37.frozen? ⟨g36, 1, none⟩ = false := blk_fz (HS.out.at0) 1; have hc43 : w37.cell? ⟨g36, 2, none⟩ = some (.int .i64 0) := blk_cellv (HS.out.at0) 2 rfl; have hz44 : w37.frozen? ⟨g36, 2, none⟩ = false := blk_fz (HS.out.at0) 2; have hc45 : w37.cell? ⟨g36, 3, none⟩ = some (.int .i64 0) := blk_cellv (HS.out.at0) 3 rfl; have hz46 : w37.frozen? ⟨g36, 3, none⟩ = false := blk_fz (HS.out.at0) 3; have hc47 : w37.cell? ⟨g36, 4, none⟩ = some (.int .i64 0) := blk_cellv (HS.out.at0) 4 rfl; have hz48 : w37.frozen? ⟨g36, 4, none⟩ = false := blk_fz (HS.out.at0) 4; have hc49 : w37.cell? ⟨g36, 5, none⟩ = some (.int .i64 0) := blk_cellv (HS.out.at0) 5 rfl; have hz50 : w37.frozen? ⟨g36, 5, none⟩ = false := blk_fz (HS.out.at0) 5; have hc51 : w37.cell? ⟨g36, 6, none⟩ = some (.int .i64 0) := blk_cellv (HS.out.at0) 6 rfl; have hz52 : w37.frozen? ⟨g36, 6, none⟩ = false := blk_fz (HS.out.at0) 6) | ((with_reducible refine gate_store (t := 32) (p := 5) rfl ?_); refine store_event (w1 := (World.setCell (World.setCell (World.setCell (World.setCell (World.setCell (World.setCell (World.setCell w37 ⟨g36, 0, none⟩ (.int .i64 t33.1)) ⟨g36, 1, none⟩ (.int .i64 t33.2.1)) ⟨g36, 2, none⟩ (.int .i64 t33.2.2.1)) ⟨g36, 3, none⟩ (.int .i64 t33.2.2.2.1)) ⟨g36, 4, none⟩ (.int .i64 t33.2.2.2.2.1)) ⟨g36, 5, none⟩ (.int .i64 t33.2.2.2.2.2.1)) ⟨g36, 6, none⟩ (.int .i64 t33.2.2.2.2.2.2.1))) rfl (t := 32) (p := 5) rfl rfl ?hr ?_; (case hr => first | (go_simp; done) | (go_simp; rfl)); intro w53 hst; clear hc39 hz40 hc41 hz42 hc43 hz44 hc45 hz46 hc47 hz48 hc49 hz50 hc51 hz52; replace HS : Aside0 (Sep (fps []) w [b1 g36 t33.1 t33.2.1 t33.2.2.1 t33.2.2.2.1 t33.2.2.2.2.1 t33.2.2.2.2.2.1 t33.2.2.2.2.2.2.1] w53) := ⟨by rw [hst]; exact HS.out.setAll (l1 := []) (l2 := []) [.int .i64 t33.1, .int .i64 t33.2.1, .int .i64 t33.2.2.1, .int .i64 t33.2.2.2.1, .int .i64 t33.2.2.2.2.1, .int .i64 t33.2.2.2.2.2.1, .int .i64 t33.2.2.2.2.2.2.1] rfl⟩; clear hst; replace HS : Aside0 (Sep (fps []) w [] w53) := ⟨HS.out.sub (.cons _ .slnil)⟩))
    go_ret
    rw [← some_eq H]
    exact ⟨(by first | rfl | (simp [IntKind.wrap_u32]; done)), (HS.out).keep (l := []) (rest := [])⟩

set_option maxHeartbeats 30000000 in
set_option maxRecDepth 100000 in
theorem ground_Ground_Word_nil.calls (a603 : Int) (a604 : Int) (r : Int) (w : World)  (HGl0 : Aside0 (Gl 0 #[.int .i64 0, .int .i64 0, .int .i64 0, .int .i64 0, .int .i64 0] (fps []) w)) (HS : Aside0 (Sep (fps []) w [] w)) (H : Aside0 (ground_Ground_Word_nil.f a603 a604 = some r)) :
    Calls Tryd.prog 84 #[.pointer none, .int .i64 a603, .int .i64 a604] w fun e w' => e = .returned (.int .u32 r) ∧ Sep (fps []) w [] w' := by
  unfold ground_Ground_Word_nil.f at H
  go_enter Tryd.func84, Tryd.ntmps84
  go_wp2_with fail
  obtain ⟨t605, HA606, H⟩ := bind_some H
  refine (ground_Ground_all_nil.calls t605 _ ⟨Gl.pass (l := []) (rest := []) HGl0.out HS.out⟩ ⟨HS.out.begin (l := []) (rest := [])⟩ HA606).mono ?_
  rintro e_ w607 ⟨rfl, hS⟩
  replace HS : Aside0 (Sep (fps []) w [] w607) := ⟨HS.out.call (l := []) (rest := []) hS⟩
  clear hS
  go_wp2_with fail
  obtain ⟨t608, HA609, H⟩ := bind_some H
  refine (ground_Ground_word_nil.calls a603 a604 t608 _ ⟨Gl.pass (l := []) (rest := []) HGl0.out HS.out⟩ ⟨HS.out.begin (l := []) (rest := [])⟩ HA609).mono ?_
  rintro e_ w610 ⟨rfl, hS⟩
  replace HS : Aside0 (Sep (fps []) w [] w610) := ⟨HS.out.call (l := []) (rest := []) hS⟩
  clear hS
  go_wp2_with fail
  obtain ⟨t611, HA612, H⟩ := bind_some H
  refine (store_Store_Get_nil.calls t608 t611 _ ⟨Gl.pass (l := []) (rest := []) HGl0.out HS.out⟩ ⟨HS.out.begin (l := []) (rest := [])⟩ HA612).mono ?_
  rintro e_ w613 ⟨rfl, hS⟩
  replace HS : Aside0 (Sep (fps []) w [] w613) := ⟨HS.out.call (l := []) (rest := []) hS⟩
  clear hS
  go_wp2_with fail
  go_ret
  rw [← some_eq H]
  exact ⟨(by first | rfl | (simp [IntKind.wrap_u32]; done)), (HS.out).keep (l := []) (rest := [])⟩

set_option maxHeartbeats 30000000 in
set_option maxRecDepth 100000 in
theorem ring_Cut_nil.calls (k : Nat) (a570 : Int) (r : Bool) (w : World)  (HGl0 : Aside0 (Gl 0 #[.int .i64 0, .int .i64 0, .int .i64 0, .int .i64 0, .int .i64 0] (fps []) w)) (HS : Aside0 (Sep (fps []) w [] w)) (H : Aside0 (ring_Cut_nil.f k a570 = some r)) :
    Calls Tryd.prog 24 #[.pointer none, .int .i64 a570] w fun e w' => e = .returned (.bool r) ∧ Sep (fps []) w [] w' := by
  unfold ring_Cut_nil.f at H
  go_enter Tryd.func24, Tryd.ntmps24
  go_wp2_with fail
  obtain ⟨t571, HA572, H⟩ := bind_some H
  refine (ring_marked_nil.calls a570 1 t571 _ ⟨Gl.pass (l := []) (rest := []) HGl0.out HS.out⟩ ⟨HS.out.begin (l := []) (rest := [])⟩ HA572).mono ?_
  rintro e_ w573 ⟨rfl, hS⟩
  replace HS : Aside0 (Sep (fps []) w [] w573) := ⟨HS.out.call (l := []) (rest := []) hS⟩
  clear hS
  by_cases c592 : t571.2.2.2.2.2.2.2 = true
  · have H := if_yes c592 H
    have c592b0 : t571.2.2.2.2.2.2.2 = true := c592
    have c592b1 : (!t571.2.2.2.2.2.2.2) = false := by rw [c592b0]; rfl
    try rw [c592b1]
    clear c592
    go_wp2_with (first | ((with_reducible refine gate_dst (N := 5) rfl ?_); refine box_on ?hg (N := 5) ?hd (cs := #[.int .i64 0, .int .i64 0, .int .i64 0, .int .i64 0, .int .i64 0, .int .i64 0, .int .i64 0]) (t := 32) ?hr ?_; (case hd => rfl); (case hg => rfl); (case hr => first | (go_simp; done) | (go_simp; rfl)); intro g574 hg w575 hbox hb; replace HS : Aside0 (Sep (fps []) w [b1 g574 0 0 0 0 0 0 0] w575) := ⟨HS.out.box hg hbox hb⟩; clear hg hbox hb; have hc577 : w575.cell? ⟨g574, 0, none⟩ = some (.int .i64 0) := blk_cellv (HS.out.at0) 0 rfl; have hz578 : w575.frozen? ⟨g574, 0, none⟩ = false := blk_fz (HS.out.at0) 0; have hc579 : w575.cell? ⟨g574, 1, none⟩ = some (.int .i64 0) := blk_cellv (HS.out.at0) 1 rfl; have hz580 : w575.frozen? ⟨g574, 1, none⟩ = false := blk_fz (HS.out.at0) 1; have hc581 : w575.cell? ⟨g574, 2, none⟩ = some (.int .i64 0) := blk_cellv (HS.out.at0) 2 rfl; have hz582 : w575.frozen? ⟨g574, 2, none⟩ = false := blk_fz (HS.out.at0) 2; have hc583 : w575.cell? ⟨g574, 3, none⟩ = some (.int .i64 0) := blk_cellv (HS.out.at0) 3 rfl; have hz584 : w575.frozen? ⟨g574, 3, none⟩ = false := blk_fz (HS.out.at0) 3; have hc585 : w575.cell? ⟨g574, 4, none⟩ = some (.int .i64 0) := blk_cellv (HS.out.at0) 4 rfl; have hz586 : w575.frozen? ⟨g574, 4, none⟩ = false := blk_fz (HS.out.at0) 4; have hc587 : w575.cell? ⟨g574, 5, none⟩ = some (.int .i64 0) := blk_cellv (HS.out.at0) 5 rfl; have hz588 : w575.frozen? ⟨g574, 5, none⟩ = false := blk_fz (HS.out.at0) 5; have hc589 : w575.cell? ⟨g574, 6, none⟩ = some (.int .i64 0) := blk_cellv (HS.out.at0) 6 rfl; have hz590 : w575.frozen? ⟨g574, 6, none⟩ = false := blk_fz (HS.out.at0) 6) | ((with_reducible refine gate_store (t := 32) (p := 5) rfl ?_); refine store_event (w1 := (World.setCell (World.setCell (World.setCell (World.setCell (World.setCell (World.setCell (World.setCell w575 ⟨g574, 0, none⟩ (.int .i64 t571.1)) ⟨g574, 1, none⟩ (.int .i64 t571.2.1)) ⟨g574, 2, none⟩ (.int .i64 t571.2.2.1)) ⟨g574, 3, none⟩ (.int .i64 t571.2.2.2.1)) ⟨g574, 4, none⟩ (.int .i64 t571.2.2.2.2.1)) ⟨g574, 5, none⟩ (.int .i64 t571.2.2.2.2.2.1)) ⟨g574, 6, none⟩ (.int .i64 t571.2.2.2.2.2.2.1))) rfl (t := 32) (p := 5) rfl rfl ?hr ?_; (case hr => first | (go_simp; done) | (go_simp; rfl)); intro w591 hst; clear hc577 hz578 hc579 hz580 hc581 hz582 hc583 hz584 hc585 hz586 hc587 hz588 hc589 hz590; replace HS : Aside0 (Sep (fps []) w [b1 g574 t571.1 t571.2.1 t571.2.2.1 t571.2.2.2.1 t571.2.2.2.2.1 t571.2.2.2.2.2.1 t571.2.2.2.2.2.2.1] w591) := ⟨by rw [hst]; exact HS.out.setAll (l1 := []) (l2 := []) [.int .i64 t571.1, .int .i64 t571.2.1, .int .i64 t571.2.2.1, .int .i64 t571.2.2.2.1, .int .i64 t571.2.2.2.2.1, .int .i64 t571.2.2.2.2.2.1, .int .i64 t571.2.2.2.2.2.2.1] rfl⟩; clear hst; have hc593 : w591.cell? ⟨g574, 0, none⟩ = some (.int .i64 t571.1) := blk_cellv (HS.out.at0) 0 rfl; have hc594 : w591.cell? ⟨g574, 1, none⟩ = some (.int .i64 t571.2.1) := blk_cellv (HS.out.at0) 1 rfl; have hc595 : w591.cell? ⟨g574, 2, none⟩ = some (.int .i64 t571.2.2.1) := blk_cellv (HS.out.at0) 2 rfl; have hc596 : w591.cell? ⟨g574, 3, none⟩ = some (.int .i64 t571.2.2.2.1) := blk_cellv (HS.out.at0) 3 rfl; have hc597 : w591.cell? ⟨g574, 4, none⟩ = some (.int .i64 t571.2.2.2.2.1) := blk_cellv (HS.out.at0) 4 rfl; have hc598 : w591.cell? ⟨g574, 5, none⟩ = some (.int .i64 t571.2.2.2.2.2.1) := blk_cellv (HS.out.at0) 5 rfl; have hc599 : w591.cell? ⟨g574, 6, none⟩ = some (.int .i64 t571.2.2.2.2.2.2.1) := blk_cellv (HS.out.at0) 6 rfl))
    clear hc593 hc594 hc595 hc596 hc597 hc598 hc599
    obtain ⟨t600, HA601, H⟩ := bind_some H
    refine (ring_mark_nil.calls _ a570 t571.1 t571.2.1 t571.2.2.1 t571.2.2.2.1 t571.2.2.2.2.1 t571.2.2.2.2.2.1 t571.2.2.2.2.2.2.1 0 t600 _ ⟨Gl.pass (l := []) (rest := [b1 g574 t571.1 t571.2.1 t571.2.2.1 t571.2.2.2.1 t571.2.2.2.2.1 t571.2.2.2.2.2.1 t571.2.2.2.2.2.2.1]) HGl0.out HS.out⟩ ⟨HS.out.begin (l := []) (rest := [b1 g574 t571.1 t571.2.1 t571.2.2.1 t571.2.2.2.1 t571.2.2.2.2.1 t571.2.2.2.2.2.1 t571.2.2.2.2.2.2.1])⟩ HA601).mono ?_
    rintro e_ w602 ⟨rfl, hS⟩
    replace HS : Aside0 (Sep (fps []) w [b1 g574 t571.1 t571.2.1 t571.2.2.1 t571.2.2.2.1 t571.2.2.2.2.1 t571.2.2.2.2.2.1 t571.2.2.2.2.2.2.1] w602) := ⟨HS.out.call (l := []) (rest := [b1 g574 t571.1 t571.2.1 t571.2.2.1 t571.2.2.2.1 t571.2.2.2.2.1 t571.2.2.2.2.2.1 t571.2.2.2.2.2.2.1]) hS⟩
    clear hS
    replace HS : Aside0 (Sep (fps []) w [] w602) := ⟨HS.out.sub (.cons _ .slnil)⟩
    go_wp2_with fail
    obtain ⟨t614, HA615, H⟩ := bind_some H
    refine (ground_Ground_Word_nil.calls a570 6 t614 _ ⟨Gl.pass (l := []) (rest := []) HGl0.out HS.out⟩ ⟨HS.out.begin (l := []) (rest := [])⟩ HA615).mono ?_
    rintro e_ w616 ⟨rfl, hS⟩
    replace HS : Aside0 (Sep (fps []) w [] w616) := ⟨HS.out.call (l := []) (rest := []) hS⟩
    clear hS
    go_wp2_with fail
    obtain ⟨t617, HA618, H⟩ := bind_some H
    refine (ground_Ground_Word_nil.calls a570 7 t617 _ ⟨Gl.pass (l := []) (rest := []) HGl0.out HS.out⟩ ⟨HS.out.begin (l := []) (rest := [])⟩ HA618).mono ?_
    rintro e_ w619 ⟨rfl, hS⟩
    replace HS : Aside0 (Sep (fps []) w [] w619) := ⟨HS.out.call (l := []) (rest := []) hS⟩
    clear hS
    go_wp2_with fail
    obtain ⟨t620, HA621, H⟩ := bind_some H
    refine (ring_link_nil.calls (wrap64 (t614)) 7 7 (wrap64 (t617)) t620 _ ⟨Gl.pass (l := []) (rest := []) HGl0.out HS.out⟩ ⟨HS.out.begin (l := []) (rest := [])⟩ HA621).mono ?_
    rintro e_ w622 ⟨rfl, hS⟩
    replace HS : Aside0 (Sep (fps []) w [] w622) := ⟨HS.out.call (l := []) (rest := []) hS⟩
    clear hS
    go_wp2_with fail
    obtain ⟨t623, HA624, H⟩ := bind_some H
    refine (ring_link_nil.calls (wrap64 (t617)) 6 8 (wrap64 (t614)) t623 _ ⟨Gl.pass (l := []) (rest := []) HGl0.out HS.out⟩ ⟨HS.out.begin (l := []) (rest := [])⟩ HA624).mono ?_
    rintro e_ w625 ⟨rfl, hS⟩
    replace HS : Aside0 (Sep (fps []) w [] w625) := ⟨HS.out.call (l := []) (rest := []) hS⟩
    clear hS
    go_wp2_with fail
    obtain ⟨t626, HA627, H⟩ := bind_some H
    refine (ground_Ground_SetWord_nil.calls a570 6 0 t626 _ ⟨Gl.pass (l := []) (rest := []) HGl0.out HS.out⟩ ⟨HS.out.begin (l := []) (rest := [])⟩ HA627).mono ?_
    rintro e_ w628 ⟨rfl, hS⟩
    replace HS : Aside0 (Sep (fps []) w [] w628) := ⟨HS.out.call (l := []) (rest := []) hS⟩
    clear hS
    go_wp2_with fail
    obtain ⟨t629, HA630, H⟩ := bind_some H
    refine (ground_Ground_SetWord_nil.calls a570 7 0 t629 _ ⟨Gl.pass (l := []) (rest := []) HGl0.out HS.out⟩ ⟨HS.out.begin (l := []) (rest := [])⟩ HA630).mono ?_
    rintro e_ w631 ⟨rfl, hS⟩
    replace HS : Aside0 (Sep (fps []) w [] w631) := ⟨HS.out.call (l := []) (rest := []) hS⟩
    clear hS
    go_wp2_with fail
    obtain ⟨t632, HA633, H⟩ := bind_some H
    refine (ground_Ground_Reg_nil.calls 9 t632 _ ⟨Gl.pass (l := []) (rest := []) HGl0.out HS.out⟩ ⟨HS.out.begin (l := []) (rest := [])⟩ HA633).mono ?_
    rintro e_ w634 ⟨rfl, hS⟩
    replace HS : Aside0 (Sep (fps []) w [] w634) := ⟨HS.out.call (l := []) (rest := []) hS⟩
    clear hS
    go_wp2_with fail
    obtain ⟨t635, HA636, H⟩ := bind_some H
    refine (ground_Ground_SetReg_nil.calls 9 (wrap64 (t632 - 1)) t635 _ ⟨Gl.pass (l := []) (rest := []) HGl0.out HS.out⟩ ⟨HS.out.begin (l := []) (rest := [])⟩ HA636).mono ?_
    rintro e_ w637 ⟨rfl, hS⟩
    replace HS : Aside0 (Sep (fps []) w [] w637) := ⟨HS.out.call (l := []) (rest := []) hS⟩
    clear hS
    go_wp2_with fail
    go_ret
    rw [← some_eq H]
    exact ⟨(by first | rfl | (simp [IntKind.wrap_u32]; done)), (HS.out).keep (l := []) (rest := [])⟩
  · have H := if_no c592 H
    have c592b0 : t571.2.2.2.2.2.2.2 = false := by simpa using c592
    have c592b1 : (!t571.2.2.2.2.2.2.2) = true := by rw [c592b0]; rfl
    try rw [c592b1]
    clear c592
    go_wp2_with (first | ((with_reducible refine gate_dst (N := 5) rfl ?_); refine box_on ?hg (N := 5) ?hd (cs := #[.int .i64 0, .int .i64 0, .int .i64 0, .int .i64 0, .int .i64 0, .int .i64 0, .int .i64 0]) (t := 32) ?hr ?_; (case hd => rfl); (case hg => rfl); (case hr => first | (go_simp; done) | (go_simp; rfl)); intro g574 hg w575 hbox hb; replace HS : Aside0 (Sep (fps []) w [b1 g574 0 0 0 0 0 0 0] w575) := ⟨HS.out.box hg hbox hb⟩; clear hg hbox hb; have hc577 : w575.cell? ⟨g574, 0, none⟩ = some (.int .i64 0) := blk_cellv (HS.out.at0) 0 rfl; have hz578 : w575.frozen? ⟨g574, 0, none⟩ = false := blk_fz (HS.out.at0) 0; have hc579 : w575.cell? ⟨g574, 1, none⟩ = some (.int .i64 0) := blk_cellv (HS.out.at0) 1 rfl; have hz580 : w575.frozen? ⟨g574, 1, none⟩ = false := blk_fz (HS.out.at0) 1; have hc581 : w575.cell? ⟨g574, 2, none⟩ = some (.int .i64 0) := blk_cellv (HS.out.at0) 2 rfl; have hz582 : w575.frozen? ⟨g574, 2, none⟩ = false := blk_fz (HS.out.at0) 2; have hc583 : w575.cell? ⟨g574, 3, none⟩ = some (.int .i64 0) := blk_cellv (HS.out.at0) 3 rfl; have hz584 : w575.frozen? ⟨g574, 3, none⟩ = false := blk_fz (HS.out.at0) 3; have hc585 : w575.cell? ⟨g574, 4, none⟩ = some (.int .i64 0) := blk_cellv (HS.out.at0) 4 rfl; have hz586 : w575.frozen? ⟨g574, 4, none⟩ = false := blk_fz (HS.out.at0) 4; have hc587 : w575.cell? ⟨g574, 5, none⟩ = some (.int .i64 0) := blk_cellv (HS.out.at0) 5 rfl; have hz588 : w575.frozen? ⟨g574, 5, none⟩ = false := blk_fz (HS.out.at0) 5; have hc589 : w575.cell? ⟨g574, 6, none⟩ = some (.int .i64 0) := blk_cellv (HS.out.at0) 6 rfl; have hz590 : w575.frozen? ⟨g574, 6, none⟩ = false := blk_fz (HS.out.at0) 6) | ((with_reducible refine gate_store (t := 32) (p := 5) rfl ?_); refine store_event (w1 := (World.setCell (World.setCell (World.setCell (World.setCell (World.setCell (World.setCell (World.setCell w575 ⟨g574, 0, none⟩ (.int .i64 t571.1)) ⟨g574, 1, none⟩ (.int .i64 t571.2.1)) ⟨g574, 2, none⟩ (.int .i64 t571.2.2.1)) ⟨g574, 3, none⟩ (.int .i64 t571.2.2.2.1)) ⟨g574, 4, none⟩ (.int .i64 t571.2.2.2.2.1)) ⟨g574, 5, none⟩ (.int .i64 t571.2.2.2.2.2.1)) ⟨g574, 6, none⟩ (.int .i64 t571.2.2.2.2.2.2.1))) rfl (t := 32) (p := 5) rfl rfl ?hr ?_; (case hr => first | (go_simp; done) | (go_simp; rfl)); intro w591 hst; clear hc577 hz578 hc579 hz580 hc581 hz582 hc583 hz584 hc585 hz586 hc587 hz588 hc589 hz590; replace HS : Aside0 (Sep (fps []) w [b1 g574 t571.1 t571.2.1 t571.2.2.1 t571.2.2.2.1 t571.2.2.2.2.1 t571.2.2.2.2.2.1 t571.2.2.2.2.2.2.1] w591) := ⟨by rw [hst]; exact HS.out.setAll (l1 := []) (l2 := []) [.int .i64 t571.1, .int .i64 t571.2.1, .int .i64 t571.2.2.1, .int .i64 t571.2.2.2.1, .int .i64 t571.2.2.2.2.1, .int .i64 t571.2.2.2.2.2.1, .int .i64 t571.2.2.2.2.2.2.1] rfl⟩; clear hst; replace HS : Aside0 (Sep (fps []) w [] w591) := ⟨HS.out.sub (.cons _ .slnil)⟩))
    go_ret
    rw [← some_eq H]
    exact ⟨(by first | rfl | (simp [IntKind.wrap_u32]; done)), (HS.out).keep (l := []) (rest := [])⟩

set_option maxHeartbeats 30000000 in
set_option maxRecDepth 100000 in
theorem ring_Len_nil.calls  (r : Int) (w : World)  (HGl0 : Aside0 (Gl 0 #[.int .i64 0, .int .i64 0, .int .i64 0, .int .i64 0, .int .i64 0] (fps []) w)) (HS : Aside0 (Sep (fps []) w [] w)) (H : Aside0 (ring_Len_nil.f = some r)) :
    Calls Tryd.prog 26 #[.pointer none] w fun e w' => e = .returned (.int .i64 r) ∧ Sep (fps []) w [] w' := by
  unfold ring_Len_nil.f at H
  go_enter Tryd.func26, Tryd.ntmps26
  go_wp2_with fail
  go_ret
  rw [← some_eq H]
  exact ⟨(by first | rfl | (simp [IntKind.wrap_u32]; done)), (HS.out).keep (l := []) (rest := [])⟩

set_option maxHeartbeats 30000000 in
set_option maxRecDepth 100000 in
theorem ring_Has_nil.calls (a648 : Int) (r : Bool) (w : World)  (HGl0 : Aside0 (Gl 0 #[.int .i64 0, .int .i64 0, .int .i64 0, .int .i64 0, .int .i64 0] (fps []) w)) (HS : Aside0 (Sep (fps []) w [] w)) (H : Aside0 (ring_Has_nil.f a648 = some r)) :
    Calls Tryd.prog 27 #[.pointer none, .int .i64 a648] w fun e w' => e = .returned (.bool r) ∧ Sep (fps []) w [] w' := by
  unfold ring_Has_nil.f at H
  go_enter Tryd.func27, Tryd.ntmps27
  go_wp2_with fail
  obtain ⟨t649, HA650, H⟩ := bind_some H
  refine (ring_marked_nil.calls a648 1 t649 _ ⟨Gl.pass (l := []) (rest := []) HGl0.out HS.out⟩ ⟨HS.out.begin (l := []) (rest := [])⟩ HA650).mono ?_
  rintro e_ w651 ⟨rfl, hS⟩
  replace HS : Aside0 (Sep (fps []) w [] w651) := ⟨HS.out.call (l := []) (rest := []) hS⟩
  clear hS
  go_wp2_with (first | ((with_reducible refine gate_dst (N := 5) rfl ?_); refine box_on ?hg (N := 5) ?hd (cs := #[.int .i64 0, .int .i64 0, .int .i64 0, .int .i64 0, .int .i64 0, .int .i64 0, .int .i64 0]) (t := 32) ?hr ?_; (case hd => rfl); (case hg => rfl); (case hr => first | (go_simp; done) | (go_simp; rfl)); intro g652 hg w653 hbox hb; replace HS : Aside0 (Sep (fps []) w [b1 g652 0 0 0 0 0 0 0] w653) := ⟨HS.out.box hg hbox hb⟩; clear hg hbox hb; have hc655 : w653.cell? ⟨g652, 0, none⟩ = some (.int .i64 0) := blk_cellv (HS.out.at0) 0 rfl; have hz656 : w653.frozen? ⟨g652, 0, none⟩ = false := blk_fz (HS.out.at0) 0; have hc657 : w653.cell? ⟨g652, 1, none⟩ = some (.int .i64 0) := blk_cellv (HS.out.at0) 1 rfl; have hz658 : w653.frozen? ⟨g652, 1, none⟩ = false := blk_fz (HS.out.at0) 1; have hc659 : w653.cell? ⟨g652, 2, none⟩ = some (.int .i64 0) := blk_cellv (HS.out.at0) 2 rfl; have hz660 : w653.frozen? ⟨g652, 2, none⟩ = false := blk_fz (HS.out.at0) 2; have hc661 : w653.cell? ⟨g652, 3, none⟩ = some (.int .i64 0) := blk_cellv (HS.out.at0) 3 rfl; have hz662 : w653.frozen? ⟨g652, 3, none⟩ = false := blk_fz (HS.out.at0) 3; have hc663 : w653.cell? ⟨g652, 4, none⟩ = some (.int .i64 0) := blk_cellv (HS.out.at0) 4 rfl; have hz664 : w653.frozen? ⟨g652, 4, none⟩ = false := blk_fz (HS.out.at0) 4; have hc665 : w653.cell? ⟨g652, 5, none⟩ = some (.int .i64 0) := blk_cellv (HS.out.at0) 5 rfl; have hz666 : w653.frozen? ⟨g652, 5, none⟩ = false := blk_fz (HS.out.at0) 5; have hc667 : w653.cell? ⟨g652, 6, none⟩ = some (.int .i64 0) := blk_cellv (HS.out.at0) 6 rfl; have hz668 : w653.frozen? ⟨g652, 6, none⟩ = false := blk_fz (HS.out.at0) 6) | ((with_reducible refine gate_store (t := 32) (p := 5) rfl ?_); refine store_event (w1 := (World.setCell (World.setCell (World.setCell (World.setCell (World.setCell (World.setCell (World.setCell w653 ⟨g652, 0, none⟩ (.int .i64 t649.1)) ⟨g652, 1, none⟩ (.int .i64 t649.2.1)) ⟨g652, 2, none⟩ (.int .i64 t649.2.2.1)) ⟨g652, 3, none⟩ (.int .i64 t649.2.2.2.1)) ⟨g652, 4, none⟩ (.int .i64 t649.2.2.2.2.1)) ⟨g652, 5, none⟩ (.int .i64 t649.2.2.2.2.2.1)) ⟨g652, 6, none⟩ (.int .i64 t649.2.2.2.2.2.2.1))) rfl (t := 32) (p := 5) rfl rfl ?hr ?_; (case hr => first | (go_simp; done) | (go_simp; rfl)); intro w669 hst; clear hc655 hz656 hc657 hz658 hc659 hz660 hc661 hz662 hc663 hz664 hc665 hz666 hc667 hz668; replace HS : Aside0 (Sep (fps []) w [b1 g652 t649.1 t649.2.1 t649.2.2.1 t649.2.2.2.1 t649.2.2.2.2.1 t649.2.2.2.2.2.1 t649.2.2.2.2.2.2.1] w669) := ⟨by rw [hst]; exact HS.out.setAll (l1 := []) (l2 := []) [.int .i64 t649.1, .int .i64 t649.2.1, .int .i64 t649.2.2.1, .int .i64 t649.2.2.2.1, .int .i64 t649.2.2.2.2.1, .int .i64 t649.2.2.2.2.2.1, .int .i64 t649.2.2.2.2.2.2.1] rfl⟩; clear hst; replace HS : Aside0 (Sep (fps []) w [] w669) := ⟨HS.out.sub (.cons _ .slnil)⟩))
  go_ret
  rw [← some_eq H]
  exact ⟨(by first | rfl | (simp [IntKind.wrap_u32]; done)), (HS.out).keep (l := []) (rest := [])⟩

set_option maxHeartbeats 30000000 in
set_option maxRecDepth 100000 in
theorem ring_List_nil.calls  (r : List Int) (w : World)  (HGl0 : Aside0 (Gl 0 #[.int .i64 0, .int .i64 0, .int .i64 0, .int .i64 0, .int .i64 0] (fps []) w)) (HS : Aside0 (Sep (fps []) w [] w)) (H : Aside0 (ring_List_nil.f = some r)) :
    Calls Tryd.prog 28 #[.pointer none] w fun e w' => ∃ (A682 : Option Addr) (m683 : Nat) (n684 : Nat), e = .returned (.slice A682 m683 n684) ∧ Sep (fps []) w [r8 A682 m683 n684 r] w' := by
  unfold ring_List_nil.f at H
  go_enter Tryd.func28, Tryd.ntmps28
  go_wp2_with fail
  replace HS : Aside0 (Sep (fps []) w [r8 none 0 0 []] w) := ⟨HS.out.nilrow 3 (Value.int .i64)⟩
  go_ret
  rw [← some_eq H]
  exact ⟨none, 0, 0, (by first | rfl | (simp [IntKind.wrap_u32]; done)), (HS.out).keep (l := [r8 none 0 0 []]) (rest := [])⟩

set_option maxHeartbeats 30000000 in
set_option maxRecDepth 100000 in
theorem ratio_Clamp.calls (a738 : Int) (a739 : Int) (a740 : Int) (r : Int) (w : World)  (HGl0 : Aside0 (Gl 0 #[.int .i64 0, .int .i64 0, .int .i64 0, .int .i64 0, .int .i64 0] (fps []) w)) (HS : Aside0 (Sep (fps []) w [] w)) (H : Aside0 (ratio_Clamp.f a738 a739 a740 = some r)) :
    Calls Tryd.prog 157 #[.int .i64 a738, .int .i64 a739, .int .i64 a740] w fun e w' => e = .returned (.int .i64 r) ∧ Sep (fps []) w [] w' := by
  unfold ratio_Clamp.f at H
  go_enter Tryd.func157, Tryd.ntmps157
  by_cases c741 : a738 > a740
  · have H := if_yes c741 H
    have c741b0 : decide (a740 < a738) = true := decide_eq_true c741
    clear c741
    go_wp2_with fail
    go_ret
    rw [← some_eq H]
    exact ⟨(by first | rfl | (simp [IntKind.wrap_u32]; done)), (HS.out).keep (l := []) (rest := [])⟩
  · have H := if_no c741 H
    have c741b0 : decide (a740 < a738) = false := decide_eq_false c741
    clear c741
    by_cases c742 : a738 < a739
    · have H := if_yes c742 H
      have c742b0 : decide (a738 < a739) = true := decide_eq_true c742
      skip
      go_wp2_with fail
      clear c742
      go_ret
      rw [← some_eq H]
      exact ⟨(by first | rfl | (simp [IntKind.wrap_u32]; done)), (HS.out).keep (l := []) (rest := [])⟩
    · have H := if_no c742 H
      have c742b0 : decide (a738 < a739) = false := decide_eq_false c742
      skip
      go_wp2_with fail
      clear c742
      go_ret
      rw [← some_eq H]
      exact ⟨(by first | rfl | (simp [IntKind.wrap_u32]; done)), (HS.out).keep (l := []) (rest := [])⟩

set_option maxHeartbeats 30000000 in
set_option maxRecDepth 100000 in
theorem plan_within.calls (a735 : Int) (a736 : Int) (a737 : Int) (r : Bool) (w : World)  (HGl0 : Aside0 (Gl 0 #[.int .i64 0, .int .i64 0, .int .i64 0, .int .i64 0, .int .i64 0] (fps []) w)) (HS : Aside0 (Sep (fps []) w [] w)) (H : Aside0 (plan_within.f a735 a736 a737 = some r)) :
    Calls Tryd.prog 147 #[.int .i64 a735, .int .i64 a736, .int .i64 a737] w fun e w' => e = .returned (.bool r) ∧ Sep (fps []) w [] w' := by
  unfold plan_within.f at H
  go_enter Tryd.func147, Tryd.ntmps147
  go_wp2_with fail
  obtain ⟨t743, HA744, H⟩ := bind_some H
  refine (ratio_Clamp.calls a735 a736 a737 t743 _ ⟨Gl.pass (l := []) (rest := []) HGl0.out HS.out⟩ ⟨HS.out.begin (l := []) (rest := [])⟩ HA744).mono ?_
  rintro e_ w745 ⟨rfl, hS⟩
  replace HS : Aside0 (Sep (fps []) w [] w745) := ⟨HS.out.call (l := []) (rest := []) hS⟩
  clear hS
  go_wp2_with fail
  go_ret
  rw [← some_eq H]
  exact ⟨(by first | rfl | (simp [IntKind.wrap_u32]; done)), (HS.out).keep (l := []) (rest := [])⟩

set_option maxHeartbeats 30000000 in
set_option maxRecDepth 100000 in
theorem plan_Check.calls (a727 : Int) (a728 : Int) (a729 : Int) (a730 : Int) (r : Int) (w : World)  (HGl0 : Aside0 (Gl 0 #[.int .i64 0, .int .i64 0, .int .i64 0, .int .i64 0, .int .i64 0] (fps []) w)) (HS : Aside0 (Sep (fps []) w [] w)) (H : Aside0 (plan_Check.f a727 a728 a729 a730 = some r)) :
    Calls Tryd.prog 121 #[.agg #[.int .i64 a727, .int .i64 a728, .int .i64 a729, .int .i64 a730]] w fun e w' => e = .returned (.int .i64 r) ∧ Sep (fps []) w [] w' := by
  unfold plan_Check.f at H
  go_enter Tryd.func121, Tryd.ntmps121
  go_wp2_with (first | ((with_reducible refine gate_dst (N := 1) rfl ?_); refine box_on ?hg (N := 1) ?hd (cs := #[.int .i64 a727, .int .i64 a728, .int .i64 a729, .int .i64 a730]) (t := 30) ?hr ?_; (case hd => rfl); (case hg => rfl); (case hr => first | (go_simp; done) | (go_simp; rfl)); intro g731 hg w732 hbox hb; replace HS : Aside0 (Sep (fps []) w [b7 g731 a727 a728 a729 a730] w732) := ⟨HS.out.box hg hbox hb⟩; clear hg hbox hb; have hc734 : w732.cell? ⟨g731, 0, none⟩ = some (.int .i64 a727) := blk_cellv (HS.out.at0) 0 rfl))
  clear hc734
  obtain ⟨t746, HA747, H⟩ := bind_some H
  refine (plan_within.calls a727 1 1048576 t746 _ ⟨Gl.pass (l := []) (rest := [b7 g731 a727 a728 a729 a730]) HGl0.out HS.out⟩ ⟨HS.out.begin (l := []) (rest := [b7 g731 a727 a728 a729 a730])⟩ HA747).mono ?_
  rintro e_ w748 ⟨rfl, hS⟩
  replace HS : Aside0 (Sep (fps []) w [b7 g731 a727 a728 a729 a730] w748) := ⟨HS.out.call (l := []) (rest := [b7 g731 a727 a728 a729 a730]) hS⟩
  clear hS
  by_cases c749 : t746 = true
  · have H := if_yes c749 H
    have c749b0 : t746 = true := c749
    have c749b1 : (!t746) = false := by rw [c749b0]; rfl
    clear c749
    have hc750 : w748.cell? ⟨g731, 1, none⟩ = some (.int .i64 a728) := blk_cellv (HS.out.at0) 1 rfl
    go_wp2_with fail
    clear hc750
    obtain ⟨t751, HA752, H⟩ := bind_some H
    refine (plan_within.calls a728 16 256 t751 _ ⟨Gl.pass (l := []) (rest := [b7 g731 a727 a728 a729 a730]) HGl0.out HS.out⟩ ⟨HS.out.begin (l := []) (rest := [b7 g731 a727 a728 a729 a730])⟩ HA752).mono ?_
    rintro e_ w753 ⟨rfl, hS⟩
    replace HS : Aside0 (Sep (fps []) w [b7 g731 a727 a728 a729 a730] w753) := ⟨HS.out.call (l := []) (rest := [b7 g731 a727 a728 a729 a730]) hS⟩
    clear hS
    by_cases c754 : t751 = true
    · have H := if_yes c754 H
      have c754b0 : t751 = true := c754
      have c754b1 : (!t751) = false := by rw [c754b0]; rfl
      clear c754
      have hc755 : w753.cell? ⟨g731, 2, none⟩ = some (.int .i64 a729) := blk_cellv (HS.out.at0) 2 rfl
      go_wp2_with fail
      clear hc755
      obtain ⟨t756, HA757, H⟩ := bind_some H
      refine (plan_within.calls a729 1 4096 t756 _ ⟨Gl.pass (l := []) (rest := [b7 g731 a727 a728 a729 a730]) HGl0.out HS.out⟩ ⟨HS.out.begin (l := []) (rest := [b7 g731 a727 a728 a729 a730])⟩ HA757).mono ?_
      rintro e_ w758 ⟨rfl, hS⟩
      replace HS : Aside0 (Sep (fps []) w [b7 g731 a727 a728 a729 a730] w758) := ⟨HS.out.call (l := []) (rest := [b7 g731 a727 a728 a729 a730]) hS⟩
      clear hS
      by_cases c759 : t756 = true
      · have H := if_yes c759 H
        have c759b0 : t756 = true := c759
        have c759b1 : (!t756) = false := by rw [c759b0]; rfl
        clear c759
        have hc760 : w758.cell? ⟨g731, 3, none⟩ = some (.int .i64 a730) := blk_cellv (HS.out.at0) 3 rfl
        go_wp2_with fail
        clear hc760
        obtain ⟨t761, HA762, H⟩ := bind_some H
        refine (plan_within.calls a730 1 65536 t761 _ ⟨Gl.pass (l := []) (rest := [b7 g731 a727 a728 a729 a730]) HGl0.out HS.out⟩ ⟨HS.out.begin (l := []) (rest := [b7 g731 a727 a728 a729 a730])⟩ HA762).mono ?_
        rintro e_ w763 ⟨rfl, hS⟩
        replace HS : Aside0 (Sep (fps []) w [b7 g731 a727 a728 a729 a730] w763) := ⟨HS.out.call (l := []) (rest := [b7 g731 a727 a728 a729 a730]) hS⟩
        clear hS
        by_cases c764 : t761 = true
        · have H := if_yes c764 H
          have c764b0 : t761 = true := c764
          have c764b1 : (!t761) = false := by rw [c764b0]; rfl
          clear c764
          by_cases c767 : (wrap64 (a727 * a728)) ≤ 4194304
          · have H := if_yes c767 H
            have c767b0 : decide ((wrap64 (a727 * a728)) ≤ 4194304) = true := decide_eq_true c767
            clear c767
            have hc765 : w763.cell? ⟨g731, 0, none⟩ = some (.int .i64 a727) := blk_cellv (HS.out.at0) 0 rfl
            have hc766 : w763.cell? ⟨g731, 1, none⟩ = some (.int .i64 a728) := blk_cellv (HS.out.at0) 1 rfl
            replace HS : Aside0 (Sep (fps []) w [] w763) := ⟨HS.out.sub (.cons _ .slnil)⟩
            go_wp2_with fail
            clear hc765 hc766
            go_ret
            rw [← some_eq H]
            exact ⟨(by first | rfl | (simp [IntKind.wrap_u32]; done)), (HS.out).keep (l := []) (rest := [])⟩
          · have H := if_no c767 H
            have c767b0 : decide ((wrap64 (a727 * a728)) ≤ 4194304) = false := decide_eq_false c767
            clear c767
            have hc765 : w763.cell? ⟨g731, 0, none⟩ = some (.int .i64 a727) := blk_cellv (HS.out.at0) 0 rfl
            have hc766 : w763.cell? ⟨g731, 1, none⟩ = some (.int .i64 a728) := blk_cellv (HS.out.at0) 1 rfl
            replace HS : Aside0 (Sep (fps []) w [] w763) := ⟨HS.out.sub (.cons _ .slnil)⟩
            go_wp2_with fail
            clear hc765 hc766
            go_ret
            rw [← some_eq H]
            exact ⟨(by first | rfl | (simp [IntKind.wrap_u32]; done)), (HS.out).keep (l := []) (rest := [])⟩
        · have H := if_no c764 H
          have c764b0 : t761 = false := by simpa using c764
          have c764b1 : (!t761) = true := by rw [c764b0]; rfl
          clear c764
          replace HS : Aside0 (Sep (fps []) w [] w763) := ⟨HS.out.sub (.cons _ .slnil)⟩
          go_wp2_with fail
          go_ret
          rw [← some_eq H]
          exact ⟨(by first | rfl | (simp [IntKind.wrap_u32]; done)), (HS.out).keep (l := []) (rest := [])⟩
      · have H := if_no c759 H
        have c759b0 : t756 = false := by simpa using c759
        have c759b1 : (!t756) = true := by rw [c759b0]; rfl
        clear c759
        replace HS : Aside0 (Sep (fps []) w [] w758) := ⟨HS.out.sub (.cons _ .slnil)⟩
        go_wp2_with fail
        go_ret
        rw [← some_eq H]
        exact ⟨(by first | rfl | (simp [IntKind.wrap_u32]; done)), (HS.out).keep (l := []) (rest := [])⟩
    · have H := if_no c754 H
      have c754b0 : t751 = false := by simpa using c754
      have c754b1 : (!t751) = true := by rw [c754b0]; rfl
      clear c754
      replace HS : Aside0 (Sep (fps []) w [] w753) := ⟨HS.out.sub (.cons _ .slnil)⟩
      go_wp2_with fail
      go_ret
      rw [← some_eq H]
      exact ⟨(by first | rfl | (simp [IntKind.wrap_u32]; done)), (HS.out).keep (l := []) (rest := [])⟩
  · have H := if_no c749 H
    have c749b0 : t746 = false := by simpa using c749
    have c749b1 : (!t746) = true := by rw [c749b0]; rfl
    clear c749
    replace HS : Aside0 (Sep (fps []) w [] w748) := ⟨HS.out.sub (.cons _ .slnil)⟩
    go_wp2_with fail
    go_ret
    rw [← some_eq H]
    exact ⟨(by first | rfl | (simp [IntKind.wrap_u32]; done)), (HS.out).keep (l := []) (rest := [])⟩

set_option maxHeartbeats 30000000 in
set_option maxRecDepth 100000 in
theorem ratio_counts.calls (a800 : Int) (r : Int) (w : World)  (HGl0 : Aside0 (Gl 0 #[.int .i64 0, .int .i64 0, .int .i64 0, .int .i64 0, .int .i64 0] (fps []) w)) (HS : Aside0 (Sep (fps []) w [] w)) (H : Aside0 (ratio_counts.f a800 = some r)) :
    Calls Tryd.prog 148 #[.int .i64 a800] w fun e w' => e = .returned (.int .i64 r) ∧ Sep (fps []) w [] w' := by
  unfold ratio_counts.f at H
  go_enter Tryd.func148, Tryd.ntmps148
  go_wp2_with fail
  obtain ⟨t801, HA802, H⟩ := bind_some H
  refine (ratio_Clamp.calls a800 0 1125899906842624 t801 _ ⟨Gl.pass (l := []) (rest := []) HGl0.out HS.out⟩ ⟨HS.out.begin (l := []) (rest := [])⟩ HA802).mono ?_
  rintro e_ w803 ⟨rfl, hS⟩
  replace HS : Aside0 (Sep (fps []) w [] w803) := ⟨HS.out.call (l := []) (rest := []) hS⟩
  clear hS
  go_wp2_with fail
  go_ret
  rw [← some_eq H]
  exact ⟨(by first | rfl | (simp [IntKind.wrap_u32]; done)), (HS.out).keep (l := []) (rest := [])⟩

set_option maxHeartbeats 30000000 in
set_option maxRecDepth 100000 in
theorem ratio_zero.calls (a799 : Int) (r : Bool) (w : World)  (HGl0 : Aside0 (Gl 0 #[.int .i64 0, .int .i64 0, .int .i64 0, .int .i64 0, .int .i64 0] (fps []) w)) (HS : Aside0 (Sep (fps []) w [] w)) (H : Aside0 (ratio_zero.f a799 = some r)) :
    Calls Tryd.prog 150 #[.int .i64 a799] w fun e w' => e = .returned (.bool r) ∧ Sep (fps []) w [] w' := by
  unfold ratio_zero.f at H
  go_enter Tryd.func150, Tryd.ntmps150
  go_wp2_with fail
  obtain ⟨t804, HA805, H⟩ := bind_some H
  refine (ratio_counts.calls a799 t804 _ ⟨Gl.pass (l := []) (rest := []) HGl0.out HS.out⟩ ⟨HS.out.begin (l := []) (rest := [])⟩ HA805).mono ?_
  rintro e_ w806 ⟨rfl, hS⟩
  replace HS : Aside0 (Sep (fps []) w [] w806) := ⟨HS.out.call (l := []) (rest := []) hS⟩
  clear hS
  go_wp2_with fail
  go_ret
  rw [← some_eq H]
  exact ⟨(by first | rfl | (simp [IntKind.wrap_u32]; done)), (HS.out).keep (l := []) (rest := [])⟩

set_option maxHeartbeats 30000000 in
set_option maxRecDepth 100000 in
theorem slices_IndexFunc_int_int_F150.calls (k : Nat) (l785 : List Int) (A786 : Option Addr) (n787 : Nat) (r : Int) (w : World) (HR788 : Aside0 (Rd (Kd.int .i64) (fps []) w A786 l785.length l785)) (HGl0 : Aside0 (Gl 0 #[.int .i64 0, .int .i64 0, .int .i64 0, .int .i64 0, .int .i64 0] (fps []) w)) (HS : Aside0 (Sep (fps []) w [] w)) (H : Aside0 (slices_IndexFunc_int_int_F150.f k l785 = some r)) :
    Calls Tryd.prog 158 #[.slice A786 l785.length n787, .func (.func 150) #[] #[]] w fun e w' => e = .returned (.int .i64 r) ∧ Sep (fps []) w [] w' := by
  unfold slices_IndexFunc_int_int_F150.f at H
  go_enter Tryd.func158, Tryd.ntmps158
  go_wp2_with fail
  obtain ⟨o811, AL812, H⟩ := bind_some H
  go_loopg [8] k (fun kq v8 wc => ∃ (x815 : Int), v8 = .int .i64 x815 ∧ Aside0 (slices_IndexFunc_int_int_F150.lo0 kq l785 x815 = some o811) ∧ Aside0 (Sep (fps []) w [] wc))
  case atStart => exact ⟨(0), (by first | rfl | (simp [IntKind.wrap_u32]; done)), AL812, ⟨HS.out⟩⟩
  case round =>
    clear AL812 HS
    obtain ⟨x815, rfl, AL812, HS⟩ := hrel
    obtain ⟨w813, rfl⟩ : ∃ x : World, x = wr := ⟨_, rfl⟩
    cases gk with
    | zero => exact absurd AL812.out (by simp [slices_IndexFunc_int_int_F150.lo0])
    | succ k814 =>
      have AL0 := AL812.out
      rw [slices_IndexFunc_int_int_F150.lo0] at AL0
      clear AL812
      have AL812 := Aside0.mk AL0
      clear AL0
      by_cases c816 : x815 < (l785.length : Int)
      · have AL812 := if_yes c816 AL812
        have c816b0 : decide (x815 < (l785.length : Int)) = true := decide_eq_true c816
        clear c816
        by_cases c817 : 0 ≤ x815
        · have AL812 := if_yes c817 AL812
          have c817b0 : decide (0 ≤ x815) = true := decide_eq_true c817
          have c817p : (0 ≤ x815) = True := eq_true c817
          clear c817
          have ip818 : (x815 < (l785.length : Int)) = True := eq_true (of_decide_eq_true c816b0)
          obtain ⟨hx819a, hx819e, hx819⟩ := Kd.at_int (Rd.read (fun _ _ _ _ h => h) HR788.out HS.out.fr) x815 (of_decide_eq_true c817b0) (of_decide_eq_true c816b0); cases hx819e
          go_wp2_with fail
          clear hx819
          obtain ⟨t807, HA820, AL812⟩ := bind_some AL812
          refine (ratio_zero.calls (rd l785 x815) t807 _ ⟨Gl.pass (l := []) (rest := []) HGl0.out HS.out⟩ ⟨HS.out.begin (l := []) (rest := [])⟩ HA820).mono ?_
          rintro e_ w821 ⟨rfl, hS⟩
          replace HS : Aside0 (Sep (fps []) w [] w821) := ⟨HS.out.call (l := []) (rest := []) hS⟩
          clear hS
          by_cases c822 : t807 = true
          · have AL812 := if_yes c822 AL812
            have c822b0 : t807 = true := c822
            have c822b1 : (!t807) = false := by rw [c822b0]; rfl
            clear c822
            go_wp2_with fail
            have ho := some_eq AL812
            subst ho
            have H := lp_ret H
            go_ret
            rw [← some_eq H]
            exact ⟨(by first | rfl | (simp [IntKind.wrap_u32]; done)), (HS.out).keep (l := []) (rest := [])⟩
          · have AL812 := if_no c822 AL812
            have c822b0 : t807 = false := by simpa using c822
            have c822b1 : (!t807) = true := by rw [c822b0]; rfl
            clear c822
            go_wp2_with fail
            go_roundg k814
            case measure => exact Nat.lt_succ_self _
            case rel => exact ⟨(wrap64 (x815 + 1)), (by first | rfl | (simp [IntKind.wrap_u32]; done)), Aside0.mk AL812.out, ⟨(HS.out).keep (l := []) (rest := [])⟩⟩
        · have AL812 := if_no c817 AL812
          have c817b0 : decide (0 ≤ x815) = false := decide_eq_false c817
          clear c817
          exact (none_no AL812).elim
      · have AL812 := if_no c816 AL812
        have c816b0 : decide (x815 < (l785.length : Int)) = false := decide_eq_false c816
        clear c816
        have ho := some_eq AL812
        subst ho
        clear AL812
        have H := lp_out H
        go_wp2_with fail
        go_ret
        rw [← some_eq H]
        exact ⟨(by first | rfl | (simp [IntKind.wrap_u32]; done)), (HS.out).keep (l := []) (rest := [])⟩

set_option maxHeartbeats 30000000 in
set_option maxRecDepth 100000 in
theorem slices_ContainsFunc_int_int_F150.calls (k : Nat) (l781 : List Int) (A782 : Option Addr) (n783 : Nat) (r : Bool) (w : World) (HR784 : Aside0 (Rd (Kd.int .i64) (fps []) w A782 l781.length l781)) (HGl0 : Aside0 (Gl 0 #[.int .i64 0, .int .i64 0, .int .i64 0, .int .i64 0, .int .i64 0] (fps []) w)) (HS : Aside0 (Sep (fps []) w [] w)) (H : Aside0 (slices_ContainsFunc_int_int_F150.f k l781 = some r)) :
    Calls Tryd.prog 149 #[.slice A782 l781.length n783, .func (.func 150) #[] #[]] w fun e w' => e = .returned (.bool r) ∧ Sep (fps []) w [] w' := by
  unfold slices_ContainsFunc_int_int_F150.f at H
  go_enter Tryd.func149, Tryd.ntmps149
  go_wp2_with fail
  obtain ⟨t824, HA825, H⟩ := bind_some H
  refine (slices_IndexFunc_int_int_F150.calls _ l781 A782 n783 t824 _ ⟨Rd.pass (l := []) (rest := []) (by decide) (fun _ _ _ _ h => h) HR784.out HS.out⟩ ⟨Gl.pass (l := []) (rest := []) HGl0.out HS.out⟩ ⟨HS.out.begin (l := []) (rest := [])⟩ HA825).mono ?_
  rintro e_ w826 ⟨rfl, hS⟩
  replace HS : Aside0 (Sep (fps []) w [] w826) := ⟨HS.out.call (l := []) (rest := []) hS⟩
  clear hS
  go_wp2_with fail
  go_ret
  rw [← some_eq H]
  exact ⟨(by first | rfl | (simp [IntKind.wrap_u32]; done)), (HS.out).keep (l := []) (rest := [])⟩

set_option maxHeartbeats 30000000 in
set_option maxRecDepth 100000 in
theorem ratio_Mul.calls (k : Nat) (l777 : List Int) (A778 : Option Addr) (n779 : Nat) (r : Int) (w : World) (HR780 : Aside0 (Rd (Kd.int .i64) (fps []) w A778 l777.length l777)) (HGl0 : Aside0 (Gl 0 #[.int .i64 0, .int .i64 0, .int .i64 0, .int .i64 0, .int .i64 0] (fps []) w)) (HS : Aside0 (Sep (fps []) w [] w)) (H : Aside0 (ratio_Mul.f k l777 = some r)) :
    Calls Tryd.prog 123 #[.slice A778 l777.length n779] w fun e w' => e = .returned (.int .i64 r) ∧ Sep (fps []) w [] w' := by
  unfold ratio_Mul.f at H
  go_enter Tryd.func123, Tryd.ntmps123
  go_wp2_with fail
  obtain ⟨t827, HA828, H⟩ := bind_some H
  refine (slices_ContainsFunc_int_int_F150.calls _ l777 A778 n779 t827 _ ⟨Rd.pass (l := []) (rest := []) (by decide) (fun _ _ _ _ h => h) HR780.out HS.out⟩ ⟨Gl.pass (l := []) (rest := []) HGl0.out HS.out⟩ ⟨HS.out.begin (l := []) (rest := [])⟩ HA828).mono ?_
  rintro e_ w829 ⟨rfl, hS⟩
  replace HS : Aside0 (Sep (fps []) w [] w829) := ⟨HS.out.call (l := []) (rest := []) hS⟩
  clear hS
  by_cases c830 : t827 = true
  · have H := if_yes c830 H
    have c830b0 : t827 = true := c830
    have c830b1 : (!t827) = false := by rw [c830b0]; rfl
    clear c830
    go_wp2_with fail
    go_ret
    rw [← some_eq H]
    exact ⟨(by first | rfl | (simp [IntKind.wrap_u32]; done)), (HS.out).keep (l := []) (rest := [])⟩
  · have H := if_no c830 H
    have c830b0 : t827 = false := by simpa using c830
    have c830b1 : (!t827) = true := by rw [c830b0]; rfl
    clear c830
    go_wp2_with fail
    obtain ⟨o832, AL833, H⟩ := bind_some H
    go_loopg [3, 11] k (fun kq v3 v11 wc => ∃ (x836 : Int) (x837 : Int), v3 = .int .i64 x836 ∧ v11 = .int .i64 x837 ∧ Aside0 (ratio_Mul.lo0 kq l777 x836 x837 = some o832) ∧ Aside0 (Sep (fps []) w [] wc))
    case atStart => exact ⟨(1), (0), (by first | rfl | (simp [IntKind.wrap_u32]; done)), (by first | rfl | (simp [IntKind.wrap_u32]; done)), AL833, ⟨HS.out⟩⟩
    case round =>
      clear AL833 HS
      obtain ⟨x836, x837, rfl, rfl, AL833, HS⟩ := hrel
      obtain ⟨w834, rfl⟩ : ∃ x : World, x = wr := ⟨_, rfl⟩
      cases gk with
      | zero => exact absurd AL833.out (by simp [ratio_Mul.lo0])
      | succ k835 =>
        have AL0 := AL833.out
        rw [ratio_Mul.lo0] at AL0
        clear AL833
        have AL833 := Aside0.mk AL0
        clear AL0
        by_cases c838 : x837 < (l777.length : Int)
        · have AL833 := if_yes c838 AL833
          have c838b0 : decide (x837 < (l777.length : Int)) = true := decide_eq_true c838
          clear c838
          by_cases c839 : 0 ≤ x837
          · have AL833 := if_yes c839 AL833
            have c839b0 : decide (0 ≤ x837) = true := decide_eq_true c839
            have c839p : (0 ≤ x837) = True := eq_true c839
            clear c839
            have ip840 : (x837 < (l777.length : Int)) = True := eq_true (of_decide_eq_true c838b0)
            obtain ⟨hx841a, hx841e, hx841⟩ := Kd.at_int (Rd.read (fun _ _ _ _ h => h) HR780.out HS.out.fr) x837 (of_decide_eq_true c839b0) (of_decide_eq_true c838b0); cases hx841e
            go_wp2_with fail
            clear hx841
            obtain ⟨t842, HA843, AL833⟩ := bind_some AL833
            refine (ratio_counts.calls (rd l777 x837) t842 _ ⟨Gl.pass (l := []) (rest := []) HGl0.out HS.out⟩ ⟨HS.out.begin (l := []) (rest := [])⟩ HA843).mono ?_
            rintro e_ w844 ⟨rfl, hS⟩
            replace HS : Aside0 (Sep (fps []) w [] w844) := ⟨HS.out.call (l := []) (rest := []) hS⟩
            clear hS
            by_cases c845 : t842 = 0
            · have AL833 := if_yes c845 AL833
              have c845b0 : (t842 == 0) = true := beq_iff_eq.mpr c845
              have c845b1 : (t842 != 0) = false := bne_eq_false_iff_eq.mpr c845
              exact (none_no AL833).elim
            · have AL833 := if_no c845 AL833
              have c845b0 : (t842 == 0) = false := beq_eq_false_iff_ne.mpr c845
              have c845b1 : (t842 != 0) = true := bne_iff_ne.mpr c845
              by_cases c846 : x836 ≤ (wrap64 (Int.tdiv (1125899906842624 : Int) t842))
              · have AL833 := if_yes c846 AL833
                have c846b0 : decide (x836 ≤ (wrap64 (Int.tdiv (1125899906842624 : Int) t842))) = true := decide_eq_true c846
                clear c846
                skip
                go_wp2_with fail
                clear c845
                go_roundg k835
                case measure => exact Nat.lt_succ_self _
                case rel => exact ⟨(wrap64 (x836 * t842)), (wrap64 (x837 + 1)), (by first | rfl | (simp [IntKind.wrap_u32]; done)), (by first | rfl | (simp [IntKind.wrap_u32]; done)), Aside0.mk AL833.out, ⟨(HS.out).keep (l := []) (rest := [])⟩⟩
              · have AL833 := if_no c846 AL833
                have c846b0 : decide (x836 ≤ (wrap64 (Int.tdiv (1125899906842624 : Int) t842))) = false := decide_eq_false c846
                clear c846
                skip
                go_wp2_with fail
                clear c845
                go_roundg k835
                case measure => exact Nat.lt_succ_self _
                case rel => exact ⟨(1125899906842624), (wrap64 (x837 + 1)), (by first | rfl | (simp [IntKind.wrap_u32]; done)), (by first | rfl | (simp [IntKind.wrap_u32]; done)), Aside0.mk AL833.out, ⟨(HS.out).keep (l := []) (rest := [])⟩⟩
          · have AL833 := if_no c839 AL833
            have c839b0 : decide (0 ≤ x837) = false := decide_eq_false c839
            clear c839
            exact (none_no AL833).elim
        · have AL833 := if_no c838 AL833
          have c838b0 : decide (x837 < (l777.length : Int)) = false := decide_eq_false c838
          clear c838
          have ho := some_eq AL833
          subst ho
          clear AL833
          go_wp2_with fail
          go_ret
          rw [← some_eq H]
          exact ⟨(by first | rfl | (simp [IntKind.wrap_u32]; done)), (HS.out).keep (l := []) (rest := [])⟩

set_option maxHeartbeats 30000000 in
set_option maxRecDepth 100000 in
theorem ratio_Add.calls (k : Nat) (l854 : List Int) (A855 : Option Addr) (n856 : Nat) (r : Int) (w : World) (HR857 : Aside0 (Rd (Kd.int .i64) (fps []) w A855 l854.length l854)) (HGl0 : Aside0 (Gl 0 #[.int .i64 0, .int .i64 0, .int .i64 0, .int .i64 0, .int .i64 0] (fps []) w)) (HS : Aside0 (Sep (fps []) w [] w)) (H : Aside0 (ratio_Add.f k l854 = some r)) :
    Calls Tryd.prog 122 #[.slice A855 l854.length n856] w fun e w' => e = .returned (.int .i64 r) ∧ Sep (fps []) w [] w' := by
  unfold ratio_Add.f at H
  go_enter Tryd.func122, Tryd.ntmps122
  go_wp2_with fail
  obtain ⟨o859, AL860, H⟩ := bind_some H
  go_loopg [3, 8] k (fun kq v3 v8 wc => ∃ (x863 : Int) (x864 : Int), v3 = .int .i64 x863 ∧ v8 = .int .i64 x864 ∧ Aside0 (ratio_Add.lo0 kq l854 x863 x864 = some o859) ∧ Aside0 (Sep (fps []) w [] wc))
  case atStart => exact ⟨(0), (0), (by first | rfl | (simp [IntKind.wrap_u32]; done)), (by first | rfl | (simp [IntKind.wrap_u32]; done)), AL860, ⟨HS.out⟩⟩
  case round =>
    clear AL860 HS
    obtain ⟨x863, x864, rfl, rfl, AL860, HS⟩ := hrel
    obtain ⟨w861, rfl⟩ : ∃ x : World, x = wr := ⟨_, rfl⟩
    cases gk with
    | zero => exact absurd AL860.out (by simp [ratio_Add.lo0])
    | succ k862 =>
      have AL0 := AL860.out
      rw [ratio_Add.lo0] at AL0
      clear AL860
      have AL860 := Aside0.mk AL0
      clear AL0
      by_cases c865 : x864 < (l854.length : Int)
      · have AL860 := if_yes c865 AL860
        have c865b0 : decide (x864 < (l854.length : Int)) = true := decide_eq_true c865
        clear c865
        by_cases c866 : 0 ≤ x864
        · have AL860 := if_yes c866 AL860
          have c866b0 : decide (0 ≤ x864) = true := decide_eq_true c866
          have c866p : (0 ≤ x864) = True := eq_true c866
          clear c866
          have ip867 : (x864 < (l854.length : Int)) = True := eq_true (of_decide_eq_true c865b0)
          obtain ⟨hx868a, hx868e, hx868⟩ := Kd.at_int (Rd.read (fun _ _ _ _ h => h) HR857.out HS.out.fr) x864 (of_decide_eq_true c866b0) (of_decide_eq_true c865b0); cases hx868e
          go_wp2_with fail
          clear hx868
          obtain ⟨t869, HA870, AL860⟩ := bind_some AL860
          refine (ratio_counts.calls (rd l854 x864) t869 _ ⟨Gl.pass (l := []) (rest := []) HGl0.out HS.out⟩ ⟨HS.out.begin (l := []) (rest := [])⟩ HA870).mono ?_
          rintro e_ w871 ⟨rfl, hS⟩
          replace HS : Aside0 (Sep (fps []) w [] w871) := ⟨HS.out.call (l := []) (rest := []) hS⟩
          clear hS
          by_cases c872 : 1125899906842624 < (wrap64 (x863 + t869))
          · have AL860 := if_yes c872 AL860
            have c872b0 : decide (1125899906842624 < (wrap64 (x863 + t869))) = true := decide_eq_true c872
            skip
            go_wp2_with fail
            clear c872
            go_roundg k862
            case measure => exact Nat.lt_succ_self _
            case rel => exact ⟨(1125899906842624), (wrap64 (x864 + 1)), (by first | rfl | (simp [IntKind.wrap_u32]; done)), (by first | rfl | (simp [IntKind.wrap_u32]; done)), Aside0.mk AL860.out, ⟨(HS.out).keep (l := []) (rest := [])⟩⟩
          · have AL860 := if_no c872 AL860
            have c872b0 : decide (1125899906842624 < (wrap64 (x863 + t869))) = false := decide_eq_false c872
            skip
            go_wp2_with fail
            clear c872
            go_roundg k862
            case measure => exact Nat.lt_succ_self _
            case rel => exact ⟨(wrap64 (x863 + t869)), (wrap64 (x864 + 1)), (by first | rfl | (simp [IntKind.wrap_u32]; done)), (by first | rfl | (simp [IntKind.wrap_u32]; done)), Aside0.mk AL860.out, ⟨(HS.out).keep (l := []) (rest := [])⟩⟩
        · have AL860 := if_no c866 AL860
          have c866b0 : decide (0 ≤ x864) = false := decide_eq_false c866
          clear c866
          exact (none_no AL860).elim
      · have AL860 := if_no c865 AL860
        have c865b0 : decide (x864 < (l854.length : Int)) = false := decide_eq_false c865
        clear c865
        have ho := some_eq AL860
        subst ho
        clear AL860
        go_wp2_with fail
        go_ret
        rw [← some_eq H]
        exact ⟨(by first | rfl | (simp [IntKind.wrap_u32]; done)), (HS.out).keep (l := []) (rest := [])⟩

set_option maxHeartbeats 30000000 in
set_option maxRecDepth 100000 in
theorem ratio_by.calls (a1083 : Int) (r : Int) (w : World)  (HGl0 : Aside0 (Gl 0 #[.int .i64 0, .int .i64 0, .int .i64 0, .int .i64 0, .int .i64 0] (fps []) w)) (HS : Aside0 (Sep (fps []) w [] w)) (H : Aside0 (ratio_by.f a1083 = some r)) :
    Calls Tryd.prog 151 #[.int .i64 a1083] w fun e w' => e = .returned (.int .i64 r) ∧ Sep (fps []) w [] w' := by
  unfold ratio_by.f at H
  go_enter Tryd.func151, Tryd.ntmps151
  go_wp2_with fail
  obtain ⟨t1084, HA1085, H⟩ := bind_some H
  refine (ratio_counts.calls a1083 t1084 _ ⟨Gl.pass (l := []) (rest := []) HGl0.out HS.out⟩ ⟨HS.out.begin (l := []) (rest := [])⟩ HA1085).mono ?_
  rintro e_ w1086 ⟨rfl, hS⟩
  replace HS : Aside0 (Sep (fps []) w [] w1086) := ⟨HS.out.call (l := []) (rest := []) hS⟩
  clear hS
  by_cases c1087 : t1084 < 1
  · have H := if_yes c1087 H
    have c1087b0 : decide (t1084 < 1) = true := decide_eq_true c1087
    skip
    go_wp2_with fail
    clear c1087
    go_ret
    rw [← some_eq H]
    exact ⟨(by first | rfl | (simp [IntKind.wrap_u32]; done)), (HS.out).keep (l := []) (rest := [])⟩
  · have H := if_no c1087 H
    have c1087b0 : decide (t1084 < 1) = false := decide_eq_false c1087
    skip
    go_wp2_with fail
    clear c1087
    go_ret
    rw [← some_eq H]
    exact ⟨(by first | rfl | (simp [IntKind.wrap_u32]; done)), (HS.out).keep (l := []) (rest := [])⟩

set_option maxHeartbeats 30000000 in
set_option maxRecDepth 100000 in
theorem ratio_Up.calls (a1078 : Int) (a1079 : Int) (r : Int) (w : World)  (HGl0 : Aside0 (Gl 0 #[.int .i64 0, .int .i64 0, .int .i64 0, .int .i64 0, .int .i64 0] (fps []) w)) (HS : Aside0 (Sep (fps []) w [] w)) (H : Aside0 (ratio_Up.f a1078 a1079 = some r)) :
    Calls Tryd.prog 124 #[.int .i64 a1078, .int .i64 a1079] w fun e w' => e = .returned (.int .i64 r) ∧ Sep (fps []) w [] w' := by
  unfold ratio_Up.f at H
  go_enter Tryd.func124, Tryd.ntmps124
  go_wp2_with fail
  obtain ⟨t1080, HA1081, H⟩ := bind_some H
  refine (ratio_counts.calls a1078 t1080 _ ⟨Gl.pass (l := []) (rest := []) HGl0.out HS.out⟩ ⟨HS.out.begin (l := []) (rest := [])⟩ HA1081).mono ?_
  rintro e_ w1082 ⟨rfl, hS⟩
  replace HS : Aside0 (Sep (fps []) w [] w1082) := ⟨HS.out.call (l := []) (rest := []) hS⟩
  clear hS
  go_wp2_with fail
  obtain ⟨t1088, HA1089, H⟩ := bind_some H
  refine (ratio_by.calls a1079 t1088 _ ⟨Gl.pass (l := []) (rest := []) HGl0.out HS.out⟩ ⟨HS.out.begin (l := []) (rest := [])⟩ HA1089).mono ?_
  rintro e_ w1090 ⟨rfl, hS⟩
  replace HS : Aside0 (Sep (fps []) w [] w1090) := ⟨HS.out.call (l := []) (rest := []) hS⟩
  clear hS
  go_wp2_with fail
  obtain ⟨t1091, HA1092, H⟩ := bind_some H
  refine (ratio_by.calls a1079 t1091 _ ⟨Gl.pass (l := []) (rest := []) HGl0.out HS.out⟩ ⟨HS.out.begin (l := []) (rest := [])⟩ HA1092).mono ?_
  rintro e_ w1093 ⟨rfl, hS⟩
  replace HS : Aside0 (Sep (fps []) w [] w1093) := ⟨HS.out.call (l := []) (rest := []) hS⟩
  clear hS
  by_cases c1094 : t1091 = 0
  · have H := if_yes c1094 H
    have c1094b0 : (t1091 == 0) = true := beq_iff_eq.mpr c1094
    have c1094b1 : (t1091 != 0) = false := bne_eq_false_iff_eq.mpr c1094
    exact (none_no H).elim
  · have H := if_no c1094 H
    have c1094b0 : (t1091 == 0) = false := beq_eq_false_iff_ne.mpr c1094
    have c1094b1 : (t1091 != 0) = true := bne_iff_ne.mpr c1094
    skip
    go_wp2_with fail
    clear c1094
    go_ret
    rw [← some_eq H]
    exact ⟨(by first | rfl | (simp [IntKind.wrap_u32]; done)), (HS.out).keep (l := []) (rest := [])⟩
end Go.Proofs.YtobeonkddamnoaaDoor.C

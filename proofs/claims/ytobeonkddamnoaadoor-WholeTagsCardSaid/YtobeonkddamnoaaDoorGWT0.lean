/- Each function of the group WT does what its plain function says, and changes nothing that was there; proved by walking its code. No condition. -/
import Derived.Test.YtobeonkddamnoaaDoorQw
import Derived.Test.YtobeonkddamnoaaDoorMWT
namespace Go.Proofs.YtobeonkddamnoaaDoor.C
open Go.RowKit Go.Proofs.YtobeonkddamnoaaDoorW.PrintWords Go.Proofs.YtobeonkddamnoaaDoorW.PrintLast Go.Proofs.YtobeonkddamnoaaDoor.Q Go.Proofs.YtobeonkddamnoaaDoor.M
set_option linter.unusedVariables false
set_option linter.unusedSimpArgs false
def b1 (g : Nat) (x0 : Int) (x1 : Int) (x2 : Int) (x3 : Int) (x4 : Int) (x5 : Int) (x6 : Int) : Ob := blk g #[.int .i64 x0, .int .i64 x1, .int .i64 x2, .int .i64 x3, .int .i64 x4, .int .i64 x5, .int .i64 x6] 32
def b2 (g : Nat) (x0 : Int) (x1 : Int) (x2 : Int) (x3 : Int) (x4 : Int) : Ob := blk g #[.int .i64 x0, .int .i64 x1, .int .i64 x2, .int .i64 x3, .int .i64 x4] 108
def b3 (g : Nat) (x0 : Int) : Ob := blk g #[.int .u32 x0] 33
def r4 (A : Option Addr) (n c : Nat) (l : List Int) : Ob := row 33 (Value.int .u32) (.slice A n c) l
def b5 (g : Nat) (x0 : Int) (x1 : Int) : Ob := blk g #[.int .u32 x0, .int .u32 x1] 33
def b6 (g : Nat) (x0 : Int) (x1 : Int) (x2 : Int) (x3 : Int) (x4 : Int) (x5 : Int) (x6 : Int) (x7 : Int) : Ob := blk g #[.int .i64 x0, .int .i64 x1, .int .i64 x2, .int .i64 x3, .int .i64 x4, .int .i64 x5, .int .i64 x6, .int .i64 x7] 3
def b7 (g : Nat) (x0 : Int) : Ob := blk g #[.int .i64 x0] 3
def b8 (g : Nat) (x0 : Int) (x1 : Int) (x2 : Int) (x3 : Int) : Ob := blk g #[.int .i64 x0, .int .i64 x1, .int .i64 x2, .int .i64 x3] 30
def b9 (g : Nat) (x0 : Int) (x1 : Int) (x2 : Int) (x3 : Int) (x4 : Int) (x5 : Int) (x6 : Int) (x7 : Int) : Ob := blk g #[.int .i64 x0, .int .i64 x1, .int .i64 x2, .int .i64 x3, .int .i64 x4, .int .i64 x5, .int .i64 x6, .int .i64 x7] 97
def b10 (g : Nat) (x0 : Int) (x1 : Int) : Ob := blk g #[.int .i64 x0, .int .i64 x1] 3
def b11 (g : Nat) (x0 : Int) (x1 : Int) (x2 : Int) : Ob := blk g #[.int .i64 x0, .int .i64 x1, .int .i64 x2] 3
def b12 (g : Nat) (x0 : Option Addr) (x1 : Nat) (x2 : Nat) (x3 : Int) : Ob := blk g #[.slice x0 x1 x2, .int .u64 x3] 154
def b13 (g : Nat) (x0 : Nat) (x1 : Int) (x2 : Int) (x3 : Int) (x4 : Int) : Ob := blk g #[.pointer (some ⟨x0, 0, none⟩), .int .i64 x1, .int .i64 x2, .int .i64 x3, .int .i64 x4] 106
abbrev e14 (x : Int × Int × Int × Int × Int × Int × Int) : List Value := [.int .i64 x.1, .int .i64 x.2.1, .int .i64 x.2.2.1, .int .i64 x.2.2.2.1, .int .i64 x.2.2.2.2.1, .int .i64 x.2.2.2.2.2.1, .int .i64 x.2.2.2.2.2.2]
def r15 (g n : Nat) (l : List (Int × Int × Int × Int × Int × Int × Int)) : Ob := srow 32 e14 g n l
abbrev s16 : Kd (Int × Int × Int × Int × Int × Int × Int) := (Kd.pair (Kd.int .i64) (Kd.pair (Kd.int .i64) (Kd.pair (Kd.int .i64) (Kd.pair (Kd.int .i64) (Kd.pair (Kd.int .i64) (Kd.pair (Kd.int .i64) (Kd.int .i64)))))))
theorem s16_at {F : Nat → Prop} {w W : World} {A : Option Addr} {n : Nat} {xs : List (Int × Int × Int × Int × Int × Int × Int)} (h : Rd s16 F w A n xs) (hf : Fr F w W) (i : Int) (h0 : 0 ≤ i) (h1 : i < n) : ∃ ad, A = some ad ∧ W.cell? (ad.add (i.toNat * 7)) = some (.int .i64 ((rdOf (0, 0, 0, 0, 0, 0, 0) xs i).1)) ∧ W.cell? ⟨(ad.add (i.toNat * 7)).block, (ad.add (i.toNat * 7)).off + 1, none⟩ = some (.int .i64 ((rdOf (0, 0, 0, 0, 0, 0, 0) xs i).2.1)) ∧ W.cell? ⟨(ad.add (i.toNat * 7)).block, (ad.add (i.toNat * 7)).off + 2, none⟩ = some (.int .i64 ((rdOf (0, 0, 0, 0, 0, 0, 0) xs i).2.2.1)) ∧ W.cell? ⟨(ad.add (i.toNat * 7)).block, (ad.add (i.toNat * 7)).off + 3, none⟩ = some (.int .i64 ((rdOf (0, 0, 0, 0, 0, 0, 0) xs i).2.2.2.1)) ∧ W.cell? ⟨(ad.add (i.toNat * 7)).block, (ad.add (i.toNat * 7)).off + 4, none⟩ = some (.int .i64 ((rdOf (0, 0, 0, 0, 0, 0, 0) xs i).2.2.2.2.1)) ∧ W.cell? ⟨(ad.add (i.toNat * 7)).block, (ad.add (i.toNat * 7)).off + 5, none⟩ = some (.int .i64 ((rdOf (0, 0, 0, 0, 0, 0, 0) xs i).2.2.2.2.2.1)) ∧ W.cell? ⟨(ad.add (i.toNat * 7)).block, (ad.add (i.toNat * 7)).off + 6, none⟩ = some (.int .i64 ((rdOf (0, 0, 0, 0, 0, 0, 0) xs i).2.2.2.2.2.2)) := by
  obtain ⟨ad, c, e, hl, hk, hc⟩ := Rd.el h hf (0, 0, 0, 0, 0, 0, 0) i h0 h1
  obtain ⟨_, _, rfl, rfl, ⟨_, _, rfl, rfl, ⟨_, _, rfl, rfl, ⟨_, _, rfl, rfl, ⟨_, _, rfl, rfl, ⟨_, _, rfl, rfl, rfl⟩⟩⟩⟩⟩⟩ := hk
  exact ⟨ad, e, hc 0 _ rfl, hc 1 _ rfl, hc 2 _ rfl, hc 3 _ rfl, hc 4 _ rfl, hc 5 _ rfl, hc 6 _ rfl⟩

set_option maxHeartbeats 30000000 in
set_option maxRecDepth 100000 in
theorem tag_marks.calls (a44 : Int) (a45 : Int) (a46 : Int) (a47 : Int) (a48 : Int) (a49 : Int) (a50 : Int) (r : Int × Int × Int × Int × Int) (w : World)  (HGl0 : Aside0 (Gl 0 #[.int .i64 0, .int .i64 0, .int .i64 0, .int .i64 0, .int .i64 0] (fps []) w)) (HS : Aside0 (Sep (fps []) w [] w)) (H : Aside0 (tag_marks.f a44 a45 a46 a47 a48 a49 a50 = some r)) :
    Calls Tryd.prog 68 #[.agg #[.int .i64 a44, .int .i64 a45, .int .i64 a46, .int .i64 a47, .int .i64 a48, .int .i64 a49, .int .i64 a50]] w fun e w' => e = .returned (.agg #[.int .i64 r.1, .int .i64 r.2.1, .int .i64 r.2.2.1, .int .i64 r.2.2.2.1, .int .i64 r.2.2.2.2]) ∧ Sep (fps []) w [] w' := by
  unfold tag_marks.f at H
  go_enter Tryd.func68, Tryd.ntmps68
  go_wp2_with (first | ((with_reducible refine gate_dst (N := 1) rfl ?_); refine box_on ?hg (N := 1) ?hd (cs := #[.int .i64 a44, .int .i64 a45, .int .i64 a46, .int .i64 a47, .int .i64 a48, .int .i64 a49, .int .i64 a50]) (t := 32) ?hr ?_; (case hd => rfl); (case hg => rfl); (case hr => first | (go_simp; done) | (go_simp; rfl)); intro g51 hg w52 hbox hb; replace HS : Aside0 (Sep (fps []) w [b1 g51 a44 a45 a46 a47 a48 a49 a50] w52) := ⟨HS.out.box hg hbox hb⟩; clear hg hbox hb) | ((with_reducible refine gate_dst (N := 2) rfl ?_); refine box_on ?hg (N := 2) ?hd (cs := #[.int .i64 0, .int .i64 0, .int .i64 0, .int .i64 0, .int .i64 0]) (t := 108) ?hr ?_; (case hd => rfl); (case hg => rfl); (case hr => first | (go_simp; done) | (go_simp; rfl)); intro g54 hg w55 hbox hb; replace HS : Aside0 (Sep (fps []) w [b1 g51 a44 a45 a46 a47 a48 a49 a50, b2 g54 0 0 0 0 0] w55) := ⟨HS.out.box hg hbox hb⟩; clear hg hbox hb; have hc57 : w55.cell? ⟨g51, 1, none⟩ = some (.int .i64 a45) := blk_cellv (HS.out.at0) 1 rfl; have hc58 : w55.cell? ⟨g51, 2, none⟩ = some (.int .i64 a46) := blk_cellv (HS.out.at0) 2 rfl; have hc59 : w55.cell? ⟨g51, 3, none⟩ = some (.int .i64 a47) := blk_cellv (HS.out.at0) 3 rfl; have hc60 : w55.cell? ⟨g51, 4, none⟩ = some (.int .i64 a48) := blk_cellv (HS.out.at0) 4 rfl; have hc61 : w55.cell? ⟨g51, 5, none⟩ = some (.int .i64 a49) := blk_cellv (HS.out.at0) 5 rfl; have hc62 : w55.cell? ⟨g54, 0, none⟩ = some (.int .i64 0) := blk_cellv (HS.out.at1) 0 rfl; have hz63 : w55.frozen? ⟨g54, 0, none⟩ = false := blk_fz (HS.out.at1) 0; have hc64 : w55.cell? ⟨g54, 1, none⟩ = some (.int .i64 0) := blk_cellv (HS.out.at1) 1 rfl; have hz65 : w55.frozen? ⟨g54, 1, none⟩ = false := blk_fz (HS.out.at1) 1; have hc66 : w55.cell? ⟨g54, 2, none⟩ = some (.int .i64 0) := blk_cellv (HS.out.at1) 2 rfl; have hz67 : w55.frozen? ⟨g54, 2, none⟩ = false := blk_fz (HS.out.at1) 2; have hc68 : w55.cell? ⟨g54, 3, none⟩ = some (.int .i64 0) := blk_cellv (HS.out.at1) 3 rfl; have hz69 : w55.frozen? ⟨g54, 3, none⟩ = false := blk_fz (HS.out.at1) 3; have hc70 : w55.cell? ⟨g54, 4, none⟩ = some (.int .i64 0) := blk_cellv (HS.out.at1) 4 rfl; have hz71 : w55.frozen? ⟨g54, 4, none⟩ = false := blk_fz (HS.out.at1) 4) | ((with_reducible refine gate_store (t := 108) (p := 2) rfl ?_); refine store_event (w1 := (World.setCell (World.setCell (World.setCell (World.setCell (World.setCell w55 ⟨g54, 0, none⟩ (.int .i64 a45)) ⟨g54, 1, none⟩ (.int .i64 a46)) ⟨g54, 2, none⟩ (.int .i64 a47)) ⟨g54, 3, none⟩ (.int .i64 a48)) ⟨g54, 4, none⟩ (.int .i64 a49))) rfl (t := 108) (p := 2) rfl rfl ?hr ?_; (case hr => first | (go_simp; done) | (go_simp; rfl)); intro w72 hst; clear hc57 hc58 hc59 hc60 hc61 hc62 hz63 hc64 hz65 hc66 hz67 hc68 hz69 hc70 hz71; replace HS : Aside0 (Sep (fps []) w [b1 g51 a44 a45 a46 a47 a48 a49 a50, b2 g54 a45 a46 a47 a48 a49] w72) := ⟨by rw [hst]; exact HS.out.setAll (l1 := [b1 g51 a44 a45 a46 a47 a48 a49 a50]) (l2 := []) [.int .i64 a45, .int .i64 a46, .int .i64 a47, .int .i64 a48, .int .i64 a49] rfl⟩; clear hst; replace HS : Aside0 (Sep (fps []) w [b2 g54 a45 a46 a47 a48 a49] w72) := ⟨HS.out.sub (.cons _ (.cons_cons _ .slnil))⟩))
  have hc73 : w72.cell? ⟨g54, 0, none⟩ = some (.int .i64 a45) := blk_cellv (HS.out.at0) 0 rfl
  have hc74 : w72.cell? ⟨g54, 1, none⟩ = some (.int .i64 a46) := blk_cellv (HS.out.at0) 1 rfl
  have hc75 : w72.cell? ⟨g54, 2, none⟩ = some (.int .i64 a47) := blk_cellv (HS.out.at0) 2 rfl
  have hc76 : w72.cell? ⟨g54, 3, none⟩ = some (.int .i64 a48) := blk_cellv (HS.out.at0) 3 rfl
  have hc77 : w72.cell? ⟨g54, 4, none⟩ = some (.int .i64 a49) := blk_cellv (HS.out.at0) 4 rfl
  refine bodyPost_ret (v := .agg #[.int .i64 a45, .int .i64 a46, .int .i64 a47, .int .i64 a48, .int .i64 a49]) (by simp [results, Tryd.results68, go_sem, hc73, hc74, hc75, hc76, hc77]) rfl ?_
  rw [← some_eq H]
  exact ⟨(by first | rfl | (simp [IntKind.wrap_u32]; done)), HS.out.sub (.cons _ .slnil)⟩

set_option maxHeartbeats 30000000 in
set_option maxRecDepth 100000 in
theorem tag_Right.calls (k : Nat) (a27 : Int) (a28 : Int) (a29 : Int) (a30 : Int) (a31 : Int) (a32 : Int) (a33 : Int) (r : Bool) (w : World)  (HGl0 : Aside0 (Gl 0 #[.int .i64 0, .int .i64 0, .int .i64 0, .int .i64 0, .int .i64 0] (fps []) w)) (HS : Aside0 (Sep (fps []) w [] w)) (H : Aside0 (tag_Right.f k a27 a28 a29 a30 a31 a32 a33 = some r)) :
    Calls Tryd.prog 67 #[.agg #[.int .i64 a27, .int .i64 a28, .int .i64 a29, .int .i64 a30, .int .i64 a31, .int .i64 a32, .int .i64 a33]] w fun e w' => e = .returned (.bool r) ∧ Sep (fps []) w [] w' := by
  unfold tag_Right.f at H
  go_enter Tryd.func67, Tryd.ntmps67
  go_wp2_with (first | ((with_reducible refine gate_dst (N := 1) rfl ?_); refine box_on ?hg (N := 1) ?hd (cs := #[.int .i64 a27, .int .i64 a28, .int .i64 a29, .int .i64 a30, .int .i64 a31, .int .i64 a32, .int .i64 a33]) (t := 32) ?hr ?_; (case hd => rfl); (case hg => rfl); (case hr => first | (go_simp; done) | (go_simp; rfl)); intro g34 hg w35 hbox hb; replace HS : Aside0 (Sep (fps []) w [b1 g34 a27 a28 a29 a30 a31 a32 a33] w35) := ⟨HS.out.box hg hbox hb⟩; clear hg hbox hb; have hc37 : w35.cell? ⟨g34, 0, none⟩ = some (.int .i64 a27) := blk_cellv (HS.out.at0) 0 rfl; have hc38 : w35.cell? ⟨g34, 1, none⟩ = some (.int .i64 a28) := blk_cellv (HS.out.at0) 1 rfl; have hc39 : w35.cell? ⟨g34, 2, none⟩ = some (.int .i64 a29) := blk_cellv (HS.out.at0) 2 rfl; have hc40 : w35.cell? ⟨g34, 3, none⟩ = some (.int .i64 a30) := blk_cellv (HS.out.at0) 3 rfl; have hc41 : w35.cell? ⟨g34, 4, none⟩ = some (.int .i64 a31) := blk_cellv (HS.out.at0) 4 rfl; have hc42 : w35.cell? ⟨g34, 5, none⟩ = some (.int .i64 a32) := blk_cellv (HS.out.at0) 5 rfl; have hc43 : w35.cell? ⟨g34, 6, none⟩ = some (.int .i64 a33) := blk_cellv (HS.out.at0) 6 rfl))
  clear hc37 hc38 hc39 hc40 hc41 hc42 hc43
  obtain ⟨t78, HA79, H⟩ := bind_some H
  refine (tag_marks.calls a27 a28 a29 a30 a31 a32 a33 t78 _ ⟨HGl0.out.pass (l := []) HS.out⟩ ⟨Sep.start _⟩ HA79).mono ?_
  rintro e_ w80 ⟨rfl, hS⟩
  replace HS : Aside0 (Sep (fps []) w [b1 g34 a27 a28 a29 a30 a31 a32 a33] w80) := ⟨HS.out.call hS⟩
  clear hS
  go_wp2_with fail
  obtain ⟨o93, AL94, H⟩ := bind_some H
  go_loopg [7] k (fun kq v7 wc => ∃ (x97 : Int), v7 = .int .i64 x97 ∧ Aside0 (tag_Right.lo0 kq t78 x97 = some o93) ∧ Aside0 (Sep (fps []) w [b1 g34 a27 a28 a29 a30 a31 a32 a33] wc))
  case atStart => exact ⟨(0), (by first | rfl | (simp [IntKind.wrap_u32]; done)), AL94, ⟨HS.out⟩⟩
  case round =>
    clear AL94 HS
    obtain ⟨x97, rfl, AL94, HS⟩ := hrel
    obtain ⟨w95, rfl⟩ : ∃ x : World, x = wr := ⟨_, rfl⟩
    cases gk with
    | zero => exact absurd AL94.out (by simp [tag_Right.lo0])
    | succ k96 =>
      have AL0 := AL94.out
      rw [tag_Right.lo0] at AL0
      clear AL94
      have AL94 := Aside0.mk AL0
      clear AL0
      by_cases c98 : x97 < 5
      · replace AL94 := if_yes c98 AL94
        have c98b0 : decide (x97 < 5) = true := decide_eq_true c98
        clear c98
        by_cases c99 : 0 ≤ x97
        · replace AL94 := if_yes c99 AL94
          have c99b0 : decide (0 ≤ x97) = true := decide_eq_true c99
          have c99p : (0 ≤ x97) = True := eq_true c99
          clear c99
          have ip100 : (x97 < 5) = True := eq_true (of_decide_eq_true c98b0)
          have ix101 : ∀ w, (Instr.index 108 (.agg #[.int .i64 t78.1, .int .i64 t78.2.1, .int .i64 t78.2.2.1, .int .i64 t78.2.2.2.1, .int .i64 t78.2.2.2.2]) (.int .i64 x97)).run Tryd.prog w = .ok (.int .i64 (rd [t78.1, t78.2.1, t78.2.2.1, t78.2.2.2.1, t78.2.2.2.2] x97)) w := run_index_ints 108 3 5 .i64 .i64 [t78.1, t78.2.1, t78.2.2.1, t78.2.2.2.1, t78.2.2.2.2] x97 Tryd.underlying108 (fun _ => by kernel_rfl) (fun _ => by kernel_rfl) rfl (of_decide_eq_true c99b0) (of_decide_eq_true c98b0)
          by_cases c102 : (rd [t78.1, t78.2.1, t78.2.2.1, t78.2.2.2.1, t78.2.2.2.2] x97) = 0
          · replace AL94 := if_yes c102 AL94
            have c102b0 : ((rd [t78.1, t78.2.1, t78.2.2.1, t78.2.2.2.1, t78.2.2.2.2] x97) == 0) = true := beq_iff_eq.mpr c102
            have c102b1 : ((rd [t78.1, t78.2.1, t78.2.2.1, t78.2.2.2.1, t78.2.2.2.2] x97) != 0) = false := bne_eq_false_iff_eq.mpr c102
            clear c102
            go_wp2_with fail
            go_roundg k96
            case measure => exact Nat.lt_succ_self _
            case rel => exact ⟨(wrap64 (x97 + 1)), (by first | rfl | (simp [IntKind.wrap_u32]; done)), Aside0.mk AL94.out, ⟨HS.out⟩⟩
          · replace AL94 := if_no c102 AL94
            have c102b0 : ((rd [t78.1, t78.2.1, t78.2.2.1, t78.2.2.2.1, t78.2.2.2.2] x97) == 0) = false := beq_eq_false_iff_ne.mpr c102
            have c102b1 : ((rd [t78.1, t78.2.1, t78.2.2.1, t78.2.2.2.1, t78.2.2.2.2] x97) != 0) = true := bne_iff_ne.mpr c102
            clear c102
            by_cases c103 : (rd [t78.1, t78.2.1, t78.2.2.1, t78.2.2.2.1, t78.2.2.2.2] x97) = 1
            · replace AL94 := if_yes c103 AL94
              have c103b0 : ((rd [t78.1, t78.2.1, t78.2.2.1, t78.2.2.2.1, t78.2.2.2.2] x97) == 1) = true := beq_iff_eq.mpr c103
              have c103b1 : ((rd [t78.1, t78.2.1, t78.2.2.1, t78.2.2.2.1, t78.2.2.2.2] x97) != 1) = false := bne_eq_false_iff_eq.mpr c103
              clear c103
              go_wp2_with fail
              go_roundg k96
              case measure => exact Nat.lt_succ_self _
              case rel => exact ⟨(wrap64 (x97 + 1)), (by first | rfl | (simp [IntKind.wrap_u32]; done)), Aside0.mk AL94.out, ⟨HS.out⟩⟩
            · replace AL94 := if_no c103 AL94
              have c103b0 : ((rd [t78.1, t78.2.1, t78.2.2.1, t78.2.2.2.1, t78.2.2.2.2] x97) == 1) = false := beq_eq_false_iff_ne.mpr c103
              have c103b1 : ((rd [t78.1, t78.2.1, t78.2.2.1, t78.2.2.2.1, t78.2.2.2.2] x97) != 1) = true := bne_iff_ne.mpr c103
              clear c103
              go_wp2_with fail
              have ho := some_eq AL94
              subst ho
              have H := lp_ret H
              go_ret
              rw [← some_eq H]
              exact ⟨(by first | rfl | (simp [IntKind.wrap_u32]; done)), HS.out.sub (.cons _ .slnil)⟩
        · replace AL94 := if_no c99 AL94
          have c99b0 : decide (0 ≤ x97) = false := decide_eq_false c99
          clear c99
          exact (none_no AL94).elim
      · replace AL94 := if_no c98 AL94
        have c98b0 : decide (x97 < 5) = false := decide_eq_false c98
        clear c98
        have ho := some_eq AL94
        subst ho
        clear AL94
        have H := lp_out H
        by_cases c105 : a27 = 1
        · replace H := if_yes c105 H
          have c105b0 : (a27 == 1) = true := beq_iff_eq.mpr c105
          have c105b1 : (a27 != 1) = false := bne_eq_false_iff_eq.mpr c105
          clear c105
          have hc104 : w95.cell? ⟨g34, 0, none⟩ = some (.int .i64 a27) := blk_cellv (HS.out.at0) 0 rfl
          have hc106 : w95.cell? ⟨g34, 6, none⟩ = some (.int .i64 a33) := blk_cellv (HS.out.at0) 6 rfl
          replace HS : Aside0 (Sep (fps []) w [] w95) := ⟨HS.out.sub (.cons _ .slnil)⟩
          go_wp2_with fail
          clear hc104 hc106
          go_ret
          rw [← some_eq H]
          exact ⟨(by first | rfl | (simp [IntKind.wrap_u32]; done)), HS.out⟩
        · replace H := if_no c105 H
          have c105b0 : (a27 == 1) = false := beq_eq_false_iff_ne.mpr c105
          have c105b1 : (a27 != 1) = true := bne_iff_ne.mpr c105
          clear c105
          by_cases c107 : a27 = 2
          · replace H := if_yes c107 H
            have c107b0 : (a27 == 2) = true := beq_iff_eq.mpr c107
            have c107b1 : (a27 != 2) = false := bne_eq_false_iff_eq.mpr c107
            clear c107
            have hc104 : w95.cell? ⟨g34, 0, none⟩ = some (.int .i64 a27) := blk_cellv (HS.out.at0) 0 rfl
            have hc108 : w95.cell? ⟨g34, 6, none⟩ = some (.int .i64 a33) := blk_cellv (HS.out.at0) 6 rfl
            replace HS : Aside0 (Sep (fps []) w [] w95) := ⟨HS.out.sub (.cons _ .slnil)⟩
            go_wp2_with fail
            clear hc104 hc108
            go_ret
            rw [← some_eq H]
            exact ⟨(by first | rfl | (simp [IntKind.wrap_u32]; done)), HS.out⟩
          · replace H := if_no c107 H
            have c107b0 : (a27 == 2) = false := beq_eq_false_iff_ne.mpr c107
            have c107b1 : (a27 != 2) = true := bne_iff_ne.mpr c107
            clear c107
            by_cases c109 : a27 = 0
            · replace H := if_yes c109 H
              have c109b0 : (a27 == 0) = true := beq_iff_eq.mpr c109
              have c109b1 : (a27 != 0) = false := bne_eq_false_iff_eq.mpr c109
              clear c109
              have hc104 : w95.cell? ⟨g34, 0, none⟩ = some (.int .i64 a27) := blk_cellv (HS.out.at0) 0 rfl
              go_wp2_with fail
              clear hc104
              refine start_ (n := 25) (S := (fun w' => w'.cell? ⟨g34, 0, none⟩ = some (.int .i64 a27) ∧ w'.cell? ⟨g34, 1, none⟩ = some (.int .i64 a28) ∧ w'.cell? ⟨g34, 2, none⟩ = some (.int .i64 a29) ∧ w'.cell? ⟨g34, 3, none⟩ = some (.int .i64 a30) ∧ w'.cell? ⟨g34, 4, none⟩ = some (.int .i64 a31) ∧ w'.cell? ⟨g34, 5, none⟩ = some (.int .i64 a32) ∧ w'.cell? ⟨g34, 6, none⟩ = some (.int .i64 a33) ∧ w'.cell? ⟨0, 0, none⟩ = some (.int .i64 0) ∧ w'.cell? ⟨0, 1, none⟩ = some (.int .i64 0) ∧ w'.cell? ⟨0, 2, none⟩ = some (.int .i64 0) ∧ w'.cell? ⟨0, 3, none⟩ = some (.int .i64 0) ∧ w'.cell? ⟨0, 4, none⟩ = some (.int .i64 0))) (ds := []) #[false, false, false, false, false, false, false, false, false, false, false, false, false, false, false, false, false, false, false, false, false, false, false, false, false] (by kernel_rfl) rfl rfl (⟨blk_cellv ((HS.out.drew).at0) 0 rfl, blk_cellv ((HS.out.drew).at0) 1 rfl, blk_cellv ((HS.out.drew).at0) 2 rfl, blk_cellv ((HS.out.drew).at0) 3 rfl, blk_cellv ((HS.out.drew).at0) 4 rfl, blk_cellv ((HS.out.drew).at0) 5 rfl, blk_cellv ((HS.out.drew).at0) 6 rfl, Gl.cell HGl0.out (HS.out.drew).fr 0 rfl, Gl.cell HGl0.out (HS.out.drew).fr 1 rfl, Gl.cell HGl0.out (HS.out.drew).fr 2 rfl, Gl.cell HGl0.out (HS.out.drew).fr 3 rfl, Gl.cell HGl0.out (HS.out.drew).fr 4 rfl⟩) (fun hHeld => ?_)
              have HS_ := Aside0.mk HS.out.drew
              clear HS
              generalize World.drew _ = w111 at HS_ hHeld ⊢
              have HS := HS_
              clear HS_
              refine take_ (i := 0) (N := some 28) (v := ?_) (a' := ?_) #[true, false, false, false, false, false, false, false, false, false, false, false, false, false, false, false, false, false, false, false, false, false, false, false, false] rfl rfl (by kernel_rfl) (fun _ _ _ h => h) (Or.inl ⟨by rfl, ?_⟩) hHeld ?_ ?_
              rotate_left
              · rintro w' hS'
                obtain ⟨s0, s1, s2, s3, s4, s5, s6, s7, s8, s9, s10, s11⟩ := hS'
                go_simp
                with_reducible rfl
              rotate_left
              · simp only [Act.put, List.setIfInBounds_toArray, List.set_cons_zero, List.set_cons_succ, i64_w, i32_w]
                rfl
              refine take_ (i := 2) (N := some 30) (v := ?_) (a' := ?_) #[true, false, true, false, false, false, false, false, false, false, false, false, false, false, false, false, false, false, false, false, false, false, false, false, false] rfl rfl (by kernel_rfl) (fun _ _ _ h => h) (Or.inl ⟨by rfl, ?_⟩) hHeld ?_ ?_
              rotate_left
              · rintro w' hS'
                obtain ⟨s0, s1, s2, s3, s4, s5, s6, s7, s8, s9, s10, s11⟩ := hS'
                go_simp
                with_reducible rfl
              rotate_left
              · simp only [Act.put, List.setIfInBounds_toArray, List.set_cons_zero, List.set_cons_succ, i64_w, i32_w]
                rfl
              refine one_ (i := 1) (N := some 29) #[true, true, true, false, false, false, false, false, false, false, false, false, false, false, false, false, false, false, false, false, false, false, false, false, false] rfl rfl (by kernel_rfl) (by decide) (fun K hK => ?_)
              obtain ⟨t112, HA113, H⟩ := bind_some H
              refine goes_ Tryd.func68 (by kernel_rfl) rfl #[.agg #[.int .i64 a27, .int .i64 a28, .int .i64 a29, .int .i64 a30, .int .i64 a31, .int .i64 a32, .int .i64 a33]] (by rfl) rfl rfl (by (try simp only [List.map_toArray, List.map_cons, List.map_nil]); first | done | rfl) ?_
              refine (tag_marks.calls a27 a28 a29 a30 a31 a32 a33 t112 _ ⟨HGl0.out.pass (l := []) HS.out⟩ ⟨Sep.start _⟩ HA113).mono ?_
              rintro e_ w114 ⟨rfl, hS⟩
              replace HS : Aside0 (Sep (fps []) w [b1 g34 a27 a28 a29 a30 a31 a32 a33] w114) := ⟨HS.out.call hS⟩
              clear hS
              refine ⟨_, rfl, ?_⟩
              refine hK.out _ _ (⟨blk_cellv (HS.out.at0) 0 rfl, blk_cellv (HS.out.at0) 1 rfl, blk_cellv (HS.out.at0) 2 rfl, blk_cellv (HS.out.at0) 3 rfl, blk_cellv (HS.out.at0) 4 rfl, blk_cellv (HS.out.at0) 5 rfl, blk_cellv (HS.out.at0) 6 rfl, Gl.cell HGl0.out HS.out.fr 0 rfl, Gl.cell HGl0.out HS.out.fr 1 rfl, Gl.cell HGl0.out HS.out.fr 2 rfl, Gl.cell HGl0.out HS.out.fr 3 rfl, Gl.cell HGl0.out HS.out.fr 4 rfl⟩) (fun hHeld => ?_)
              clear hK K
              refine norm_ (a' := ?_) ?_ ?_
              rotate_left
              · show Act.put _ (some 29) _ = _
                simp only [Act.put, List.setIfInBounds_toArray, List.set_cons_zero, List.set_cons_succ, i64_w, i32_w]
                rfl
              obtain ⟨b116, HA117, H⟩ := bind_some H
              have eb115 : ∀ w, (Op.equalIn 10000 108 (.agg #[.int .i64 t112.1, .int .i64 t112.2.1, .int .i64 t112.2.2.1, .int .i64 t112.2.2.2.1, .int .i64 t112.2.2.2.2]) (.agg #[.int .i64 0, .int .i64 0, .int .i64 0, .int .i64 0, .int .i64 0])).run Tryd.prog w = .ok b116 w := some_eq HA117 ▸ run_eq_ints 9998 108 3 5 .i64 [t112.1, t112.2.1, t112.2.2.1, t112.2.2.2.1, t112.2.2.2.2] [0, 0, 0, 0, 0] Tryd.underlying108 (by kernel_rfl) (by kernel_rfl) Tryd.underlying3 (fun _ => by kernel_rfl) rfl rfl
              refine pure_ (i := 3) (N := some 31) (v := ?_) (a' := ?_) #[true, true, true, true, false, false, false, false, false, false, false, false, false, false, false, false, false, false, false, false, false, false, false, false, false] rfl rfl (by kernel_rfl) (fun _ _ _ h => h) (Or.inl ⟨by rfl, ?_⟩) ?_ ?_
              rotate_left
              · intro w'
                go_simp
                with_reducible rfl
              rotate_left
              · simp only [Act.put, List.setIfInBounds_toArray, List.set_cons_zero, List.set_cons_succ, i64_w, i32_w]
                rfl
              refine pure_ (i := 4) (N := some 32) (v := ?_) (a' := ?_) #[true, true, true, true, true, false, false, false, false, false, false, false, false, false, false, false, false, false, false, false, false, false, false, false, false] rfl rfl (by kernel_rfl) (fun _ _ _ h => h) (Or.inl ⟨by rfl, ?_⟩) ?_ ?_
              rotate_left
              · intro w'
                go_simp
                with_reducible rfl
              rotate_left
              · simp only [Act.put, List.setIfInBounds_toArray, List.set_cons_zero, List.set_cons_succ, i64_w, i32_w]
                rfl
              by_cases c118 : b116 = true
              · replace H := if_yes c118 H
                have c118b0 : b116 = true := c118
                have c118b1 : (!b116) = false := by rw [c118b0]; rfl
                clear c118
                try simp only [c118b0, Bool.not_true, Bool.not_false]
                refine pure_ (i := 5) (N := some 33) (v := ?_) (a' := ?_) #[true, true, true, true, true, true, false, false, false, false, false, false, false, false, false, false, false, false, false, false, false, false, false, false, false] rfl rfl (by kernel_rfl) (fun _ _ _ h => h) (Or.inl ⟨by rfl, ?_⟩) ?_ ?_
                rotate_left
                · intro w'
                  go_simp
                  with_reducible rfl
                rotate_left
                · simp only [Act.put, List.setIfInBounds_toArray, List.set_cons_zero, List.set_cons_succ, i64_w, i32_w]
                  rfl
                try simp only [c118b0, Bool.not_true, Bool.not_false]
                refine take_ (i := 6) (N := some 34) (v := ?_) (a' := ?_) #[true, true, true, true, true, true, true, false, false, false, false, false, false, false, false, false, false, false, false, false, false, false, false, false, false] rfl rfl (by kernel_rfl) (fun _ _ _ h => h) (Or.inl ⟨by rfl, ?_⟩) hHeld ?_ ?_
                rotate_left
                · rintro w' hS'
                  obtain ⟨s0, s1, s2, s3, s4, s5, s6, s7, s8, s9, s10, s11⟩ := hS'
                  go_simp
                  with_reducible rfl
                rotate_left
                · simp only [Act.put, List.setIfInBounds_toArray, List.set_cons_zero, List.set_cons_succ, i64_w, i32_w]
                  rfl
                try simp only [c118b0, Bool.not_true, Bool.not_false]
                refine pure_ (i := 7) (N := some 35) (v := ?_) (a' := ?_) #[true, true, true, true, true, true, true, true, false, false, false, false, false, false, false, false, false, false, false, false, false, false, false, false, false] rfl rfl (by kernel_rfl) (fun _ _ _ h => h) (Or.inl ⟨by rfl, ?_⟩) ?_ ?_
                rotate_left
                · intro w'
                  go_simp
                  with_reducible rfl
                rotate_left
                · simp only [Act.put, List.setIfInBounds_toArray, List.set_cons_zero, List.set_cons_succ, i64_w, i32_w]
                  rfl
                refine pure_ (i := 8) (N := some 36) (v := ?_) (a' := ?_) #[true, true, true, true, true, true, true, true, true, false, false, false, false, false, false, false, false, false, false, false, false, false, false, false, false] rfl rfl (by kernel_rfl) (fun _ _ _ h => h) (Or.inl ⟨by rfl, ?_⟩) ?_ ?_
                rotate_left
                · intro w'
                  go_simp
                  with_reducible rfl
                rotate_left
                · simp only [Act.put, List.setIfInBounds_toArray, List.set_cons_zero, List.set_cons_succ, i64_w, i32_w]
                  rfl
                refine pure_ (i := 9) (N := some 37) (v := ?_) (a' := ?_) #[true, true, true, true, true, true, true, true, true, true, false, false, false, false, false, false, false, false, false, false, false, false, false, false, false] rfl rfl (by kernel_rfl) (fun _ _ _ h => h) (Or.inl ⟨by rfl, ?_⟩) ?_ ?_
                rotate_left
                · intro w'
                  go_simp
                  with_reducible rfl
                rotate_left
                · simp only [Act.put, List.setIfInBounds_toArray, List.set_cons_zero, List.set_cons_succ, i64_w, i32_w]
                  rfl
                by_cases c119 : a33 ≥ 0
                · replace H := if_yes c119 H
                  have c119b0 : decide (0 ≤ a33) = true := decide_eq_true c119
                  clear c119
                  try simp only [c119b0, Bool.not_true, Bool.not_false]
                  refine pure_ (i := 10) (N := some 38) (v := ?_) (a' := ?_) #[true, true, true, true, true, true, true, true, true, true, true, false, false, false, false, false, false, false, false, false, false, false, false, false, false] rfl rfl (by kernel_rfl) (fun _ _ _ h => h) (Or.inl ⟨by rfl, ?_⟩) ?_ ?_
                  rotate_left
                  · intro w'
                    go_simp
                    with_reducible rfl
                  rotate_left
                  · simp only [Act.put, List.setIfInBounds_toArray, List.set_cons_zero, List.set_cons_succ, i64_w, i32_w]
                    rfl
                  try simp only [c119b0, Bool.not_true, Bool.not_false]
                  refine take_ (i := 11) (N := some 39) (v := ?_) (a' := ?_) #[true, true, true, true, true, true, true, true, true, true, true, true, false, false, false, false, false, false, false, false, false, false, false, false, false] rfl rfl (by kernel_rfl) (fun _ _ _ h => h) (Or.inl ⟨by rfl, ?_⟩) hHeld ?_ ?_
                  rotate_left
                  · rintro w' hS'
                    obtain ⟨s0, s1, s2, s3, s4, s5, s6, s7, s8, s9, s10, s11⟩ := hS'
                    go_simp
                    with_reducible rfl
                  rotate_left
                  · simp only [Act.put, List.setIfInBounds_toArray, List.set_cons_zero, List.set_cons_succ, i64_w, i32_w]
                    rfl
                  try simp only [c119b0, Bool.not_true, Bool.not_false]
                  refine pure_ (i := 12) (N := some 40) (v := ?_) (a' := ?_) #[true, true, true, true, true, true, true, true, true, true, true, true, true, false, false, false, false, false, false, false, false, false, false, false, false] rfl rfl (by kernel_rfl) (fun _ _ _ h => h) (Or.inl ⟨by rfl, ?_⟩) ?_ ?_
                  rotate_left
                  · intro w'
                    go_simp
                    with_reducible rfl
                  rotate_left
                  · simp only [Act.put, List.setIfInBounds_toArray, List.set_cons_zero, List.set_cons_succ, i64_w, i32_w]
                    rfl
                  refine pure_ (i := 13) (N := some 41) (v := ?_) (a' := ?_) #[true, true, true, true, true, true, true, true, true, true, true, true, true, true, false, false, false, false, false, false, false, false, false, false, false] rfl rfl (by kernel_rfl) (fun _ _ _ h => h) (Or.inl ⟨by rfl, ?_⟩) ?_ ?_
                  rotate_left
                  · intro w'
                    go_simp
                    with_reducible rfl
                  rotate_left
                  · simp only [Act.put, List.setIfInBounds_toArray, List.set_cons_zero, List.set_cons_succ, i64_w, i32_w]
                    rfl
                  refine pure_ (i := 14) (N := some 42) (v := ?_) (a' := ?_) #[true, true, true, true, true, true, true, true, true, true, true, true, true, true, true, false, false, false, false, false, false, false, false, false, false] rfl rfl (by kernel_rfl) (fun _ _ _ h => h) (Or.inl ⟨by rfl, ?_⟩) ?_ ?_
                  rotate_left
                  · intro w'
                    go_simp
                    with_reducible rfl
                  rotate_left
                  · simp only [Act.put, List.setIfInBounds_toArray, List.set_cons_zero, List.set_cons_succ, i64_w, i32_w]
                    rfl
                  by_cases c120 : a33 < 1048576
                  · replace H := if_yes c120 H
                    have c120b0 : decide (a33 < 1048576) = true := decide_eq_true c120
                    clear c120
                    try simp only [c120b0, Bool.not_true, Bool.not_false]
                    refine pure_ (i := 15) (N := some 43) (v := ?_) (a' := ?_) #[true, true, true, true, true, true, true, true, true, true, true, true, true, true, true, true, false, false, false, false, false, false, false, false, false] rfl rfl (by kernel_rfl) (fun _ _ _ h => h) (Or.inl ⟨by rfl, ?_⟩) ?_ ?_
                    rotate_left
                    · intro w'
                      go_simp
                      with_reducible rfl
                    rotate_left
                    · simp only [Act.put, List.setIfInBounds_toArray, List.set_cons_zero, List.set_cons_succ, i64_w, i32_w]
                      rfl
                    try simp only [c120b0, Bool.not_true, Bool.not_false]
                    refine take_ (i := 16) (N := some 44) (v := ?_) (a' := ?_) #[true, true, true, true, true, true, true, true, true, true, true, true, true, true, true, true, true, false, false, false, false, false, false, false, false] rfl rfl (by kernel_rfl) (fun _ _ _ h => h) (Or.inl ⟨by rfl, ?_⟩) hHeld ?_ ?_
                    rotate_left
                    · rintro w' hS'
                      obtain ⟨s0, s1, s2, s3, s4, s5, s6, s7, s8, s9, s10, s11⟩ := hS'
                      go_simp
                      with_reducible rfl
                    rotate_left
                    · simp only [Act.put, List.setIfInBounds_toArray, List.set_cons_zero, List.set_cons_succ, i64_w, i32_w]
                      rfl
                    try simp only [c120b0, Bool.not_true, Bool.not_false]
                    refine pure_ (i := 17) (N := some 45) (v := ?_) (a' := ?_) #[true, true, true, true, true, true, true, true, true, true, true, true, true, true, true, true, true, true, false, false, false, false, false, false, false] rfl rfl (by kernel_rfl) (fun _ _ _ h => h) (Or.inl ⟨by rfl, ?_⟩) ?_ ?_
                    rotate_left
                    · intro w'
                      go_simp
                      with_reducible rfl
                    rotate_left
                    · simp only [Act.put, List.setIfInBounds_toArray, List.set_cons_zero, List.set_cons_succ, i64_w, i32_w]
                      rfl
                    try simp only [c120b0, Bool.not_true, Bool.not_false]
                    refine pure_ (i := 18) (N := some 46) (v := ?_) (a' := ?_) #[true, true, true, true, true, true, true, true, true, true, true, true, true, true, true, true, true, true, true, false, false, false, false, false, false] rfl rfl (by kernel_rfl) (fun _ _ _ h => h) (Or.inl ⟨by rfl, ?_⟩) ?_ ?_
                    rotate_left
                    · intro w'
                      go_simp
                      with_reducible rfl
                    rotate_left
                    · simp only [Act.put, List.setIfInBounds_toArray, List.set_cons_zero, List.set_cons_succ, i64_w, i32_w]
                      rfl
                    by_cases c121 : a27 = 3
                    · replace H := if_yes c121 H
                      have c121b0 : (a27 == 3) = true := beq_iff_eq.mpr c121
                      have c121b1 : (a27 != 3) = false := bne_eq_false_iff_eq.mpr c121
                      clear c121
                      try simp only [c121b0, c121b1, Bool.not_true, Bool.not_false]
                      refine pure_ (i := 19) (N := some 47) (v := undef) (a' := ?_) #[true, true, true, true, true, true, true, true, true, true, true, true, true, true, true, true, true, true, true, true, false, false, false, false, false] rfl rfl (by kernel_rfl) (fun _ _ _ h => h) (Or.inr ⟨by rfl, rfl⟩) ?_ ?_
                      rotate_left
                      · simp only [Act.put, List.setIfInBounds_toArray, List.set_cons_zero, List.set_cons_succ, i64_w, i32_w]
                        rfl
                      try simp only [c121b0, c121b1, Bool.not_true, Bool.not_false]
                      refine pure_ (i := 20) (N := some 48) (v := undef) (a' := ?_) #[true, true, true, true, true, true, true, true, true, true, true, true, true, true, true, true, true, true, true, true, true, false, false, false, false] rfl rfl (by kernel_rfl) (fun _ _ _ h => h) (Or.inr ⟨by rfl, rfl⟩) ?_ ?_
                      rotate_left
                      · simp only [Act.put, List.setIfInBounds_toArray, List.set_cons_zero, List.set_cons_succ, i64_w, i32_w]
                        rfl
                      try simp only [c121b0, c121b1, Bool.not_true, Bool.not_false]
                      refine pure_ (i := 21) (N := some 49) (v := undef) (a' := ?_) #[true, true, true, true, true, true, true, true, true, true, true, true, true, true, true, true, true, true, true, true, true, true, false, false, false] rfl rfl (by kernel_rfl) (fun _ _ _ h => h) (Or.inr ⟨by rfl, rfl⟩) ?_ ?_
                      rotate_left
                      · simp only [Act.put, List.setIfInBounds_toArray, List.set_cons_zero, List.set_cons_succ, i64_w, i32_w]
                        rfl
                      try simp only [c120b0, Bool.not_true, Bool.not_false]
                      refine pure_ (i := 22) (N := some 50) (v := ?_) (a' := ?_) #[true, true, true, true, true, true, true, true, true, true, true, true, true, true, true, true, true, true, true, true, true, true, true, false, false] rfl rfl (by kernel_rfl) (fun _ _ _ h => h) (Or.inl ⟨by rfl, ?_⟩) ?_ ?_
                      rotate_left
                      · intro w'
                        go_simp
                        with_reducible rfl
                      rotate_left
                      · simp only [Act.put, List.setIfInBounds_toArray, List.set_cons_zero, List.set_cons_succ, i64_w, i32_w]
                        rfl
                      refine pure_ (i := 23) (N := some 51) (v := ?_) (a' := ?_) #[true, true, true, true, true, true, true, true, true, true, true, true, true, true, true, true, true, true, true, true, true, true, true, true, false] rfl rfl (by kernel_rfl) (fun _ _ _ h => h) (Or.inl ⟨by rfl, ?_⟩) ?_ ?_
                      rotate_left
                      · intro w'
                        go_simp
                        with_reducible rfl
                      rotate_left
                      · simp only [Act.put, List.setIfInBounds_toArray, List.set_cons_zero, List.set_cons_succ, i64_w, i32_w]
                        rfl
                      refine pure_ (i := 24) (N := some 2) (v := ?_) (a' := ?_) #[true, true, true, true, true, true, true, true, true, true, true, true, true, true, true, true, true, true, true, true, true, true, true, true, true] rfl rfl (by kernel_rfl) (fun _ _ _ h => h) (Or.inl ⟨by rfl, ?_⟩) ?_ ?_
                      rotate_left
                      · intro w'
                        go_simp
                        with_reducible rfl
                      rotate_left
                      · simp only [Act.put, List.setIfInBounds_toArray, List.set_cons_zero, List.set_cons_succ, i64_w, i32_w]
                        rfl
                      refine done_ (by kernel_rfl) ?_
                      replace HS : Aside0 (Sep (fps []) w [] w114) := ⟨HS.out.sub (.cons _ .slnil)⟩
                      go_wp2_with fail
                      go_ret
                      rw [← some_eq H]
                      exact ⟨(by first | rfl | (simp [IntKind.wrap_u32]; done)), HS.out⟩
                    · replace H := if_no c121 H
                      have c121b0 : (a27 == 3) = false := beq_eq_false_iff_ne.mpr c121
                      have c121b1 : (a27 != 3) = true := bne_iff_ne.mpr c121
                      clear c121
                      try simp only [c121b0, c121b1, Bool.not_true, Bool.not_false]
                      refine pure_ (i := 19) (N := some 47) (v := ?_) (a' := ?_) #[true, true, true, true, true, true, true, true, true, true, true, true, true, true, true, true, true, true, true, true, false, false, false, false, false] rfl rfl (by kernel_rfl) (fun _ _ _ h => h) (Or.inl ⟨by rfl, ?_⟩) ?_ ?_
                      rotate_left
                      · intro w'
                        go_simp
                        with_reducible rfl
                      rotate_left
                      · simp only [Act.put, List.setIfInBounds_toArray, List.set_cons_zero, List.set_cons_succ, i64_w, i32_w]
                        rfl
                      try simp only [c121b0, c121b1, Bool.not_true, Bool.not_false]
                      refine take_ (i := 20) (N := some 48) (v := ?_) (a' := ?_) #[true, true, true, true, true, true, true, true, true, true, true, true, true, true, true, true, true, true, true, true, true, false, false, false, false] rfl rfl (by kernel_rfl) (fun _ _ _ h => h) (Or.inl ⟨by rfl, ?_⟩) hHeld ?_ ?_
                      rotate_left
                      · rintro w' hS'
                        obtain ⟨s0, s1, s2, s3, s4, s5, s6, s7, s8, s9, s10, s11⟩ := hS'
                        go_simp
                        with_reducible rfl
                      rotate_left
                      · simp only [Act.put, List.setIfInBounds_toArray, List.set_cons_zero, List.set_cons_succ, i64_w, i32_w]
                        rfl
                      try simp only [c121b0, c121b1, Bool.not_true, Bool.not_false]
                      refine pure_ (i := 21) (N := some 49) (v := ?_) (a' := ?_) #[true, true, true, true, true, true, true, true, true, true, true, true, true, true, true, true, true, true, true, true, true, true, false, false, false] rfl rfl (by kernel_rfl) (fun _ _ _ h => h) (Or.inl ⟨by rfl, ?_⟩) ?_ ?_
                      rotate_left
                      · intro w'
                        go_simp
                        with_reducible rfl
                      rotate_left
                      · simp only [Act.put, List.setIfInBounds_toArray, List.set_cons_zero, List.set_cons_succ, i64_w, i32_w]
                        rfl
                      try simp only [c120b0, Bool.not_true, Bool.not_false]
                      refine pure_ (i := 22) (N := some 50) (v := ?_) (a' := ?_) #[true, true, true, true, true, true, true, true, true, true, true, true, true, true, true, true, true, true, true, true, true, true, true, false, false] rfl rfl (by kernel_rfl) (fun _ _ _ h => h) (Or.inl ⟨by rfl, ?_⟩) ?_ ?_
                      rotate_left
                      · intro w'
                        go_simp
                        with_reducible rfl
                      rotate_left
                      · simp only [Act.put, List.setIfInBounds_toArray, List.set_cons_zero, List.set_cons_succ, i64_w, i32_w]
                        rfl
                      refine pure_ (i := 23) (N := some 51) (v := ?_) (a' := ?_) #[true, true, true, true, true, true, true, true, true, true, true, true, true, true, true, true, true, true, true, true, true, true, true, true, false] rfl rfl (by kernel_rfl) (fun _ _ _ h => h) (Or.inl ⟨by rfl, ?_⟩) ?_ ?_
                      rotate_left
                      · intro w'
                        go_simp
                        with_reducible rfl
                      rotate_left
                      · simp only [Act.put, List.setIfInBounds_toArray, List.set_cons_zero, List.set_cons_succ, i64_w, i32_w]
                        rfl
                      refine pure_ (i := 24) (N := some 2) (v := ?_) (a' := ?_) #[true, true, true, true, true, true, true, true, true, true, true, true, true, true, true, true, true, true, true, true, true, true, true, true, true] rfl rfl (by kernel_rfl) (fun _ _ _ h => h) (Or.inl ⟨by rfl, ?_⟩) ?_ ?_
                      rotate_left
                      · intro w'
                        go_simp
                        with_reducible rfl
                      rotate_left
                      · simp only [Act.put, List.setIfInBounds_toArray, List.set_cons_zero, List.set_cons_succ, i64_w, i32_w]
                        rfl
                      refine done_ (by kernel_rfl) ?_
                      replace HS : Aside0 (Sep (fps []) w [] w114) := ⟨HS.out.sub (.cons _ .slnil)⟩
                      go_wp2_with fail
                      go_ret
                      rw [← some_eq H]
                      exact ⟨(by first | rfl | (simp [IntKind.wrap_u32]; done)), HS.out⟩
                  · replace H := if_no c120 H
                    have c120b0 : decide (a33 < 1048576) = false := decide_eq_false c120
                    clear c120
                    try simp only [c120b0, Bool.not_true, Bool.not_false]
                    refine pure_ (i := 15) (N := some 43) (v := undef) (a' := ?_) #[true, true, true, true, true, true, true, true, true, true, true, true, true, true, true, true, false, false, false, false, false, false, false, false, false] rfl rfl (by kernel_rfl) (fun _ _ _ h => h) (Or.inr ⟨by rfl, rfl⟩) ?_ ?_
                    rotate_left
                    · simp only [Act.put, List.setIfInBounds_toArray, List.set_cons_zero, List.set_cons_succ, i64_w, i32_w]
                      rfl
                    try simp only [c120b0, Bool.not_true, Bool.not_false]
                    refine pure_ (i := 16) (N := some 44) (v := undef) (a' := ?_) #[true, true, true, true, true, true, true, true, true, true, true, true, true, true, true, true, true, false, false, false, false, false, false, false, false] rfl rfl (by kernel_rfl) (fun _ _ _ h => h) (Or.inr ⟨by rfl, rfl⟩) ?_ ?_
                    rotate_left
                    · simp only [Act.put, List.setIfInBounds_toArray, List.set_cons_zero, List.set_cons_succ, i64_w, i32_w]
                      rfl
                    try simp only [c120b0, Bool.not_true, Bool.not_false]
                    refine pure_ (i := 17) (N := some 45) (v := undef) (a' := ?_) #[true, true, true, true, true, true, true, true, true, true, true, true, true, true, true, true, true, true, false, false, false, false, false, false, false] rfl rfl (by kernel_rfl) (fun _ _ _ h => h) (Or.inr ⟨by rfl, rfl⟩) ?_ ?_
                    rotate_left
                    · simp only [Act.put, List.setIfInBounds_toArray, List.set_cons_zero, List.set_cons_succ, i64_w, i32_w]
                      rfl
                    try simp only [c120b0, Bool.not_true, Bool.not_false]
                    refine pure_ (i := 18) (N := some 46) (v := undef) (a' := ?_) #[true, true, true, true, true, true, true, true, true, true, true, true, true, true, true, true, true, true, true, false, false, false, false, false, false] rfl rfl (by kernel_rfl) (fun _ _ _ h => h) (Or.inr ⟨by rfl, rfl⟩) ?_ ?_
                    rotate_left
                    · simp only [Act.put, List.setIfInBounds_toArray, List.set_cons_zero, List.set_cons_succ, i64_w, i32_w]
                      rfl
                    refine pure_ (i := 19) (N := some 47) (v := undef) (a' := ?_) #[true, true, true, true, true, true, true, true, true, true, true, true, true, true, true, true, true, true, true, true, false, false, false, false, false] rfl rfl (by kernel_rfl) (fun _ _ _ h => h) (Or.inr ⟨by rfl, rfl⟩) ?_ ?_
                    rotate_left
                    · simp only [Act.put, List.setIfInBounds_toArray, List.set_cons_zero, List.set_cons_succ, i64_w, i32_w]
                      rfl
                    refine pure_ (i := 20) (N := some 48) (v := undef) (a' := ?_) #[true, true, true, true, true, true, true, true, true, true, true, true, true, true, true, true, true, true, true, true, true, false, false, false, false] rfl rfl (by kernel_rfl) (fun _ _ _ h => h) (Or.inr ⟨by rfl, rfl⟩) ?_ ?_
                    rotate_left
                    · simp only [Act.put, List.setIfInBounds_toArray, List.set_cons_zero, List.set_cons_succ, i64_w, i32_w]
                      rfl
                    refine pure_ (i := 21) (N := some 49) (v := undef) (a' := ?_) #[true, true, true, true, true, true, true, true, true, true, true, true, true, true, true, true, true, true, true, true, true, true, false, false, false] rfl rfl (by kernel_rfl) (fun _ _ _ h => h) (Or.inr ⟨by rfl, rfl⟩) ?_ ?_
                    rotate_left
                    · simp only [Act.put, List.setIfInBounds_toArray, List.set_cons_zero, List.set_cons_succ, i64_w, i32_w]
                      rfl
                    try simp only [c120b0, Bool.not_true, Bool.not_false]
                    refine pure_ (i := 22) (N := some 50) (v := undef) (a' := ?_) #[true, true, true, true, true, true, true, true, true, true, true, true, true, true, true, true, true, true, true, true, true, true, true, false, false] rfl rfl (by kernel_rfl) (fun _ _ _ h => h) (Or.inr ⟨by rfl, rfl⟩) ?_ ?_
                    rotate_left
                    · simp only [Act.put, List.setIfInBounds_toArray, List.set_cons_zero, List.set_cons_succ, i64_w, i32_w]
                      rfl
                    refine pure_ (i := 23) (N := some 51) (v := ?_) (a' := ?_) #[true, true, true, true, true, true, true, true, true, true, true, true, true, true, true, true, true, true, true, true, true, true, true, true, false] rfl rfl (by kernel_rfl) (fun _ _ _ h => h) (Or.inl ⟨by rfl, ?_⟩) ?_ ?_
                    rotate_left
                    · intro w'
                      go_simp
                      with_reducible rfl
                    rotate_left
                    · simp only [Act.put, List.setIfInBounds_toArray, List.set_cons_zero, List.set_cons_succ, i64_w, i32_w]
                      rfl
                    refine pure_ (i := 24) (N := some 2) (v := ?_) (a' := ?_) #[true, true, true, true, true, true, true, true, true, true, true, true, true, true, true, true, true, true, true, true, true, true, true, true, true] rfl rfl (by kernel_rfl) (fun _ _ _ h => h) (Or.inl ⟨by rfl, ?_⟩) ?_ ?_
                    rotate_left
                    · intro w'
                      go_simp
                      with_reducible rfl
                    rotate_left
                    · simp only [Act.put, List.setIfInBounds_toArray, List.set_cons_zero, List.set_cons_succ, i64_w, i32_w]
                      rfl
                    refine done_ (by kernel_rfl) ?_
                    replace HS : Aside0 (Sep (fps []) w [] w114) := ⟨HS.out.sub (.cons _ .slnil)⟩
                    go_wp2_with fail
                    go_ret
                    rw [← some_eq H]
                    exact ⟨(by first | rfl | (simp [IntKind.wrap_u32]; done)), HS.out⟩
                · replace H := if_no c119 H
                  have c119b0 : decide (0 ≤ a33) = false := decide_eq_false c119
                  clear c119
                  try simp only [c119b0, Bool.not_true, Bool.not_false]
                  refine pure_ (i := 10) (N := some 38) (v := undef) (a' := ?_) #[true, true, true, true, true, true, true, true, true, true, true, false, false, false, false, false, false, false, false, false, false, false, false, false, false] rfl rfl (by kernel_rfl) (fun _ _ _ h => h) (Or.inr ⟨by rfl, rfl⟩) ?_ ?_
                  rotate_left
                  · simp only [Act.put, List.setIfInBounds_toArray, List.set_cons_zero, List.set_cons_succ, i64_w, i32_w]
                    rfl
                  try simp only [c119b0, Bool.not_true, Bool.not_false]
                  refine pure_ (i := 11) (N := some 39) (v := undef) (a' := ?_) #[true, true, true, true, true, true, true, true, true, true, true, true, false, false, false, false, false, false, false, false, false, false, false, false, false] rfl rfl (by kernel_rfl) (fun _ _ _ h => h) (Or.inr ⟨by rfl, rfl⟩) ?_ ?_
                  rotate_left
                  · simp only [Act.put, List.setIfInBounds_toArray, List.set_cons_zero, List.set_cons_succ, i64_w, i32_w]
                    rfl
                  try simp only [c119b0, Bool.not_true, Bool.not_false]
                  refine pure_ (i := 12) (N := some 40) (v := undef) (a' := ?_) #[true, true, true, true, true, true, true, true, true, true, true, true, true, false, false, false, false, false, false, false, false, false, false, false, false] rfl rfl (by kernel_rfl) (fun _ _ _ h => h) (Or.inr ⟨by rfl, rfl⟩) ?_ ?_
                  rotate_left
                  · simp only [Act.put, List.setIfInBounds_toArray, List.set_cons_zero, List.set_cons_succ, i64_w, i32_w]
                    rfl
                  refine pure_ (i := 13) (N := some 41) (v := ?_) (a' := ?_) #[true, true, true, true, true, true, true, true, true, true, true, true, true, true, false, false, false, false, false, false, false, false, false, false, false] rfl rfl (by kernel_rfl) (fun _ _ _ h => h) (Or.inl ⟨by rfl, ?_⟩) ?_ ?_
                  rotate_left
                  · intro w'
                    go_simp
                    with_reducible rfl
                  rotate_left
                  · simp only [Act.put, List.setIfInBounds_toArray, List.set_cons_zero, List.set_cons_succ, i64_w, i32_w]
                    rfl
                  refine pure_ (i := 14) (N := some 42) (v := ?_) (a' := ?_) #[true, true, true, true, true, true, true, true, true, true, true, true, true, true, true, false, false, false, false, false, false, false, false, false, false] rfl rfl (by kernel_rfl) (fun _ _ _ h => h) (Or.inl ⟨by rfl, ?_⟩) ?_ ?_
                  rotate_left
                  · intro w'
                    go_simp
                    with_reducible rfl
                  rotate_left
                  · simp only [Act.put, List.setIfInBounds_toArray, List.set_cons_zero, List.set_cons_succ, i64_w, i32_w]
                    rfl
                  refine pure_ (i := 15) (N := some 43) (v := undef) (a' := ?_) #[true, true, true, true, true, true, true, true, true, true, true, true, true, true, true, true, false, false, false, false, false, false, false, false, false] rfl rfl (by kernel_rfl) (fun _ _ _ h => h) (Or.inr ⟨by rfl, rfl⟩) ?_ ?_
                  rotate_left
                  · simp only [Act.put, List.setIfInBounds_toArray, List.set_cons_zero, List.set_cons_succ, i64_w, i32_w]
                    rfl
                  refine pure_ (i := 16) (N := some 44) (v := undef) (a' := ?_) #[true, true, true, true, true, true, true, true, true, true, true, true, true, true, true, true, true, false, false, false, false, false, false, false, false] rfl rfl (by kernel_rfl) (fun _ _ _ h => h) (Or.inr ⟨by rfl, rfl⟩) ?_ ?_
                  rotate_left
                  · simp only [Act.put, List.setIfInBounds_toArray, List.set_cons_zero, List.set_cons_succ, i64_w, i32_w]
                    rfl
                  refine pure_ (i := 17) (N := some 45) (v := undef) (a' := ?_) #[true, true, true, true, true, true, true, true, true, true, true, true, true, true, true, true, true, true, false, false, false, false, false, false, false] rfl rfl (by kernel_rfl) (fun _ _ _ h => h) (Or.inr ⟨by rfl, rfl⟩) ?_ ?_
                  rotate_left
                  · simp only [Act.put, List.setIfInBounds_toArray, List.set_cons_zero, List.set_cons_succ, i64_w, i32_w]
                    rfl
                  refine pure_ (i := 18) (N := some 46) (v := undef) (a' := ?_) #[true, true, true, true, true, true, true, true, true, true, true, true, true, true, true, true, true, true, true, false, false, false, false, false, false] rfl rfl (by kernel_rfl) (fun _ _ _ h => h) (Or.inr ⟨by rfl, rfl⟩) ?_ ?_
                  rotate_left
                  · simp only [Act.put, List.setIfInBounds_toArray, List.set_cons_zero, List.set_cons_succ, i64_w, i32_w]
                    rfl
                  refine pure_ (i := 19) (N := some 47) (v := undef) (a' := ?_) #[true, true, true, true, true, true, true, true, true, true, true, true, true, true, true, true, true, true, true, true, false, false, false, false, false] rfl rfl (by kernel_rfl) (fun _ _ _ h => h) (Or.inr ⟨by rfl, rfl⟩) ?_ ?_
                  rotate_left
                  · simp only [Act.put, List.setIfInBounds_toArray, List.set_cons_zero, List.set_cons_succ, i64_w, i32_w]
                    rfl
                  refine pure_ (i := 20) (N := some 48) (v := undef) (a' := ?_) #[true, true, true, true, true, true, true, true, true, true, true, true, true, true, true, true, true, true, true, true, true, false, false, false, false] rfl rfl (by kernel_rfl) (fun _ _ _ h => h) (Or.inr ⟨by rfl, rfl⟩) ?_ ?_
                  rotate_left
                  · simp only [Act.put, List.setIfInBounds_toArray, List.set_cons_zero, List.set_cons_succ, i64_w, i32_w]
                    rfl
                  refine pure_ (i := 21) (N := some 49) (v := undef) (a' := ?_) #[true, true, true, true, true, true, true, true, true, true, true, true, true, true, true, true, true, true, true, true, true, true, false, false, false] rfl rfl (by kernel_rfl) (fun _ _ _ h => h) (Or.inr ⟨by rfl, rfl⟩) ?_ ?_
                  rotate_left
                  · simp only [Act.put, List.setIfInBounds_toArray, List.set_cons_zero, List.set_cons_succ, i64_w, i32_w]
                    rfl
                  refine pure_ (i := 22) (N := some 50) (v := undef) (a' := ?_) #[true, true, true, true, true, true, true, true, true, true, true, true, true, true, true, true, true, true, true, true, true, true, true, false, false] rfl rfl (by kernel_rfl) (fun _ _ _ h => h) (Or.inr ⟨by rfl, rfl⟩) ?_ ?_
                  rotate_left
                  · simp only [Act.put, List.setIfInBounds_toArray, List.set_cons_zero, List.set_cons_succ, i64_w, i32_w]
                    rfl
                  refine pure_ (i := 23) (N := some 51) (v := ?_) (a' := ?_) #[true, true, true, true, true, true, true, true, true, true, true, true, true, true, true, true, true, true, true, true, true, true, true, true, false] rfl rfl (by kernel_rfl) (fun _ _ _ h => h) (Or.inl ⟨by rfl, ?_⟩) ?_ ?_
                  rotate_left
                  · intro w'
                    go_simp
                    with_reducible rfl
                  rotate_left
                  · simp only [Act.put, List.setIfInBounds_toArray, List.set_cons_zero, List.set_cons_succ, i64_w, i32_w]
                    rfl
                  refine pure_ (i := 24) (N := some 2) (v := ?_) (a' := ?_) #[true, true, true, true, true, true, true, true, true, true, true, true, true, true, true, true, true, true, true, true, true, true, true, true, true] rfl rfl (by kernel_rfl) (fun _ _ _ h => h) (Or.inl ⟨by rfl, ?_⟩) ?_ ?_
                  rotate_left
                  · intro w'
                    go_simp
                    with_reducible rfl
                  rotate_left
                  · simp only [Act.put, List.setIfInBounds_toArray, List.set_cons_zero, List.set_cons_succ, i64_w, i32_w]
                    rfl
                  refine done_ (by kernel_rfl) ?_
                  replace HS : Aside0 (Sep (fps []) w [] w114) := ⟨HS.out.sub (.cons _ .slnil)⟩
                  go_wp2_with fail
                  go_ret
                  rw [← some_eq H]
                  exact ⟨(by first | rfl | (simp [IntKind.wrap_u32]; done)), HS.out⟩
              · replace H := if_no c118 H
                have c118b0 : b116 = false := by simpa using c118
                have c118b1 : (!b116) = true := by rw [c118b0]; rfl
                clear c118
                try simp only [c118b0, Bool.not_true, Bool.not_false]
                refine pure_ (i := 5) (N := some 33) (v := undef) (a' := ?_) #[true, true, true, true, true, true, false, false, false, false, false, false, false, false, false, false, false, false, false, false, false, false, false, false, false] rfl rfl (by kernel_rfl) (fun _ _ _ h => h) (Or.inr ⟨by rfl, rfl⟩) ?_ ?_
                rotate_left
                · simp only [Act.put, List.setIfInBounds_toArray, List.set_cons_zero, List.set_cons_succ, i64_w, i32_w]
                  rfl
                try simp only [c118b0, Bool.not_true, Bool.not_false]
                refine pure_ (i := 6) (N := some 34) (v := undef) (a' := ?_) #[true, true, true, true, true, true, true, false, false, false, false, false, false, false, false, false, false, false, false, false, false, false, false, false, false] rfl rfl (by kernel_rfl) (fun _ _ _ h => h) (Or.inr ⟨by rfl, rfl⟩) ?_ ?_
                rotate_left
                · simp only [Act.put, List.setIfInBounds_toArray, List.set_cons_zero, List.set_cons_succ, i64_w, i32_w]
                  rfl
                try simp only [c118b0, Bool.not_true, Bool.not_false]
                refine pure_ (i := 7) (N := some 35) (v := undef) (a' := ?_) #[true, true, true, true, true, true, true, true, false, false, false, false, false, false, false, false, false, false, false, false, false, false, false, false, false] rfl rfl (by kernel_rfl) (fun _ _ _ h => h) (Or.inr ⟨by rfl, rfl⟩) ?_ ?_
                rotate_left
                · simp only [Act.put, List.setIfInBounds_toArray, List.set_cons_zero, List.set_cons_succ, i64_w, i32_w]
                  rfl
                refine pure_ (i := 8) (N := some 36) (v := ?_) (a' := ?_) #[true, true, true, true, true, true, true, true, true, false, false, false, false, false, false, false, false, false, false, false, false, false, false, false, false] rfl rfl (by kernel_rfl) (fun _ _ _ h => h) (Or.inl ⟨by rfl, ?_⟩) ?_ ?_
                rotate_left
                · intro w'
                  go_simp
                  with_reducible rfl
                rotate_left
                · simp only [Act.put, List.setIfInBounds_toArray, List.set_cons_zero, List.set_cons_succ, i64_w, i32_w]
                  rfl
                refine pure_ (i := 9) (N := some 37) (v := ?_) (a' := ?_) #[true, true, true, true, true, true, true, true, true, true, false, false, false, false, false, false, false, false, false, false, false, false, false, false, false] rfl rfl (by kernel_rfl) (fun _ _ _ h => h) (Or.inl ⟨by rfl, ?_⟩) ?_ ?_
                rotate_left
                · intro w'
                  go_simp
                  with_reducible rfl
                rotate_left
                · simp only [Act.put, List.setIfInBounds_toArray, List.set_cons_zero, List.set_cons_succ, i64_w, i32_w]
                  rfl
                refine pure_ (i := 10) (N := some 38) (v := undef) (a' := ?_) #[true, true, true, true, true, true, true, true, true, true, true, false, false, false, false, false, false, false, false, false, false, false, false, false, false] rfl rfl (by kernel_rfl) (fun _ _ _ h => h) (Or.inr ⟨by rfl, rfl⟩) ?_ ?_
                rotate_left
                · simp only [Act.put, List.setIfInBounds_toArray, List.set_cons_zero, List.set_cons_succ, i64_w, i32_w]
                  rfl
                refine pure_ (i := 11) (N := some 39) (v := undef) (a' := ?_) #[true, true, true, true, true, true, true, true, true, true, true, true, false, false, false, false, false, false, false, false, false, false, false, false, false] rfl rfl (by kernel_rfl) (fun _ _ _ h => h) (Or.inr ⟨by rfl, rfl⟩) ?_ ?_
                rotate_left
                · simp only [Act.put, List.setIfInBounds_toArray, List.set_cons_zero, List.set_cons_succ, i64_w, i32_w]
                  rfl
                refine pure_ (i := 12) (N := some 40) (v := undef) (a' := ?_) #[true, true, true, true, true, true, true, true, true, true, true, true, true, false, false, false, false, false, false, false, false, false, false, false, false] rfl rfl (by kernel_rfl) (fun _ _ _ h => h) (Or.inr ⟨by rfl, rfl⟩) ?_ ?_
                rotate_left
                · simp only [Act.put, List.setIfInBounds_toArray, List.set_cons_zero, List.set_cons_succ, i64_w, i32_w]
                  rfl
                refine pure_ (i := 13) (N := some 41) (v := ?_) (a' := ?_) #[true, true, true, true, true, true, true, true, true, true, true, true, true, true, false, false, false, false, false, false, false, false, false, false, false] rfl rfl (by kernel_rfl) (fun _ _ _ h => h) (Or.inl ⟨by rfl, ?_⟩) ?_ ?_
                rotate_left
                · intro w'
                  go_simp
                  with_reducible rfl
                rotate_left
                · simp only [Act.put, List.setIfInBounds_toArray, List.set_cons_zero, List.set_cons_succ, i64_w, i32_w]
                  rfl
                refine pure_ (i := 14) (N := some 42) (v := ?_) (a' := ?_) #[true, true, true, true, true, true, true, true, true, true, true, true, true, true, true, false, false, false, false, false, false, false, false, false, false] rfl rfl (by kernel_rfl) (fun _ _ _ h => h) (Or.inl ⟨by rfl, ?_⟩) ?_ ?_
                rotate_left
                · intro w'
                  go_simp
                  with_reducible rfl
                rotate_left
                · simp only [Act.put, List.setIfInBounds_toArray, List.set_cons_zero, List.set_cons_succ, i64_w, i32_w]
                  rfl
                refine pure_ (i := 15) (N := some 43) (v := undef) (a' := ?_) #[true, true, true, true, true, true, true, true, true, true, true, true, true, true, true, true, false, false, false, false, false, false, false, false, false] rfl rfl (by kernel_rfl) (fun _ _ _ h => h) (Or.inr ⟨by rfl, rfl⟩) ?_ ?_
                rotate_left
                · simp only [Act.put, List.setIfInBounds_toArray, List.set_cons_zero, List.set_cons_succ, i64_w, i32_w]
                  rfl
                refine pure_ (i := 16) (N := some 44) (v := undef) (a' := ?_) #[true, true, true, true, true, true, true, true, true, true, true, true, true, true, true, true, true, false, false, false, false, false, false, false, false] rfl rfl (by kernel_rfl) (fun _ _ _ h => h) (Or.inr ⟨by rfl, rfl⟩) ?_ ?_
                rotate_left
                · simp only [Act.put, List.setIfInBounds_toArray, List.set_cons_zero, List.set_cons_succ, i64_w, i32_w]
                  rfl
                refine pure_ (i := 17) (N := some 45) (v := undef) (a' := ?_) #[true, true, true, true, true, true, true, true, true, true, true, true, true, true, true, true, true, true, false, false, false, false, false, false, false] rfl rfl (by kernel_rfl) (fun _ _ _ h => h) (Or.inr ⟨by rfl, rfl⟩) ?_ ?_
                rotate_left
                · simp only [Act.put, List.setIfInBounds_toArray, List.set_cons_zero, List.set_cons_succ, i64_w, i32_w]
                  rfl
                refine pure_ (i := 18) (N := some 46) (v := undef) (a' := ?_) #[true, true, true, true, true, true, true, true, true, true, true, true, true, true, true, true, true, true, true, false, false, false, false, false, false] rfl rfl (by kernel_rfl) (fun _ _ _ h => h) (Or.inr ⟨by rfl, rfl⟩) ?_ ?_
                rotate_left
                · simp only [Act.put, List.setIfInBounds_toArray, List.set_cons_zero, List.set_cons_succ, i64_w, i32_w]
                  rfl
                refine pure_ (i := 19) (N := some 47) (v := undef) (a' := ?_) #[true, true, true, true, true, true, true, true, true, true, true, true, true, true, true, true, true, true, true, true, false, false, false, false, false] rfl rfl (by kernel_rfl) (fun _ _ _ h => h) (Or.inr ⟨by rfl, rfl⟩) ?_ ?_
                rotate_left
                · simp only [Act.put, List.setIfInBounds_toArray, List.set_cons_zero, List.set_cons_succ, i64_w, i32_w]
                  rfl
                refine pure_ (i := 20) (N := some 48) (v := undef) (a' := ?_) #[true, true, true, true, true, true, true, true, true, true, true, true, true, true, true, true, true, true, true, true, true, false, false, false, false] rfl rfl (by kernel_rfl) (fun _ _ _ h => h) (Or.inr ⟨by rfl, rfl⟩) ?_ ?_
                rotate_left
                · simp only [Act.put, List.setIfInBounds_toArray, List.set_cons_zero, List.set_cons_succ, i64_w, i32_w]
                  rfl
                refine pure_ (i := 21) (N := some 49) (v := undef) (a' := ?_) #[true, true, true, true, true, true, true, true, true, true, true, true, true, true, true, true, true, true, true, true, true, true, false, false, false] rfl rfl (by kernel_rfl) (fun _ _ _ h => h) (Or.inr ⟨by rfl, rfl⟩) ?_ ?_
                rotate_left
                · simp only [Act.put, List.setIfInBounds_toArray, List.set_cons_zero, List.set_cons_succ, i64_w, i32_w]
                  rfl
                refine pure_ (i := 22) (N := some 50) (v := undef) (a' := ?_) #[true, true, true, true, true, true, true, true, true, true, true, true, true, true, true, true, true, true, true, true, true, true, true, false, false] rfl rfl (by kernel_rfl) (fun _ _ _ h => h) (Or.inr ⟨by rfl, rfl⟩) ?_ ?_
                rotate_left
                · simp only [Act.put, List.setIfInBounds_toArray, List.set_cons_zero, List.set_cons_succ, i64_w, i32_w]
                  rfl
                refine pure_ (i := 23) (N := some 51) (v := ?_) (a' := ?_) #[true, true, true, true, true, true, true, true, true, true, true, true, true, true, true, true, true, true, true, true, true, true, true, true, false] rfl rfl (by kernel_rfl) (fun _ _ _ h => h) (Or.inl ⟨by rfl, ?_⟩) ?_ ?_
                rotate_left
                · intro w'
                  go_simp
                  with_reducible rfl
                rotate_left
                · simp only [Act.put, List.setIfInBounds_toArray, List.set_cons_zero, List.set_cons_succ, i64_w, i32_w]
                  rfl
                refine pure_ (i := 24) (N := some 2) (v := ?_) (a' := ?_) #[true, true, true, true, true, true, true, true, true, true, true, true, true, true, true, true, true, true, true, true, true, true, true, true, true] rfl rfl (by kernel_rfl) (fun _ _ _ h => h) (Or.inl ⟨by rfl, ?_⟩) ?_ ?_
                rotate_left
                · intro w'
                  go_simp
                  with_reducible rfl
                rotate_left
                · simp only [Act.put, List.setIfInBounds_toArray, List.set_cons_zero, List.set_cons_succ, i64_w, i32_w]
                  rfl
                refine done_ (by kernel_rfl) ?_
                replace HS : Aside0 (Sep (fps []) w [] w114) := ⟨HS.out.sub (.cons _ .slnil)⟩
                go_wp2_with fail
                go_ret
                rw [← some_eq H]
                exact ⟨(by first | rfl | (simp [IntKind.wrap_u32]; done)), HS.out⟩
            · replace H := if_no c109 H
              have c109b0 : (a27 == 0) = false := beq_eq_false_iff_ne.mpr c109
              have c109b1 : (a27 != 0) = true := bne_iff_ne.mpr c109
              clear c109
              by_cases c122 : a27 = 3
              · replace H := if_yes c122 H
                have c122b0 : (a27 == 3) = true := beq_iff_eq.mpr c122
                have c122b1 : (a27 != 3) = false := bne_eq_false_iff_eq.mpr c122
                clear c122
                have hc104 : w95.cell? ⟨g34, 0, none⟩ = some (.int .i64 a27) := blk_cellv (HS.out.at0) 0 rfl
                go_wp2_with fail
                clear hc104
                refine start_ (n := 25) (S := (fun w' => w'.cell? ⟨g34, 0, none⟩ = some (.int .i64 a27) ∧ w'.cell? ⟨g34, 1, none⟩ = some (.int .i64 a28) ∧ w'.cell? ⟨g34, 2, none⟩ = some (.int .i64 a29) ∧ w'.cell? ⟨g34, 3, none⟩ = some (.int .i64 a30) ∧ w'.cell? ⟨g34, 4, none⟩ = some (.int .i64 a31) ∧ w'.cell? ⟨g34, 5, none⟩ = some (.int .i64 a32) ∧ w'.cell? ⟨g34, 6, none⟩ = some (.int .i64 a33) ∧ w'.cell? ⟨0, 0, none⟩ = some (.int .i64 0) ∧ w'.cell? ⟨0, 1, none⟩ = some (.int .i64 0) ∧ w'.cell? ⟨0, 2, none⟩ = some (.int .i64 0) ∧ w'.cell? ⟨0, 3, none⟩ = some (.int .i64 0) ∧ w'.cell? ⟨0, 4, none⟩ = some (.int .i64 0))) (ds := []) #[false, false, false, false, false, false, false, false, false, false, false, false, false, false, false, false, false, false, false, false, false, false, false, false, false] (by kernel_rfl) rfl rfl (⟨blk_cellv ((HS.out.drew).at0) 0 rfl, blk_cellv ((HS.out.drew).at0) 1 rfl, blk_cellv ((HS.out.drew).at0) 2 rfl, blk_cellv ((HS.out.drew).at0) 3 rfl, blk_cellv ((HS.out.drew).at0) 4 rfl, blk_cellv ((HS.out.drew).at0) 5 rfl, blk_cellv ((HS.out.drew).at0) 6 rfl, Gl.cell HGl0.out (HS.out.drew).fr 0 rfl, Gl.cell HGl0.out (HS.out.drew).fr 1 rfl, Gl.cell HGl0.out (HS.out.drew).fr 2 rfl, Gl.cell HGl0.out (HS.out.drew).fr 3 rfl, Gl.cell HGl0.out (HS.out.drew).fr 4 rfl⟩) (fun hHeld => ?_)
                have HS_ := Aside0.mk HS.out.drew
                clear HS
                generalize World.drew _ = w124 at HS_ hHeld ⊢
                have HS := HS_
                clear HS_
                refine take_ (i := 0) (N := some 28) (v := ?_) (a' := ?_) #[true, false, false, false, false, false, false, false, false, false, false, false, false, false, false, false, false, false, false, false, false, false, false, false, false] rfl rfl (by kernel_rfl) (fun _ _ _ h => h) (Or.inl ⟨by rfl, ?_⟩) hHeld ?_ ?_
                rotate_left
                · rintro w' hS'
                  obtain ⟨s0, s1, s2, s3, s4, s5, s6, s7, s8, s9, s10, s11⟩ := hS'
                  go_simp
                  with_reducible rfl
                rotate_left
                · simp only [Act.put, List.setIfInBounds_toArray, List.set_cons_zero, List.set_cons_succ, i64_w, i32_w]
                  rfl
                refine take_ (i := 2) (N := some 30) (v := ?_) (a' := ?_) #[true, false, true, false, false, false, false, false, false, false, false, false, false, false, false, false, false, false, false, false, false, false, false, false, false] rfl rfl (by kernel_rfl) (fun _ _ _ h => h) (Or.inl ⟨by rfl, ?_⟩) hHeld ?_ ?_
                rotate_left
                · rintro w' hS'
                  obtain ⟨s0, s1, s2, s3, s4, s5, s6, s7, s8, s9, s10, s11⟩ := hS'
                  go_simp
                  with_reducible rfl
                rotate_left
                · simp only [Act.put, List.setIfInBounds_toArray, List.set_cons_zero, List.set_cons_succ, i64_w, i32_w]
                  rfl
                refine one_ (i := 1) (N := some 29) #[true, true, true, false, false, false, false, false, false, false, false, false, false, false, false, false, false, false, false, false, false, false, false, false, false] rfl rfl (by kernel_rfl) (by decide) (fun K hK => ?_)
                obtain ⟨t112, HA125, H⟩ := bind_some H
                refine goes_ Tryd.func68 (by kernel_rfl) rfl #[.agg #[.int .i64 a27, .int .i64 a28, .int .i64 a29, .int .i64 a30, .int .i64 a31, .int .i64 a32, .int .i64 a33]] (by rfl) rfl rfl (by (try simp only [List.map_toArray, List.map_cons, List.map_nil]); first | done | rfl) ?_
                refine (tag_marks.calls a27 a28 a29 a30 a31 a32 a33 t112 _ ⟨HGl0.out.pass (l := []) HS.out⟩ ⟨Sep.start _⟩ HA125).mono ?_
                rintro e_ w126 ⟨rfl, hS⟩
                replace HS : Aside0 (Sep (fps []) w [b1 g34 a27 a28 a29 a30 a31 a32 a33] w126) := ⟨HS.out.call hS⟩
                clear hS
                refine ⟨_, rfl, ?_⟩
                refine hK.out _ _ (⟨blk_cellv (HS.out.at0) 0 rfl, blk_cellv (HS.out.at0) 1 rfl, blk_cellv (HS.out.at0) 2 rfl, blk_cellv (HS.out.at0) 3 rfl, blk_cellv (HS.out.at0) 4 rfl, blk_cellv (HS.out.at0) 5 rfl, blk_cellv (HS.out.at0) 6 rfl, Gl.cell HGl0.out HS.out.fr 0 rfl, Gl.cell HGl0.out HS.out.fr 1 rfl, Gl.cell HGl0.out HS.out.fr 2 rfl, Gl.cell HGl0.out HS.out.fr 3 rfl, Gl.cell HGl0.out HS.out.fr 4 rfl⟩) (fun hHeld => ?_)
                clear hK K
                refine norm_ (a' := ?_) ?_ ?_
                rotate_left
                · show Act.put _ (some 29) _ = _
                  simp only [Act.put, List.setIfInBounds_toArray, List.set_cons_zero, List.set_cons_succ, i64_w, i32_w]
                  rfl
                obtain ⟨b116, HA128, H⟩ := bind_some H
                have eb127 : ∀ w, (Op.equalIn 10000 108 (.agg #[.int .i64 t112.1, .int .i64 t112.2.1, .int .i64 t112.2.2.1, .int .i64 t112.2.2.2.1, .int .i64 t112.2.2.2.2]) (.agg #[.int .i64 0, .int .i64 0, .int .i64 0, .int .i64 0, .int .i64 0])).run Tryd.prog w = .ok b116 w := some_eq HA128 ▸ run_eq_ints 9998 108 3 5 .i64 [t112.1, t112.2.1, t112.2.2.1, t112.2.2.2.1, t112.2.2.2.2] [0, 0, 0, 0, 0] Tryd.underlying108 (by kernel_rfl) (by kernel_rfl) Tryd.underlying3 (fun _ => by kernel_rfl) rfl rfl
                refine pure_ (i := 3) (N := some 31) (v := ?_) (a' := ?_) #[true, true, true, true, false, false, false, false, false, false, false, false, false, false, false, false, false, false, false, false, false, false, false, false, false] rfl rfl (by kernel_rfl) (fun _ _ _ h => h) (Or.inl ⟨by rfl, ?_⟩) ?_ ?_
                rotate_left
                · intro w'
                  go_simp
                  with_reducible rfl
                rotate_left
                · simp only [Act.put, List.setIfInBounds_toArray, List.set_cons_zero, List.set_cons_succ, i64_w, i32_w]
                  rfl
                refine pure_ (i := 4) (N := some 32) (v := ?_) (a' := ?_) #[true, true, true, true, true, false, false, false, false, false, false, false, false, false, false, false, false, false, false, false, false, false, false, false, false] rfl rfl (by kernel_rfl) (fun _ _ _ h => h) (Or.inl ⟨by rfl, ?_⟩) ?_ ?_
                rotate_left
                · intro w'
                  go_simp
                  with_reducible rfl
                rotate_left
                · simp only [Act.put, List.setIfInBounds_toArray, List.set_cons_zero, List.set_cons_succ, i64_w, i32_w]
                  rfl
                by_cases c129 : b116 = true
                · replace H := if_yes c129 H
                  have c129b0 : b116 = true := c129
                  have c129b1 : (!b116) = false := by rw [c129b0]; rfl
                  clear c129
                  try simp only [c129b0, Bool.not_true, Bool.not_false]
                  refine pure_ (i := 5) (N := some 33) (v := ?_) (a' := ?_) #[true, true, true, true, true, true, false, false, false, false, false, false, false, false, false, false, false, false, false, false, false, false, false, false, false] rfl rfl (by kernel_rfl) (fun _ _ _ h => h) (Or.inl ⟨by rfl, ?_⟩) ?_ ?_
                  rotate_left
                  · intro w'
                    go_simp
                    with_reducible rfl
                  rotate_left
                  · simp only [Act.put, List.setIfInBounds_toArray, List.set_cons_zero, List.set_cons_succ, i64_w, i32_w]
                    rfl
                  try simp only [c129b0, Bool.not_true, Bool.not_false]
                  refine take_ (i := 6) (N := some 34) (v := ?_) (a' := ?_) #[true, true, true, true, true, true, true, false, false, false, false, false, false, false, false, false, false, false, false, false, false, false, false, false, false] rfl rfl (by kernel_rfl) (fun _ _ _ h => h) (Or.inl ⟨by rfl, ?_⟩) hHeld ?_ ?_
                  rotate_left
                  · rintro w' hS'
                    obtain ⟨s0, s1, s2, s3, s4, s5, s6, s7, s8, s9, s10, s11⟩ := hS'
                    go_simp
                    with_reducible rfl
                  rotate_left
                  · simp only [Act.put, List.setIfInBounds_toArray, List.set_cons_zero, List.set_cons_succ, i64_w, i32_w]
                    rfl
                  try simp only [c129b0, Bool.not_true, Bool.not_false]
                  refine pure_ (i := 7) (N := some 35) (v := ?_) (a' := ?_) #[true, true, true, true, true, true, true, true, false, false, false, false, false, false, false, false, false, false, false, false, false, false, false, false, false] rfl rfl (by kernel_rfl) (fun _ _ _ h => h) (Or.inl ⟨by rfl, ?_⟩) ?_ ?_
                  rotate_left
                  · intro w'
                    go_simp
                    with_reducible rfl
                  rotate_left
                  · simp only [Act.put, List.setIfInBounds_toArray, List.set_cons_zero, List.set_cons_succ, i64_w, i32_w]
                    rfl
                  refine pure_ (i := 8) (N := some 36) (v := ?_) (a' := ?_) #[true, true, true, true, true, true, true, true, true, false, false, false, false, false, false, false, false, false, false, false, false, false, false, false, false] rfl rfl (by kernel_rfl) (fun _ _ _ h => h) (Or.inl ⟨by rfl, ?_⟩) ?_ ?_
                  rotate_left
                  · intro w'
                    go_simp
                    with_reducible rfl
                  rotate_left
                  · simp only [Act.put, List.setIfInBounds_toArray, List.set_cons_zero, List.set_cons_succ, i64_w, i32_w]
                    rfl
                  refine pure_ (i := 9) (N := some 37) (v := ?_) (a' := ?_) #[true, true, true, true, true, true, true, true, true, true, false, false, false, false, false, false, false, false, false, false, false, false, false, false, false] rfl rfl (by kernel_rfl) (fun _ _ _ h => h) (Or.inl ⟨by rfl, ?_⟩) ?_ ?_
                  rotate_left
                  · intro w'
                    go_simp
                    with_reducible rfl
                  rotate_left
                  · simp only [Act.put, List.setIfInBounds_toArray, List.set_cons_zero, List.set_cons_succ, i64_w, i32_w]
                    rfl
                  by_cases c130 : a33 ≥ 0
                  · replace H := if_yes c130 H
                    have c130b0 : decide (0 ≤ a33) = true := decide_eq_true c130
                    clear c130
                    try simp only [c130b0, Bool.not_true, Bool.not_false]
                    refine pure_ (i := 10) (N := some 38) (v := ?_) (a' := ?_) #[true, true, true, true, true, true, true, true, true, true, true, false, false, false, false, false, false, false, false, false, false, false, false, false, false] rfl rfl (by kernel_rfl) (fun _ _ _ h => h) (Or.inl ⟨by rfl, ?_⟩) ?_ ?_
                    rotate_left
                    · intro w'
                      go_simp
                      with_reducible rfl
                    rotate_left
                    · simp only [Act.put, List.setIfInBounds_toArray, List.set_cons_zero, List.set_cons_succ, i64_w, i32_w]
                      rfl
                    try simp only [c130b0, Bool.not_true, Bool.not_false]
                    refine take_ (i := 11) (N := some 39) (v := ?_) (a' := ?_) #[true, true, true, true, true, true, true, true, true, true, true, true, false, false, false, false, false, false, false, false, false, false, false, false, false] rfl rfl (by kernel_rfl) (fun _ _ _ h => h) (Or.inl ⟨by rfl, ?_⟩) hHeld ?_ ?_
                    rotate_left
                    · rintro w' hS'
                      obtain ⟨s0, s1, s2, s3, s4, s5, s6, s7, s8, s9, s10, s11⟩ := hS'
                      go_simp
                      with_reducible rfl
                    rotate_left
                    · simp only [Act.put, List.setIfInBounds_toArray, List.set_cons_zero, List.set_cons_succ, i64_w, i32_w]
                      rfl
                    try simp only [c130b0, Bool.not_true, Bool.not_false]
                    refine pure_ (i := 12) (N := some 40) (v := ?_) (a' := ?_) #[true, true, true, true, true, true, true, true, true, true, true, true, true, false, false, false, false, false, false, false, false, false, false, false, false] rfl rfl (by kernel_rfl) (fun _ _ _ h => h) (Or.inl ⟨by rfl, ?_⟩) ?_ ?_
                    rotate_left
                    · intro w'
                      go_simp
                      with_reducible rfl
                    rotate_left
                    · simp only [Act.put, List.setIfInBounds_toArray, List.set_cons_zero, List.set_cons_succ, i64_w, i32_w]
                      rfl
                    refine pure_ (i := 13) (N := some 41) (v := ?_) (a' := ?_) #[true, true, true, true, true, true, true, true, true, true, true, true, true, true, false, false, false, false, false, false, false, false, false, false, false] rfl rfl (by kernel_rfl) (fun _ _ _ h => h) (Or.inl ⟨by rfl, ?_⟩) ?_ ?_
                    rotate_left
                    · intro w'
                      go_simp
                      with_reducible rfl
                    rotate_left
                    · simp only [Act.put, List.setIfInBounds_toArray, List.set_cons_zero, List.set_cons_succ, i64_w, i32_w]
                      rfl
                    refine pure_ (i := 14) (N := some 42) (v := ?_) (a' := ?_) #[true, true, true, true, true, true, true, true, true, true, true, true, true, true, true, false, false, false, false, false, false, false, false, false, false] rfl rfl (by kernel_rfl) (fun _ _ _ h => h) (Or.inl ⟨by rfl, ?_⟩) ?_ ?_
                    rotate_left
                    · intro w'
                      go_simp
                      with_reducible rfl
                    rotate_left
                    · simp only [Act.put, List.setIfInBounds_toArray, List.set_cons_zero, List.set_cons_succ, i64_w, i32_w]
                      rfl
                    by_cases c131 : a33 < 1048576
                    · replace H := if_yes c131 H
                      have c131b0 : decide (a33 < 1048576) = true := decide_eq_true c131
                      clear c131
                      try simp only [c131b0, Bool.not_true, Bool.not_false]
                      refine pure_ (i := 15) (N := some 43) (v := ?_) (a' := ?_) #[true, true, true, true, true, true, true, true, true, true, true, true, true, true, true, true, false, false, false, false, false, false, false, false, false] rfl rfl (by kernel_rfl) (fun _ _ _ h => h) (Or.inl ⟨by rfl, ?_⟩) ?_ ?_
                      rotate_left
                      · intro w'
                        go_simp
                        with_reducible rfl
                      rotate_left
                      · simp only [Act.put, List.setIfInBounds_toArray, List.set_cons_zero, List.set_cons_succ, i64_w, i32_w]
                        rfl
                      try simp only [c131b0, Bool.not_true, Bool.not_false]
                      refine take_ (i := 16) (N := some 44) (v := ?_) (a' := ?_) #[true, true, true, true, true, true, true, true, true, true, true, true, true, true, true, true, true, false, false, false, false, false, false, false, false] rfl rfl (by kernel_rfl) (fun _ _ _ h => h) (Or.inl ⟨by rfl, ?_⟩) hHeld ?_ ?_
                      rotate_left
                      · rintro w' hS'
                        obtain ⟨s0, s1, s2, s3, s4, s5, s6, s7, s8, s9, s10, s11⟩ := hS'
                        go_simp
                        with_reducible rfl
                      rotate_left
                      · simp only [Act.put, List.setIfInBounds_toArray, List.set_cons_zero, List.set_cons_succ, i64_w, i32_w]
                        rfl
                      try simp only [c131b0, Bool.not_true, Bool.not_false]
                      refine pure_ (i := 17) (N := some 45) (v := ?_) (a' := ?_) #[true, true, true, true, true, true, true, true, true, true, true, true, true, true, true, true, true, true, false, false, false, false, false, false, false] rfl rfl (by kernel_rfl) (fun _ _ _ h => h) (Or.inl ⟨by rfl, ?_⟩) ?_ ?_
                      rotate_left
                      · intro w'
                        go_simp
                        with_reducible rfl
                      rotate_left
                      · simp only [Act.put, List.setIfInBounds_toArray, List.set_cons_zero, List.set_cons_succ, i64_w, i32_w]
                        rfl
                      try simp only [c131b0, Bool.not_true, Bool.not_false]
                      refine pure_ (i := 18) (N := some 46) (v := ?_) (a' := ?_) #[true, true, true, true, true, true, true, true, true, true, true, true, true, true, true, true, true, true, true, false, false, false, false, false, false] rfl rfl (by kernel_rfl) (fun _ _ _ h => h) (Or.inl ⟨by rfl, ?_⟩) ?_ ?_
                      rotate_left
                      · intro w'
                        go_simp
                        with_reducible rfl
                      rotate_left
                      · simp only [Act.put, List.setIfInBounds_toArray, List.set_cons_zero, List.set_cons_succ, i64_w, i32_w]
                        rfl
                      try simp only [c122b0, c122b1, Bool.not_true, Bool.not_false]
                      refine pure_ (i := 19) (N := some 47) (v := undef) (a' := ?_) #[true, true, true, true, true, true, true, true, true, true, true, true, true, true, true, true, true, true, true, true, false, false, false, false, false] rfl rfl (by kernel_rfl) (fun _ _ _ h => h) (Or.inr ⟨by rfl, rfl⟩) ?_ ?_
                      rotate_left
                      · simp only [Act.put, List.setIfInBounds_toArray, List.set_cons_zero, List.set_cons_succ, i64_w, i32_w]
                        rfl
                      try simp only [c122b0, c122b1, Bool.not_true, Bool.not_false]
                      refine pure_ (i := 20) (N := some 48) (v := undef) (a' := ?_) #[true, true, true, true, true, true, true, true, true, true, true, true, true, true, true, true, true, true, true, true, true, false, false, false, false] rfl rfl (by kernel_rfl) (fun _ _ _ h => h) (Or.inr ⟨by rfl, rfl⟩) ?_ ?_
                      rotate_left
                      · simp only [Act.put, List.setIfInBounds_toArray, List.set_cons_zero, List.set_cons_succ, i64_w, i32_w]
                        rfl
                      try simp only [c122b0, c122b1, Bool.not_true, Bool.not_false]
                      refine pure_ (i := 21) (N := some 49) (v := undef) (a' := ?_) #[true, true, true, true, true, true, true, true, true, true, true, true, true, true, true, true, true, true, true, true, true, true, false, false, false] rfl rfl (by kernel_rfl) (fun _ _ _ h => h) (Or.inr ⟨by rfl, rfl⟩) ?_ ?_
                      rotate_left
                      · simp only [Act.put, List.setIfInBounds_toArray, List.set_cons_zero, List.set_cons_succ, i64_w, i32_w]
                        rfl
                      try simp only [c131b0, Bool.not_true, Bool.not_false]
                      refine pure_ (i := 22) (N := some 50) (v := ?_) (a' := ?_) #[true, true, true, true, true, true, true, true, true, true, true, true, true, true, true, true, true, true, true, true, true, true, true, false, false] rfl rfl (by kernel_rfl) (fun _ _ _ h => h) (Or.inl ⟨by rfl, ?_⟩) ?_ ?_
                      rotate_left
                      · intro w'
                        go_simp
                        with_reducible rfl
                      rotate_left
                      · simp only [Act.put, List.setIfInBounds_toArray, List.set_cons_zero, List.set_cons_succ, i64_w, i32_w]
                        rfl
                      refine pure_ (i := 23) (N := some 51) (v := ?_) (a' := ?_) #[true, true, true, true, true, true, true, true, true, true, true, true, true, true, true, true, true, true, true, true, true, true, true, true, false] rfl rfl (by kernel_rfl) (fun _ _ _ h => h) (Or.inl ⟨by rfl, ?_⟩) ?_ ?_
                      rotate_left
                      · intro w'
                        go_simp
                        with_reducible rfl
                      rotate_left
                      · simp only [Act.put, List.setIfInBounds_toArray, List.set_cons_zero, List.set_cons_succ, i64_w, i32_w]
                        rfl
                      refine pure_ (i := 24) (N := some 2) (v := ?_) (a' := ?_) #[true, true, true, true, true, true, true, true, true, true, true, true, true, true, true, true, true, true, true, true, true, true, true, true, true] rfl rfl (by kernel_rfl) (fun _ _ _ h => h) (Or.inl ⟨by rfl, ?_⟩) ?_ ?_
                      rotate_left
                      · intro w'
                        go_simp
                        with_reducible rfl
                      rotate_left
                      · simp only [Act.put, List.setIfInBounds_toArray, List.set_cons_zero, List.set_cons_succ, i64_w, i32_w]
                        rfl
                      refine done_ (by kernel_rfl) ?_
                      replace HS : Aside0 (Sep (fps []) w [] w126) := ⟨HS.out.sub (.cons _ .slnil)⟩
                      go_wp2_with fail
                      go_ret
                      rw [← some_eq H]
                      exact ⟨(by first | rfl | (simp [IntKind.wrap_u32]; done)), HS.out⟩
                    · replace H := if_no c131 H
                      have c131b0 : decide (a33 < 1048576) = false := decide_eq_false c131
                      clear c131
                      try simp only [c131b0, Bool.not_true, Bool.not_false]
                      refine pure_ (i := 15) (N := some 43) (v := undef) (a' := ?_) #[true, true, true, true, true, true, true, true, true, true, true, true, true, true, true, true, false, false, false, false, false, false, false, false, false] rfl rfl (by kernel_rfl) (fun _ _ _ h => h) (Or.inr ⟨by rfl, rfl⟩) ?_ ?_
                      rotate_left
                      · simp only [Act.put, List.setIfInBounds_toArray, List.set_cons_zero, List.set_cons_succ, i64_w, i32_w]
                        rfl
                      try simp only [c131b0, Bool.not_true, Bool.not_false]
                      refine pure_ (i := 16) (N := some 44) (v := undef) (a' := ?_) #[true, true, true, true, true, true, true, true, true, true, true, true, true, true, true, true, true, false, false, false, false, false, false, false, false] rfl rfl (by kernel_rfl) (fun _ _ _ h => h) (Or.inr ⟨by rfl, rfl⟩) ?_ ?_
                      rotate_left
                      · simp only [Act.put, List.setIfInBounds_toArray, List.set_cons_zero, List.set_cons_succ, i64_w, i32_w]
                        rfl
                      try simp only [c131b0, Bool.not_true, Bool.not_false]
                      refine pure_ (i := 17) (N := some 45) (v := undef) (a' := ?_) #[true, true, true, true, true, true, true, true, true, true, true, true, true, true, true, true, true, true, false, false, false, false, false, false, false] rfl rfl (by kernel_rfl) (fun _ _ _ h => h) (Or.inr ⟨by rfl, rfl⟩) ?_ ?_
                      rotate_left
                      · simp only [Act.put, List.setIfInBounds_toArray, List.set_cons_zero, List.set_cons_succ, i64_w, i32_w]
                        rfl
                      try simp only [c131b0, Bool.not_true, Bool.not_false]
                      refine pure_ (i := 18) (N := some 46) (v := undef) (a' := ?_) #[true, true, true, true, true, true, true, true, true, true, true, true, true, true, true, true, true, true, true, false, false, false, false, false, false] rfl rfl (by kernel_rfl) (fun _ _ _ h => h) (Or.inr ⟨by rfl, rfl⟩) ?_ ?_
                      rotate_left
                      · simp only [Act.put, List.setIfInBounds_toArray, List.set_cons_zero, List.set_cons_succ, i64_w, i32_w]
                        rfl
                      refine pure_ (i := 19) (N := some 47) (v := undef) (a' := ?_) #[true, true, true, true, true, true, true, true, true, true, true, true, true, true, true, true, true, true, true, true, false, false, false, false, false] rfl rfl (by kernel_rfl) (fun _ _ _ h => h) (Or.inr ⟨by rfl, rfl⟩) ?_ ?_
                      rotate_left
                      · simp only [Act.put, List.setIfInBounds_toArray, List.set_cons_zero, List.set_cons_succ, i64_w, i32_w]
                        rfl
                      refine pure_ (i := 20) (N := some 48) (v := undef) (a' := ?_) #[true, true, true, true, true, true, true, true, true, true, true, true, true, true, true, true, true, true, true, true, true, false, false, false, false] rfl rfl (by kernel_rfl) (fun _ _ _ h => h) (Or.inr ⟨by rfl, rfl⟩) ?_ ?_
                      rotate_left
                      · simp only [Act.put, List.setIfInBounds_toArray, List.set_cons_zero, List.set_cons_succ, i64_w, i32_w]
                        rfl
                      refine pure_ (i := 21) (N := some 49) (v := undef) (a' := ?_) #[true, true, true, true, true, true, true, true, true, true, true, true, true, true, true, true, true, true, true, true, true, true, false, false, false] rfl rfl (by kernel_rfl) (fun _ _ _ h => h) (Or.inr ⟨by rfl, rfl⟩) ?_ ?_
                      rotate_left
                      · simp only [Act.put, List.setIfInBounds_toArray, List.set_cons_zero, List.set_cons_succ, i64_w, i32_w]
                        rfl
                      try simp only [c131b0, Bool.not_true, Bool.not_false]
                      refine pure_ (i := 22) (N := some 50) (v := undef) (a' := ?_) #[true, true, true, true, true, true, true, true, true, true, true, true, true, true, true, true, true, true, true, true, true, true, true, false, false] rfl rfl (by kernel_rfl) (fun _ _ _ h => h) (Or.inr ⟨by rfl, rfl⟩) ?_ ?_
                      rotate_left
                      · simp only [Act.put, List.setIfInBounds_toArray, List.set_cons_zero, List.set_cons_succ, i64_w, i32_w]
                        rfl
                      refine pure_ (i := 23) (N := some 51) (v := ?_) (a' := ?_) #[true, true, true, true, true, true, true, true, true, true, true, true, true, true, true, true, true, true, true, true, true, true, true, true, false] rfl rfl (by kernel_rfl) (fun _ _ _ h => h) (Or.inl ⟨by rfl, ?_⟩) ?_ ?_
                      rotate_left
                      · intro w'
                        go_simp
                        with_reducible rfl
                      rotate_left
                      · simp only [Act.put, List.setIfInBounds_toArray, List.set_cons_zero, List.set_cons_succ, i64_w, i32_w]
                        rfl
                      refine pure_ (i := 24) (N := some 2) (v := ?_) (a' := ?_) #[true, true, true, true, true, true, true, true, true, true, true, true, true, true, true, true, true, true, true, true, true, true, true, true, true] rfl rfl (by kernel_rfl) (fun _ _ _ h => h) (Or.inl ⟨by rfl, ?_⟩) ?_ ?_
                      rotate_left
                      · intro w'
                        go_simp
                        with_reducible rfl
                      rotate_left
                      · simp only [Act.put, List.setIfInBounds_toArray, List.set_cons_zero, List.set_cons_succ, i64_w, i32_w]
                        rfl
                      refine done_ (by kernel_rfl) ?_
                      replace HS : Aside0 (Sep (fps []) w [] w126) := ⟨HS.out.sub (.cons _ .slnil)⟩
                      go_wp2_with fail
                      go_ret
                      rw [← some_eq H]
                      exact ⟨(by first | rfl | (simp [IntKind.wrap_u32]; done)), HS.out⟩
                  · replace H := if_no c130 H
                    have c130b0 : decide (0 ≤ a33) = false := decide_eq_false c130
                    clear c130
                    try simp only [c130b0, Bool.not_true, Bool.not_false]
                    refine pure_ (i := 10) (N := some 38) (v := undef) (a' := ?_) #[true, true, true, true, true, true, true, true, true, true, true, false, false, false, false, false, false, false, false, false, false, false, false, false, false] rfl rfl (by kernel_rfl) (fun _ _ _ h => h) (Or.inr ⟨by rfl, rfl⟩) ?_ ?_
                    rotate_left
                    · simp only [Act.put, List.setIfInBounds_toArray, List.set_cons_zero, List.set_cons_succ, i64_w, i32_w]
                      rfl
                    try simp only [c130b0, Bool.not_true, Bool.not_false]
                    refine pure_ (i := 11) (N := some 39) (v := undef) (a' := ?_) #[true, true, true, true, true, true, true, true, true, true, true, true, false, false, false, false, false, false, false, false, false, false, false, false, false] rfl rfl (by kernel_rfl) (fun _ _ _ h => h) (Or.inr ⟨by rfl, rfl⟩) ?_ ?_
                    rotate_left
                    · simp only [Act.put, List.setIfInBounds_toArray, List.set_cons_zero, List.set_cons_succ, i64_w, i32_w]
                      rfl
                    try simp only [c130b0, Bool.not_true, Bool.not_false]
                    refine pure_ (i := 12) (N := some 40) (v := undef) (a' := ?_) #[true, true, true, true, true, true, true, true, true, true, true, true, true, false, false, false, false, false, false, false, false, false, false, false, false] rfl rfl (by kernel_rfl) (fun _ _ _ h => h) (Or.inr ⟨by rfl, rfl⟩) ?_ ?_
                    rotate_left
                    · simp only [Act.put, List.setIfInBounds_toArray, List.set_cons_zero, List.set_cons_succ, i64_w, i32_w]
                      rfl
                    refine pure_ (i := 13) (N := some 41) (v := ?_) (a' := ?_) #[true, true, true, true, true, true, true, true, true, true, true, true, true, true, false, false, false, false, false, false, false, false, false, false, false] rfl rfl (by kernel_rfl) (fun _ _ _ h => h) (Or.inl ⟨by rfl, ?_⟩) ?_ ?_
                    rotate_left
                    · intro w'
                      go_simp
                      with_reducible rfl
                    rotate_left
                    · simp only [Act.put, List.setIfInBounds_toArray, List.set_cons_zero, List.set_cons_succ, i64_w, i32_w]
                      rfl
                    refine pure_ (i := 14) (N := some 42) (v := ?_) (a' := ?_) #[true, true, true, true, true, true, true, true, true, true, true, true, true, true, true, false, false, false, false, false, false, false, false, false, false] rfl rfl (by kernel_rfl) (fun _ _ _ h => h) (Or.inl ⟨by rfl, ?_⟩) ?_ ?_
                    rotate_left
                    · intro w'
                      go_simp
                      with_reducible rfl
                    rotate_left
                    · simp only [Act.put, List.setIfInBounds_toArray, List.set_cons_zero, List.set_cons_succ, i64_w, i32_w]
                      rfl
                    refine pure_ (i := 15) (N := some 43) (v := undef) (a' := ?_) #[true, true, true, true, true, true, true, true, true, true, true, true, true, true, true, true, false, false, false, false, false, false, false, false, false] rfl rfl (by kernel_rfl) (fun _ _ _ h => h) (Or.inr ⟨by rfl, rfl⟩) ?_ ?_
                    rotate_left
                    · simp only [Act.put, List.setIfInBounds_toArray, List.set_cons_zero, List.set_cons_succ, i64_w, i32_w]
                      rfl
                    refine pure_ (i := 16) (N := some 44) (v := undef) (a' := ?_) #[true, true, true, true, true, true, true, true, true, true, true, true, true, true, true, true, true, false, false, false, false, false, false, false, false] rfl rfl (by kernel_rfl) (fun _ _ _ h => h) (Or.inr ⟨by rfl, rfl⟩) ?_ ?_
                    rotate_left
                    · simp only [Act.put, List.setIfInBounds_toArray, List.set_cons_zero, List.set_cons_succ, i64_w, i32_w]
                      rfl
                    refine pure_ (i := 17) (N := some 45) (v := undef) (a' := ?_) #[true, true, true, true, true, true, true, true, true, true, true, true, true, true, true, true, true, true, false, false, false, false, false, false, false] rfl rfl (by kernel_rfl) (fun _ _ _ h => h) (Or.inr ⟨by rfl, rfl⟩) ?_ ?_
                    rotate_left
                    · simp only [Act.put, List.setIfInBounds_toArray, List.set_cons_zero, List.set_cons_succ, i64_w, i32_w]
                      rfl
                    refine pure_ (i := 18) (N := some 46) (v := undef) (a' := ?_) #[true, true, true, true, true, true, true, true, true, true, true, true, true, true, true, true, true, true, true, false, false, false, false, false, false] rfl rfl (by kernel_rfl) (fun _ _ _ h => h) (Or.inr ⟨by rfl, rfl⟩) ?_ ?_
                    rotate_left
                    · simp only [Act.put, List.setIfInBounds_toArray, List.set_cons_zero, List.set_cons_succ, i64_w, i32_w]
                      rfl
                    refine pure_ (i := 19) (N := some 47) (v := undef) (a' := ?_) #[true, true, true, true, true, true, true, true, true, true, true, true, true, true, true, true, true, true, true, true, false, false, false, false, false] rfl rfl (by kernel_rfl) (fun _ _ _ h => h) (Or.inr ⟨by rfl, rfl⟩) ?_ ?_
                    rotate_left
                    · simp only [Act.put, List.setIfInBounds_toArray, List.set_cons_zero, List.set_cons_succ, i64_w, i32_w]
                      rfl
                    refine pure_ (i := 20) (N := some 48) (v := undef) (a' := ?_) #[true, true, true, true, true, true, true, true, true, true, true, true, true, true, true, true, true, true, true, true, true, false, false, false, false] rfl rfl (by kernel_rfl) (fun _ _ _ h => h) (Or.inr ⟨by rfl, rfl⟩) ?_ ?_
                    rotate_left
                    · simp only [Act.put, List.setIfInBounds_toArray, List.set_cons_zero, List.set_cons_succ, i64_w, i32_w]
                      rfl
                    refine pure_ (i := 21) (N := some 49) (v := undef) (a' := ?_) #[true, true, true, true, true, true, true, true, true, true, true, true, true, true, true, true, true, true, true, true, true, true, false, false, false] rfl rfl (by kernel_rfl) (fun _ _ _ h => h) (Or.inr ⟨by rfl, rfl⟩) ?_ ?_
                    rotate_left
                    · simp only [Act.put, List.setIfInBounds_toArray, List.set_cons_zero, List.set_cons_succ, i64_w, i32_w]
                      rfl
                    refine pure_ (i := 22) (N := some 50) (v := undef) (a' := ?_) #[true, true, true, true, true, true, true, true, true, true, true, true, true, true, true, true, true, true, true, true, true, true, true, false, false] rfl rfl (by kernel_rfl) (fun _ _ _ h => h) (Or.inr ⟨by rfl, rfl⟩) ?_ ?_
                    rotate_left
                    · simp only [Act.put, List.setIfInBounds_toArray, List.set_cons_zero, List.set_cons_succ, i64_w, i32_w]
                      rfl
                    refine pure_ (i := 23) (N := some 51) (v := ?_) (a' := ?_) #[true, true, true, true, true, true, true, true, true, true, true, true, true, true, true, true, true, true, true, true, true, true, true, true, false] rfl rfl (by kernel_rfl) (fun _ _ _ h => h) (Or.inl ⟨by rfl, ?_⟩) ?_ ?_
                    rotate_left
                    · intro w'
                      go_simp
                      with_reducible rfl
                    rotate_left
                    · simp only [Act.put, List.setIfInBounds_toArray, List.set_cons_zero, List.set_cons_succ, i64_w, i32_w]
                      rfl
                    refine pure_ (i := 24) (N := some 2) (v := ?_) (a' := ?_) #[true, true, true, true, true, true, true, true, true, true, true, true, true, true, true, true, true, true, true, true, true, true, true, true, true] rfl rfl (by kernel_rfl) (fun _ _ _ h => h) (Or.inl ⟨by rfl, ?_⟩) ?_ ?_
                    rotate_left
                    · intro w'
                      go_simp
                      with_reducible rfl
                    rotate_left
                    · simp only [Act.put, List.setIfInBounds_toArray, List.set_cons_zero, List.set_cons_succ, i64_w, i32_w]
                      rfl
                    refine done_ (by kernel_rfl) ?_
                    replace HS : Aside0 (Sep (fps []) w [] w126) := ⟨HS.out.sub (.cons _ .slnil)⟩
                    go_wp2_with fail
                    go_ret
                    rw [← some_eq H]
                    exact ⟨(by first | rfl | (simp [IntKind.wrap_u32]; done)), HS.out⟩
                · replace H := if_no c129 H
                  have c129b0 : b116 = false := by simpa using c129
                  have c129b1 : (!b116) = true := by rw [c129b0]; rfl
                  clear c129
                  try simp only [c129b0, Bool.not_true, Bool.not_false]
                  refine pure_ (i := 5) (N := some 33) (v := undef) (a' := ?_) #[true, true, true, true, true, true, false, false, false, false, false, false, false, false, false, false, false, false, false, false, false, false, false, false, false] rfl rfl (by kernel_rfl) (fun _ _ _ h => h) (Or.inr ⟨by rfl, rfl⟩) ?_ ?_
                  rotate_left
                  · simp only [Act.put, List.setIfInBounds_toArray, List.set_cons_zero, List.set_cons_succ, i64_w, i32_w]
                    rfl
                  try simp only [c129b0, Bool.not_true, Bool.not_false]
                  refine pure_ (i := 6) (N := some 34) (v := undef) (a' := ?_) #[true, true, true, true, true, true, true, false, false, false, false, false, false, false, false, false, false, false, false, false, false, false, false, false, false] rfl rfl (by kernel_rfl) (fun _ _ _ h => h) (Or.inr ⟨by rfl, rfl⟩) ?_ ?_
                  rotate_left
                  · simp only [Act.put, List.setIfInBounds_toArray, List.set_cons_zero, List.set_cons_succ, i64_w, i32_w]
                    rfl
                  try simp only [c129b0, Bool.not_true, Bool.not_false]
                  refine pure_ (i := 7) (N := some 35) (v := undef) (a' := ?_) #[true, true, true, true, true, true, true, true, false, false, false, false, false, false, false, false, false, false, false, false, false, false, false, false, false] rfl rfl (by kernel_rfl) (fun _ _ _ h => h) (Or.inr ⟨by rfl, rfl⟩) ?_ ?_
                  rotate_left
                  · simp only [Act.put, List.setIfInBounds_toArray, List.set_cons_zero, List.set_cons_succ, i64_w, i32_w]
                    rfl
                  refine pure_ (i := 8) (N := some 36) (v := ?_) (a' := ?_) #[true, true, true, true, true, true, true, true, true, false, false, false, false, false, false, false, false, false, false, false, false, false, false, false, false] rfl rfl (by kernel_rfl) (fun _ _ _ h => h) (Or.inl ⟨by rfl, ?_⟩) ?_ ?_
                  rotate_left
                  · intro w'
                    go_simp
                    with_reducible rfl
                  rotate_left
                  · simp only [Act.put, List.setIfInBounds_toArray, List.set_cons_zero, List.set_cons_succ, i64_w, i32_w]
                    rfl
                  refine pure_ (i := 9) (N := some 37) (v := ?_) (a' := ?_) #[true, true, true, true, true, true, true, true, true, true, false, false, false, false, false, false, false, false, false, false, false, false, false, false, false] rfl rfl (by kernel_rfl) (fun _ _ _ h => h) (Or.inl ⟨by rfl, ?_⟩) ?_ ?_
                  rotate_left
                  · intro w'
                    go_simp
                    with_reducible rfl
                  rotate_left
                  · simp only [Act.put, List.setIfInBounds_toArray, List.set_cons_zero, List.set_cons_succ, i64_w, i32_w]
                    rfl
                  refine pure_ (i := 10) (N := some 38) (v := undef) (a' := ?_) #[true, true, true, true, true, true, true, true, true, true, true, false, false, false, false, false, false, false, false, false, false, false, false, false, false] rfl rfl (by kernel_rfl) (fun _ _ _ h => h) (Or.inr ⟨by rfl, rfl⟩) ?_ ?_
                  rotate_left
                  · simp only [Act.put, List.setIfInBounds_toArray, List.set_cons_zero, List.set_cons_succ, i64_w, i32_w]
                    rfl
                  refine pure_ (i := 11) (N := some 39) (v := undef) (a' := ?_) #[true, true, true, true, true, true, true, true, true, true, true, true, false, false, false, false, false, false, false, false, false, false, false, false, false] rfl rfl (by kernel_rfl) (fun _ _ _ h => h) (Or.inr ⟨by rfl, rfl⟩) ?_ ?_
                  rotate_left
                  · simp only [Act.put, List.setIfInBounds_toArray, List.set_cons_zero, List.set_cons_succ, i64_w, i32_w]
                    rfl
                  refine pure_ (i := 12) (N := some 40) (v := undef) (a' := ?_) #[true, true, true, true, true, true, true, true, true, true, true, true, true, false, false, false, false, false, false, false, false, false, false, false, false] rfl rfl (by kernel_rfl) (fun _ _ _ h => h) (Or.inr ⟨by rfl, rfl⟩) ?_ ?_
                  rotate_left
                  · simp only [Act.put, List.setIfInBounds_toArray, List.set_cons_zero, List.set_cons_succ, i64_w, i32_w]
                    rfl
                  refine pure_ (i := 13) (N := some 41) (v := ?_) (a' := ?_) #[true, true, true, true, true, true, true, true, true, true, true, true, true, true, false, false, false, false, false, false, false, false, false, false, false] rfl rfl (by kernel_rfl) (fun _ _ _ h => h) (Or.inl ⟨by rfl, ?_⟩) ?_ ?_
                  rotate_left
                  · intro w'
                    go_simp
                    with_reducible rfl
                  rotate_left
                  · simp only [Act.put, List.setIfInBounds_toArray, List.set_cons_zero, List.set_cons_succ, i64_w, i32_w]
                    rfl
                  refine pure_ (i := 14) (N := some 42) (v := ?_) (a' := ?_) #[true, true, true, true, true, true, true, true, true, true, true, true, true, true, true, false, false, false, false, false, false, false, false, false, false] rfl rfl (by kernel_rfl) (fun _ _ _ h => h) (Or.inl ⟨by rfl, ?_⟩) ?_ ?_
                  rotate_left
                  · intro w'
                    go_simp
                    with_reducible rfl
                  rotate_left
                  · simp only [Act.put, List.setIfInBounds_toArray, List.set_cons_zero, List.set_cons_succ, i64_w, i32_w]
                    rfl
                  refine pure_ (i := 15) (N := some 43) (v := undef) (a' := ?_) #[true, true, true, true, true, true, true, true, true, true, true, true, true, true, true, true, false, false, false, false, false, false, false, false, false] rfl rfl (by kernel_rfl) (fun _ _ _ h => h) (Or.inr ⟨by rfl, rfl⟩) ?_ ?_
                  rotate_left
                  · simp only [Act.put, List.setIfInBounds_toArray, List.set_cons_zero, List.set_cons_succ, i64_w, i32_w]
                    rfl
                  refine pure_ (i := 16) (N := some 44) (v := undef) (a' := ?_) #[true, true, true, true, true, true, true, true, true, true, true, true, true, true, true, true, true, false, false, false, false, false, false, false, false] rfl rfl (by kernel_rfl) (fun _ _ _ h => h) (Or.inr ⟨by rfl, rfl⟩) ?_ ?_
                  rotate_left
                  · simp only [Act.put, List.setIfInBounds_toArray, List.set_cons_zero, List.set_cons_succ, i64_w, i32_w]
                    rfl
                  refine pure_ (i := 17) (N := some 45) (v := undef) (a' := ?_) #[true, true, true, true, true, true, true, true, true, true, true, true, true, true, true, true, true, true, false, false, false, false, false, false, false] rfl rfl (by kernel_rfl) (fun _ _ _ h => h) (Or.inr ⟨by rfl, rfl⟩) ?_ ?_
                  rotate_left
                  · simp only [Act.put, List.setIfInBounds_toArray, List.set_cons_zero, List.set_cons_succ, i64_w, i32_w]
                    rfl
                  refine pure_ (i := 18) (N := some 46) (v := undef) (a' := ?_) #[true, true, true, true, true, true, true, true, true, true, true, true, true, true, true, true, true, true, true, false, false, false, false, false, false] rfl rfl (by kernel_rfl) (fun _ _ _ h => h) (Or.inr ⟨by rfl, rfl⟩) ?_ ?_
                  rotate_left
                  · simp only [Act.put, List.setIfInBounds_toArray, List.set_cons_zero, List.set_cons_succ, i64_w, i32_w]
                    rfl
                  refine pure_ (i := 19) (N := some 47) (v := undef) (a' := ?_) #[true, true, true, true, true, true, true, true, true, true, true, true, true, true, true, true, true, true, true, true, false, false, false, false, false] rfl rfl (by kernel_rfl) (fun _ _ _ h => h) (Or.inr ⟨by rfl, rfl⟩) ?_ ?_
                  rotate_left
                  · simp only [Act.put, List.setIfInBounds_toArray, List.set_cons_zero, List.set_cons_succ, i64_w, i32_w]
                    rfl
                  refine pure_ (i := 20) (N := some 48) (v := undef) (a' := ?_) #[true, true, true, true, true, true, true, true, true, true, true, true, true, true, true, true, true, true, true, true, true, false, false, false, false] rfl rfl (by kernel_rfl) (fun _ _ _ h => h) (Or.inr ⟨by rfl, rfl⟩) ?_ ?_
                  rotate_left
                  · simp only [Act.put, List.setIfInBounds_toArray, List.set_cons_zero, List.set_cons_succ, i64_w, i32_w]
                    rfl
                  refine pure_ (i := 21) (N := some 49) (v := undef) (a' := ?_) #[true, true, true, true, true, true, true, true, true, true, true, true, true, true, true, true, true, true, true, true, true, true, false, false, false] rfl rfl (by kernel_rfl) (fun _ _ _ h => h) (Or.inr ⟨by rfl, rfl⟩) ?_ ?_
                  rotate_left
                  · simp only [Act.put, List.setIfInBounds_toArray, List.set_cons_zero, List.set_cons_succ, i64_w, i32_w]
                    rfl
                  refine pure_ (i := 22) (N := some 50) (v := undef) (a' := ?_) #[true, true, true, true, true, true, true, true, true, true, true, true, true, true, true, true, true, true, true, true, true, true, true, false, false] rfl rfl (by kernel_rfl) (fun _ _ _ h => h) (Or.inr ⟨by rfl, rfl⟩) ?_ ?_
                  rotate_left
                  · simp only [Act.put, List.setIfInBounds_toArray, List.set_cons_zero, List.set_cons_succ, i64_w, i32_w]
                    rfl
                  refine pure_ (i := 23) (N := some 51) (v := ?_) (a' := ?_) #[true, true, true, true, true, true, true, true, true, true, true, true, true, true, true, true, true, true, true, true, true, true, true, true, false] rfl rfl (by kernel_rfl) (fun _ _ _ h => h) (Or.inl ⟨by rfl, ?_⟩) ?_ ?_
                  rotate_left
                  · intro w'
                    go_simp
                    with_reducible rfl
                  rotate_left
                  · simp only [Act.put, List.setIfInBounds_toArray, List.set_cons_zero, List.set_cons_succ, i64_w, i32_w]
                    rfl
                  refine pure_ (i := 24) (N := some 2) (v := ?_) (a' := ?_) #[true, true, true, true, true, true, true, true, true, true, true, true, true, true, true, true, true, true, true, true, true, true, true, true, true] rfl rfl (by kernel_rfl) (fun _ _ _ h => h) (Or.inl ⟨by rfl, ?_⟩) ?_ ?_
                  rotate_left
                  · intro w'
                    go_simp
                    with_reducible rfl
                  rotate_left
                  · simp only [Act.put, List.setIfInBounds_toArray, List.set_cons_zero, List.set_cons_succ, i64_w, i32_w]
                    rfl
                  refine done_ (by kernel_rfl) ?_
                  replace HS : Aside0 (Sep (fps []) w [] w126) := ⟨HS.out.sub (.cons _ .slnil)⟩
                  go_wp2_with fail
                  go_ret
                  rw [← some_eq H]
                  exact ⟨(by first | rfl | (simp [IntKind.wrap_u32]; done)), HS.out⟩
              · replace H := if_no c122 H
                have c122b0 : (a27 == 3) = false := beq_eq_false_iff_ne.mpr c122
                have c122b1 : (a27 != 3) = true := bne_iff_ne.mpr c122
                clear c122
                have hc104 : w95.cell? ⟨g34, 0, none⟩ = some (.int .i64 a27) := blk_cellv (HS.out.at0) 0 rfl
                replace HS : Aside0 (Sep (fps []) w [] w95) := ⟨HS.out.sub (.cons _ .slnil)⟩
                go_wp2_with fail
                clear hc104
                go_ret
                rw [← some_eq H]
                exact ⟨(by first | rfl | (simp [IntKind.wrap_u32]; done)), HS.out⟩

set_option maxHeartbeats 30000000 in
set_option maxRecDepth 100000 in
theorem pack_total.calls (k : Nat) (l225 : List Int) (A226 : Option Addr) (n227 : Nat) (r : Int) (w : World) (HR228 : Aside0 (Rd (Kd.int .i64) (fps []) w A226 l225.length l225)) (HGl0 : Aside0 (Gl 0 #[.int .i64 0, .int .i64 0, .int .i64 0, .int .i64 0, .int .i64 0] (fps []) w)) (HS : Aside0 (Sep (fps []) w [] w)) (H : Aside0 (pack_total.f k l225 = some r)) :
    Calls Tryd.prog 125 #[.slice A226 l225.length n227] w fun e w' => e = .returned (.int .i64 r) ∧ Sep (fps []) w [] w' := by
  unfold pack_total.f at H
  go_enter Tryd.func125, Tryd.ntmps125
  go_wp2_with fail
  obtain ⟨o241, AL242, H⟩ := bind_some H
  go_loopg [3, 8] k (fun kq v3 v8 wc => ∃ (x245 : Int) (x246 : Int), v3 = .int .i64 x245 ∧ v8 = .int .i64 x246 ∧ Aside0 (pack_total.lo0 kq l225 x245 x246 = some o241) ∧ Aside0 (Sep (fps []) w [] wc))
  case atStart => exact ⟨(0), (0), (by first | rfl | (simp [IntKind.wrap_u32]; done)), (by first | rfl | (simp [IntKind.wrap_u32]; done)), AL242, ⟨HS.out⟩⟩
  case round =>
    clear AL242 HS
    obtain ⟨x245, x246, rfl, rfl, AL242, HS⟩ := hrel
    obtain ⟨w243, rfl⟩ : ∃ x : World, x = wr := ⟨_, rfl⟩
    cases gk with
    | zero => exact absurd AL242.out (by simp [pack_total.lo0])
    | succ k244 =>
      have AL0 := AL242.out
      rw [pack_total.lo0] at AL0
      clear AL242
      have AL242 := Aside0.mk AL0
      clear AL0
      by_cases c247 : x246 < (l225.length : Int)
      · replace AL242 := if_yes c247 AL242
        have c247b0 : decide (x246 < (l225.length : Int)) = true := decide_eq_true c247
        clear c247
        by_cases c248 : 0 ≤ x246
        · replace AL242 := if_yes c248 AL242
          have c248b0 : decide (0 ≤ x246) = true := decide_eq_true c248
          have c248p : (0 ≤ x246) = True := eq_true c248
          clear c248
          have ip249 : (x246 < (l225.length : Int)) = True := eq_true (of_decide_eq_true c247b0)
          by_cases c251 : (rd l225 x246) < 1
          · replace AL242 := if_yes c251 AL242
            have c251b0 : decide ((rd l225 x246) < 1) = true := decide_eq_true c251
            clear c251
            obtain ⟨hx250a, hx250e, hx250⟩ := Kd.at_int (Rd.read (fun _ _ _ _ h => h) HR228.out HS.out.fr) x246 (of_decide_eq_true c248b0) (of_decide_eq_true c247b0); cases hx250e
            go_wp2_with fail
            clear hx250
            have ho := some_eq AL242
            subst ho
            have H := lp_ret H
            go_ret
            rw [← some_eq H]
            exact ⟨(by first | rfl | (simp [IntKind.wrap_u32]; done)), HS.out⟩
          · replace AL242 := if_no c251 AL242
            have c251b0 : decide ((rd l225 x246) < 1) = false := decide_eq_false c251
            clear c251
            by_cases c252 : (rd l225 x246) > (wrap64 (32 - x245))
            · replace AL242 := if_yes c252 AL242
              have c252b0 : decide ((wrap64 (32 - x245)) < (rd l225 x246)) = true := decide_eq_true c252
              clear c252
              obtain ⟨hx250a, hx250e, hx250⟩ := Kd.at_int (Rd.read (fun _ _ _ _ h => h) HR228.out HS.out.fr) x246 (of_decide_eq_true c248b0) (of_decide_eq_true c247b0); cases hx250e
              go_wp2_with fail
              clear hx250
              have ho := some_eq AL242
              subst ho
              have H := lp_ret H
              go_ret
              rw [← some_eq H]
              exact ⟨(by first | rfl | (simp [IntKind.wrap_u32]; done)), HS.out⟩
            · replace AL242 := if_no c252 AL242
              have c252b0 : decide ((wrap64 (32 - x245)) < (rd l225 x246)) = false := decide_eq_false c252
              clear c252
              obtain ⟨hx250a, hx250e, hx250⟩ := Kd.at_int (Rd.read (fun _ _ _ _ h => h) HR228.out HS.out.fr) x246 (of_decide_eq_true c248b0) (of_decide_eq_true c247b0); cases hx250e
              go_wp2_with fail
              clear hx250
              go_roundg k244
              case measure => exact Nat.lt_succ_self _
              case rel => exact ⟨(wrap64 (x245 + (rd l225 x246))), (wrap64 (x246 + 1)), (by first | rfl | (simp [IntKind.wrap_u32]; done)), (by first | rfl | (simp [IntKind.wrap_u32]; done)), Aside0.mk AL242.out, ⟨HS.out⟩⟩
        · replace AL242 := if_no c248 AL242
          have c248b0 : decide (0 ≤ x246) = false := decide_eq_false c248
          clear c248
          exact (none_no AL242).elim
      · replace AL242 := if_no c247 AL242
        have c247b0 : decide (x246 < (l225.length : Int)) = false := decide_eq_false c247
        clear c247
        have ho := some_eq AL242
        subst ho
        clear AL242
        have H := lp_out H
        go_wp2_with fail
        go_ret
        rw [← some_eq H]
        exact ⟨(by first | rfl | (simp [IntKind.wrap_u32]; done)), HS.out⟩

set_option maxHeartbeats 30000000 in
set_option maxRecDepth 100000 in
theorem pack_isPiece.calls (a277 : Int) (a278 : Int) (r : Bool) (w : World)  (HGl0 : Aside0 (Gl 0 #[.int .i64 0, .int .i64 0, .int .i64 0, .int .i64 0, .int .i64 0] (fps []) w)) (HS : Aside0 (Sep (fps []) w [] w)) (H : Aside0 (pack_isPiece.f a277 a278 = some r)) :
    Calls Tryd.prog 75 #[.int .i64 a277, .int .i64 a278] w fun e w' => e = .returned (.bool r) ∧ Sep (fps []) w [] w' := by
  unfold pack_isPiece.f at H
  go_enter Tryd.func75, Tryd.ntmps75
  by_cases c279 : a277 ≥ 0
  · replace H := if_yes c279 H
    have c279b0 : decide (0 ≤ a277) = true := decide_eq_true c279
    clear c279
    by_cases c280 : a278 ≥ 1
    · replace H := if_yes c280 H
      have c280b0 : decide (1 ≤ a278) = true := decide_eq_true c280
      clear c280
      by_cases c281 : a278 ≤ 32
      · replace H := if_yes c281 H
        have c281b0 : decide (a278 ≤ 32) = true := decide_eq_true c281
        clear c281
        go_wp2_with fail
        go_ret
        rw [← some_eq H]
        exact ⟨(by first | rfl | (simp [IntKind.wrap_u32]; done)), HS.out⟩
      · replace H := if_no c281 H
        have c281b0 : decide (a278 ≤ 32) = false := decide_eq_false c281
        clear c281
        go_wp2_with fail
        go_ret
        rw [← some_eq H]
        exact ⟨(by first | rfl | (simp [IntKind.wrap_u32]; done)), HS.out⟩
    · replace H := if_no c280 H
      have c280b0 : decide (1 ≤ a278) = false := decide_eq_false c280
      clear c280
      go_wp2_with fail
      go_ret
      rw [← some_eq H]
      exact ⟨(by first | rfl | (simp [IntKind.wrap_u32]; done)), HS.out⟩
  · replace H := if_no c279 H
    have c279b0 : decide (0 ≤ a277) = false := decide_eq_false c279
    clear c279
    go_wp2_with fail
    go_ret
    rw [← some_eq H]
    exact ⟨(by first | rfl | (simp [IntKind.wrap_u32]; done)), HS.out⟩

set_option maxHeartbeats 30000000 in
set_option maxRecDepth 100000 in
theorem pack_Fits.calls (a286 : Int) (a287 : Int) (r : Bool) (w : World)  (HGl0 : Aside0 (Gl 0 #[.int .i64 0, .int .i64 0, .int .i64 0, .int .i64 0, .int .i64 0] (fps []) w)) (HS : Aside0 (Sep (fps []) w [] w)) (H : Aside0 (pack_Fits.f a286 a287 = some r)) :
    Calls Tryd.prog 152 #[.int .u32 a286, .int .i64 a287] w fun e w' => e = .returned (.bool r) ∧ Sep (fps []) w [] w' := by
  unfold pack_Fits.f at H
  go_enter Tryd.func152, Tryd.ntmps152
  by_cases c288 : a287 ≥ 32
  · replace H := if_yes c288 H
    have c288b0 : decide (32 ≤ a287) = true := decide_eq_true c288
    clear c288
    go_wp2_with fail
    go_ret
    rw [← some_eq H]
    exact ⟨(by first | rfl | (simp [IntKind.wrap_u32]; done)), HS.out⟩
  · replace H := if_no c288 H
    have c288b0 : decide (32 ≤ a287) = false := decide_eq_false c288
    clear c288
    by_cases c289 : a287 < 0
    · replace H := if_yes c289 H
      have c289b0 : decide (a287 < 0) = true := decide_eq_true c289
      skip
      go_wp2_with fail
      clear c289
      go_ret
      rw [← some_eq H]
      exact ⟨(by first | rfl | (simp [IntKind.wrap_u32]; done)), HS.out⟩
    · replace H := if_no c289 H
      have c289b0 : decide (a287 < 0) = false := decide_eq_false c289
      by_cases c290 : 0 ≤ (IntKind.u64.wrap (a287))
      · replace H := if_yes c290 H
        have c290b0 : decide (0 ≤ (IntKind.u64.wrap (a287))) = true := decide_eq_true c290
        skip
        skip
        go_wp2_with fail
        clear c289 c290
        go_ret
        rw [← some_eq H]
        exact ⟨(by first | rfl | (simp [IntKind.wrap_u32]; done)), HS.out⟩
      · replace H := if_no c290 H
        have c290b0 : decide (0 ≤ (IntKind.u64.wrap (a287))) = false := decide_eq_false c290
        exact (none_no H).elim

set_option maxHeartbeats 30000000 in
set_option maxRecDepth 100000 in
theorem pack_mask.calls (a295 : Int) (a296 : Int) (r : Int) (w : World)  (HGl0 : Aside0 (Gl 0 #[.int .i64 0, .int .i64 0, .int .i64 0, .int .i64 0, .int .i64 0] (fps []) w)) (HS : Aside0 (Sep (fps []) w [] w)) (H : Aside0 (pack_mask.f a295 a296 = some r)) :
    Calls Tryd.prog 76 #[.int .i64 a295, .int .i64 a296] w fun e w' => e = .returned (.int .u32 r) ∧ Sep (fps []) w [] w' := by
  unfold pack_mask.f at H
  go_enter Tryd.func76, Tryd.ntmps76
  by_cases c297 : 0 ≤ (IntKind.u64.wrap (a296))
  · replace H := if_yes c297 H
    have c297b0 : decide (0 ≤ (IntKind.u64.wrap (a296))) = true := decide_eq_true c297
    by_cases c298 : 0 ≤ (IntKind.u64.wrap (a295))
    · replace H := if_yes c298 H
      have c298b0 : decide (0 ≤ (IntKind.u64.wrap (a295))) = true := decide_eq_true c298
      skip
      skip
      go_wp2_with fail
      clear c297 c298
      go_ret
      rw [← some_eq H]
      exact ⟨(by first | rfl | (simp [IntKind.wrap_u32]; done)), HS.out⟩
    · replace H := if_no c298 H
      have c298b0 : decide (0 ≤ (IntKind.u64.wrap (a295))) = false := decide_eq_false c298
      exact (none_no H).elim
  · replace H := if_no c297 H
    have c297b0 : decide (0 ≤ (IntKind.u64.wrap (a296))) = false := decide_eq_false c297
    exact (none_no H).elim

set_option maxHeartbeats 30000000 in
set_option maxRecDepth 100000 in
theorem pack_Put.calls (a273 : Int) (a274 : Int) (a275 : Int) (a276 : Int) (r : Int × Int) (w : World)  (HGl0 : Aside0 (Gl 0 #[.int .i64 0, .int .i64 0, .int .i64 0, .int .i64 0, .int .i64 0] (fps []) w)) (HS : Aside0 (Sep (fps []) w [] w)) (H : Aside0 (pack_Put.f a273 a274 a275 a276 = some r)) :
    Calls Tryd.prog 126 #[.int .u32 a273, .int .i64 a274, .int .i64 a275, .int .u32 a276] w fun e w' => e = .returned (.tuple #[.int .u32 r.1, .int .i64 r.2]) ∧ Sep (fps []) w [] w' := by
  unfold pack_Put.f at H
  go_enter Tryd.func126, Tryd.ntmps126
  go_wp2_with fail
  obtain ⟨t282, HA283, H⟩ := bind_some H
  refine (pack_isPiece.calls a274 a275 t282 _ ⟨HGl0.out.pass (l := []) HS.out⟩ ⟨Sep.start _⟩ HA283).mono ?_
  rintro e_ w284 ⟨rfl, hS⟩
  replace HS : Aside0 (Sep (fps []) w [] w284) := ⟨HS.out.call hS⟩
  clear hS
  by_cases c285 : t282 = true
  · replace H := if_yes c285 H
    have c285b0 : t282 = true := c285
    have c285b1 : (!t282) = false := by rw [c285b0]; rfl
    try rw [c285b1]
    clear c285
    go_wp2_with fail
    obtain ⟨t291, HA292, H⟩ := bind_some H
    refine (pack_Fits.calls a276 a275 t291 _ ⟨HGl0.out.pass (l := []) HS.out⟩ ⟨Sep.start _⟩ HA292).mono ?_
    rintro e_ w293 ⟨rfl, hS⟩
    replace HS : Aside0 (Sep (fps []) w [] w293) := ⟨HS.out.call hS⟩
    clear hS
    by_cases c294 : t291 = true
    · replace H := if_yes c294 H
      have c294b0 : t291 = true := c294
      have c294b1 : (!t291) = false := by rw [c294b0]; rfl
      try rw [c294b1]
      clear c294
      go_wp2_with fail
      obtain ⟨t299, HA300, H⟩ := bind_some H
      refine (pack_mask.calls a274 a275 t299 _ ⟨HGl0.out.pass (l := []) HS.out⟩ ⟨Sep.start _⟩ HA300).mono ?_
      rintro e_ w301 ⟨rfl, hS⟩
      replace HS : Aside0 (Sep (fps []) w [] w301) := ⟨HS.out.call hS⟩
      clear hS
      by_cases c302 : 0 ≤ (IntKind.u64.wrap (a274))
      · replace H := if_yes c302 H
        have c302b0 : decide (0 ≤ (IntKind.u64.wrap (a274))) = true := decide_eq_true c302
        skip
        go_wp2_with fail
        clear c302
        go_ret2
        rw [← some_eq H]
        exact ⟨(by first | rfl | (simp [IntKind.wrap_u32]; done)), HS.out⟩
      · replace H := if_no c302 H
        have c302b0 : decide (0 ≤ (IntKind.u64.wrap (a274))) = false := decide_eq_false c302
        exact (none_no H).elim
    · replace H := if_no c294 H
      have c294b0 : t291 = false := by simpa using c294
      have c294b1 : (!t291) = true := by rw [c294b0]; rfl
      try rw [c294b1]
      clear c294
      go_wp2_with fail
      go_ret2
      rw [← some_eq H]
      exact ⟨(by first | rfl | (simp [IntKind.wrap_u32]; done)), HS.out⟩
  · replace H := if_no c285 H
    have c285b0 : t282 = false := by simpa using c285
    have c285b1 : (!t282) = true := by rw [c285b0]; rfl
    try rw [c285b1]
    clear c285
    go_wp2_with fail
    go_ret2
    rw [← some_eq H]
    exact ⟨(by first | rfl | (simp [IntKind.wrap_u32]; done)), HS.out⟩

set_option maxHeartbeats 30000000 in
set_option maxRecDepth 100000 in
theorem pack_Join.calls (k : Nat) (l217 : List Int) (l221 : List Int) (A218 : Option Addr) (n219 : Nat) (A222 : Option Addr) (n223 : Nat) (r : Int × Int) (w : World) (HR220 : Aside0 (Rd (Kd.int .u32) (fps []) w A218 l217.length l217)) (HR224 : Aside0 (Rd (Kd.int .i64) (fps []) w A222 l221.length l221)) (HGl0 : Aside0 (Gl 0 #[.int .i64 0, .int .i64 0, .int .i64 0, .int .i64 0, .int .i64 0] (fps []) w)) (HS : Aside0 (Sep (fps []) w [] w)) (H : Aside0 (pack_Join.f k l217 l221 = some r)) :
    Calls Tryd.prog 69 #[.slice A218 l217.length n219, .slice A222 l221.length n223] w fun e w' => e = .returned (.tuple #[.int .u32 r.1, .int .i64 r.2]) ∧ Sep (fps []) w [] w' := by
  unfold pack_Join.f at H
  go_enter Tryd.func69, Tryd.ntmps69
  go_wp2_with fail
  obtain ⟨t254, HA255, H⟩ := bind_some H
  refine (pack_total.calls _ l221 A222 n223 t254 _ ⟨Rd.pass (l := []) (by decide) (fun _ _ _ _ h => h) HR224.out HS.out⟩ ⟨HGl0.out.pass (l := []) HS.out⟩ ⟨Sep.start _⟩ HA255).mono ?_
  rintro e_ w256 ⟨rfl, hS⟩
  replace HS : Aside0 (Sep (fps []) w [] w256) := ⟨HS.out.call hS⟩
  clear hS
  by_cases c257 : t254 < 0
  · replace H := if_yes c257 H
    have c257b0 : decide (t254 < 0) = true := decide_eq_true c257
    clear c257
    go_wp2_with fail
    go_ret2
    rw [← some_eq H]
    exact ⟨(by first | rfl | (simp [IntKind.wrap_u32]; done)), HS.out⟩
  · replace H := if_no c257 H
    have c257b0 : decide (t254 < 0) = false := decide_eq_false c257
    clear c257
    by_cases c258 : (l217.length : Int) = (l221.length : Int)
    · replace H := if_yes c258 H
      have c258b0 : ((l217.length : Int) == (l221.length : Int)) = true := beq_iff_eq.mpr c258
      have c258b1 : ((l217.length : Int) != (l221.length : Int)) = false := bne_eq_false_iff_eq.mpr c258
      clear c258
      go_wp2_with fail
      obtain ⟨o307, AL308, H⟩ := bind_some H
      go_loopg [6, 7, 24] k (fun kq v6 v7 v24 wc => ∃ (x311 : Int) (x312 : Int) (x313 : Int), v6 = .int .u32 x311 ∧ v7 = .int .i64 x312 ∧ v24 = .int .i64 x313 ∧ Aside0 (pack_Join.lo0 kq l217 l221 x311 x312 x313 = some o307) ∧ Aside0 (Sep (fps []) w [] wc))
      case atStart => exact ⟨(0), (0), (0), (by first | rfl | (simp [IntKind.wrap_u32]; done)), (by first | rfl | (simp [IntKind.wrap_u32]; done)), (by first | rfl | (simp [IntKind.wrap_u32]; done)), AL308, ⟨HS.out⟩⟩
      case round =>
        clear AL308 HS
        obtain ⟨x311, x312, x313, rfl, rfl, rfl, AL308, HS⟩ := hrel
        obtain ⟨w309, rfl⟩ : ∃ x : World, x = wr := ⟨_, rfl⟩
        cases gk with
        | zero => exact absurd AL308.out (by simp [pack_Join.lo0])
        | succ k310 =>
          have AL0 := AL308.out
          rw [pack_Join.lo0] at AL0
          clear AL308
          have AL308 := Aside0.mk AL0
          clear AL0
          by_cases c314 : x313 < (l221.length : Int)
          · replace AL308 := if_yes c314 AL308
            have c314b0 : decide (x313 < (l221.length : Int)) = true := decide_eq_true c314
            clear c314
            by_cases c315 : 0 ≤ x313
            · replace AL308 := if_yes c315 AL308
              have c315b0 : decide (0 ≤ x313) = true := decide_eq_true c315
              have c315p : (0 ≤ x313) = True := eq_true c315
              clear c315
              have ip316 : (x313 < (l221.length : Int)) = True := eq_true (of_decide_eq_true c314b0)
              by_cases c318 : x313 < (l217.length : Int)
              · replace AL308 := if_yes c318 AL308
                have c318b0 : decide (x313 < (l217.length : Int)) = true := decide_eq_true c318
                have c318p : (x313 < (l217.length : Int)) = True := eq_true c318
                clear c318
                obtain ⟨hx317a, hx317e, hx317⟩ := Kd.at_int (Rd.read (fun _ _ _ _ h => h) HR224.out HS.out.fr) x313 (of_decide_eq_true c315b0) (of_decide_eq_true c314b0); cases hx317e
                obtain ⟨hx319a, hx319e, hx319⟩ := Kd.at_int (Rd.read (fun _ _ _ _ h => h) HR220.out HS.out.fr) x313 (of_decide_eq_true c315b0) (of_decide_eq_true c318b0); cases hx319e
                go_wp2_with fail
                clear hx317 hx319
                obtain ⟨t303, HA320, AL308⟩ := bind_some AL308
                refine (pack_Put.calls x311 x312 (rd l221 x313) (rd l217 x313) t303 _ ⟨HGl0.out.pass (l := []) HS.out⟩ ⟨Sep.start _⟩ HA320).mono ?_
                rintro e_ w321 ⟨rfl, hS⟩
                replace HS : Aside0 (Sep (fps []) w [] w321) := ⟨HS.out.call hS⟩
                clear hS
                by_cases c322 : t303.2 = 0
                · replace AL308 := if_yes c322 AL308
                  have c322b0 : (t303.2 == 0) = true := beq_iff_eq.mpr c322
                  have c322b1 : (t303.2 != 0) = false := bne_eq_false_iff_eq.mpr c322
                  clear c322
                  go_wp2_with fail
                  go_roundg k310
                  case measure => exact Nat.lt_succ_self _
                  case rel => exact ⟨(t303.1), (wrap64 (x312 + (rd l221 x313))), (wrap64 (x313 + 1)), (by first | rfl | (simp [IntKind.wrap_u32]; done)), (by first | rfl | (simp [IntKind.wrap_u32]; done)), (by first | rfl | (simp [IntKind.wrap_u32]; done)), Aside0.mk AL308.out, ⟨HS.out⟩⟩
                · replace AL308 := if_no c322 AL308
                  have c322b0 : (t303.2 == 0) = false := beq_eq_false_iff_ne.mpr c322
                  have c322b1 : (t303.2 != 0) = true := bne_iff_ne.mpr c322
                  clear c322
                  go_wp2_with fail
                  have ho := some_eq AL308
                  subst ho
                  have H := lp_ret H
                  go_ret2
                  rw [← some_eq H]
                  exact ⟨(by first | rfl | (simp [IntKind.wrap_u32]; done)), HS.out⟩
              · replace AL308 := if_no c318 AL308
                have c318b0 : decide (x313 < (l217.length : Int)) = false := decide_eq_false c318
                clear c318
                exact (none_no AL308).elim
            · replace AL308 := if_no c315 AL308
              have c315b0 : decide (0 ≤ x313) = false := decide_eq_false c315
              clear c315
              exact (none_no AL308).elim
          · replace AL308 := if_no c314 AL308
            have c314b0 : decide (x313 < (l221.length : Int)) = false := decide_eq_false c314
            clear c314
            have ho := some_eq AL308
            subst ho
            clear AL308
            have H := lp_out H
            go_wp2_with fail
            go_ret2
            rw [← some_eq H]
            exact ⟨(by first | rfl | (simp [IntKind.wrap_u32]; done)), HS.out⟩
    · replace H := if_no c258 H
      have c258b0 : ((l217.length : Int) == (l221.length : Int)) = false := beq_eq_false_iff_ne.mpr c258
      have c258b1 : ((l217.length : Int) != (l221.length : Int)) = true := bne_iff_ne.mpr c258
      clear c258
      go_wp2_with fail
      go_ret2
      rw [← some_eq H]
      exact ⟨(by first | rfl | (simp [IntKind.wrap_u32]; done)), HS.out⟩

set_option maxHeartbeats 30000000 in
set_option maxRecDepth 100000 in
theorem tag_Pack.calls (k : Nat) (a10 : Int) (a11 : Int) (a12 : Int) (a13 : Int) (a14 : Int) (a15 : Int) (a16 : Int) (r : Int × Int) (w : World)  (HGl0 : Aside0 (Gl 0 #[.int .i64 0, .int .i64 0, .int .i64 0, .int .i64 0, .int .i64 0] (fps []) w)) (HS : Aside0 (Sep (fps []) w [] w)) (H : Aside0 (tag_Pack.f k a10 a11 a12 a13 a14 a15 a16 = some r)) :
    Calls Tryd.prog 16 #[.agg #[.int .i64 a10, .int .i64 a11, .int .i64 a12, .int .i64 a13, .int .i64 a14, .int .i64 a15, .int .i64 a16]] w fun e w' => e = .returned (.tuple #[.int .u32 r.1, .int .i64 r.2]) ∧ Sep (fps []) w [] w' := by
  unfold tag_Pack.f at H
  go_enter Tryd.func16, Tryd.ntmps16
  go_wp2_with (first | ((with_reducible refine gate_dst (N := 1) rfl ?_); refine box_on ?hg (N := 1) ?hd (cs := #[.int .i64 a10, .int .i64 a11, .int .i64 a12, .int .i64 a13, .int .i64 a14, .int .i64 a15, .int .i64 a16]) (t := 32) ?hr ?_; (case hd => rfl); (case hg => rfl); (case hr => first | (go_simp; done) | (go_simp; rfl)); intro g17 hg w18 hbox hb; replace HS : Aside0 (Sep (fps []) w [b1 g17 a10 a11 a12 a13 a14 a15 a16] w18) := ⟨HS.out.box hg hbox hb⟩; clear hg hbox hb; have hc20 : w18.cell? ⟨g17, 0, none⟩ = some (.int .i64 a10) := blk_cellv (HS.out.at0) 0 rfl; have hc21 : w18.cell? ⟨g17, 1, none⟩ = some (.int .i64 a11) := blk_cellv (HS.out.at0) 1 rfl; have hc22 : w18.cell? ⟨g17, 2, none⟩ = some (.int .i64 a12) := blk_cellv (HS.out.at0) 2 rfl; have hc23 : w18.cell? ⟨g17, 3, none⟩ = some (.int .i64 a13) := blk_cellv (HS.out.at0) 3 rfl; have hc24 : w18.cell? ⟨g17, 4, none⟩ = some (.int .i64 a14) := blk_cellv (HS.out.at0) 4 rfl; have hc25 : w18.cell? ⟨g17, 5, none⟩ = some (.int .i64 a15) := blk_cellv (HS.out.at0) 5 rfl; have hc26 : w18.cell? ⟨g17, 6, none⟩ = some (.int .i64 a16) := blk_cellv (HS.out.at0) 6 rfl))
  clear hc20 hc21 hc22 hc23 hc24 hc25 hc26
  obtain ⟨t159, HA160, H⟩ := bind_some H
  refine (tag_Right.calls _ a10 a11 a12 a13 a14 a15 a16 t159 _ ⟨HGl0.out.pass (l := []) HS.out⟩ ⟨Sep.start _⟩ HA160).mono ?_
  rintro e_ w161 ⟨rfl, hS⟩
  replace HS : Aside0 (Sep (fps []) w [b1 g17 a10 a11 a12 a13 a14 a15 a16] w161) := ⟨HS.out.call hS⟩
  clear hS
  by_cases c162 : t159 = true
  · replace H := if_yes c162 H
    have c162b0 : t159 = true := c162
    have c162b1 : (!t159) = false := by rw [c162b0]; rfl
    try rw [c162b1]
    clear c162
    have hc163 : w161.cell? ⟨g17, 0, none⟩ = some (.int .i64 a10) := blk_cellv (HS.out.at0) 0 rfl
    go_wp2_with (first | ((with_reducible refine gate_dst (N := 13) rfl ?_); refine slice_on (n := 1) ?hg (N := 13) ?hd (cs := #[.int .u32 ((a10) % 4294967296)]) (t := 33) ?hr ?_; (case hd => rfl); (case hg => rfl); (case hr => first | (go_simp; done) | (go_simp; rfl)); intro g164 hg w165 hbox hb; clear hc163; replace HS : Aside0 (Sep (fps []) w [b1 g17 a10 a11 a12 a13 a14 a15 a16, b3 g164 ((a10) % 4294967296)] w165) := ⟨HS.out.box hg hbox hb⟩; clear hg hbox hb; have hc167 : w165.cell? ⟨g17, 0, none⟩ = some (.int .i64 a10) := blk_cellv (HS.out.at0) 0 rfl; have hc168 : w165.cell? ⟨g17, 1, none⟩ = some (.int .i64 a11) := blk_cellv (HS.out.at0) 1 rfl; have hc169 : w165.cell? ⟨g17, 2, none⟩ = some (.int .i64 a12) := blk_cellv (HS.out.at0) 2 rfl; have hc170 : w165.cell? ⟨g17, 3, none⟩ = some (.int .i64 a13) := blk_cellv (HS.out.at0) 3 rfl; have hc171 : w165.cell? ⟨g17, 4, none⟩ = some (.int .i64 a14) := blk_cellv (HS.out.at0) 4 rfl; have hc172 : w165.cell? ⟨g17, 5, none⟩ = some (.int .i64 a15) := blk_cellv (HS.out.at0) 5 rfl; have hc173 : w165.cell? ⟨g17, 6, none⟩ = some (.int .i64 a16) := blk_cellv (HS.out.at0) 6 rfl))
    clear hc167 hc168 hc169 hc170 hc171 hc172 hc173
    obtain ⟨t174, HA175, H⟩ := bind_some H
    refine (tag_marks.calls a10 a11 a12 a13 a14 a15 a16 t174 _ ⟨HGl0.out.pass (l := []) HS.out⟩ ⟨Sep.start _⟩ HA175).mono ?_
    rintro e_ w176 ⟨rfl, hS⟩
    replace HS : Aside0 (Sep (fps []) w [b1 g17 a10 a11 a12 a13 a14 a15 a16, b3 g164 ((a10) % 4294967296)] w176) := ⟨HS.out.call hS⟩
    clear hS
    go_wp2_with fail
    replace HS : Aside0 (Sep (fps []) w [b1 g17 a10 a11 a12 a13 a14 a15 a16, r4 (some ⟨g164, 0, none⟩) 1 1 [(a10) % 4294967296]] w176) := ⟨Sep.litrow (l1 := [b1 g17 a10 a11 a12 a13 a14 a15 a16]) (l2 := []) (enc := Value.int .u32) (xs := [(a10) % 4294967296]) (n := 1) HS.out rfl (by decide)⟩
    obtain ⟨o178, AL179, H⟩ := bind_some H
    go_loopg [4, 16] k (fun kq v4 v16 wc => ∃ (x183 : Int) (x184 : List Int) (A185 : Option Addr) (m186 : Nat) (n187 : Nat), v4 = .slice A185 m186 n187 ∧ v16 = .int .i64 x183 ∧ Aside0 (tag_Pack.lo0 kq t174 x183 x184 = some o178) ∧ Aside0 (Sep (fps []) w [b1 g17 a10 a11 a12 a13 a14 a15 a16, r4 A185 m186 n187 x184] wc))
    case atStart => exact ⟨(0), ([(a10) % 4294967296]), ((some ⟨g164, 0, none⟩)), (1), (1), (by first | rfl | (simp [IntKind.wrap_u32]; done)), (by first | rfl | (simp [IntKind.wrap_u32]; done)), AL179, ⟨HS.out⟩⟩
    case round =>
      clear AL179 HS
      obtain ⟨x183, x184, A185, m186, n187, rfl, rfl, AL179, HS⟩ := hrel
      obtain ⟨w180, rfl⟩ : ∃ x : World, x = wr := ⟨_, rfl⟩
      obtain rfl := (row_len (HS.out.at1)).symm
      cases gk with
      | zero => exact absurd AL179.out (by simp [tag_Pack.lo0])
      | succ k181 =>
        have AL0 := AL179.out
        rw [tag_Pack.lo0] at AL0
        clear AL179
        have AL179 := Aside0.mk AL0
        clear AL0
        by_cases c189 : x183 < 5
        · replace AL179 := if_yes c189 AL179
          have c189b0 : decide (x183 < 5) = true := decide_eq_true c189
          clear c189
          by_cases c190 : 0 ≤ x183
          · replace AL179 := if_yes c190 AL179
            have c190b0 : decide (0 ≤ x183) = true := decide_eq_true c190
            have c190p : (0 ≤ x183) = True := eq_true c190
            clear c190
            have ip191 : (x183 < 5) = True := eq_true (of_decide_eq_true c189b0)
            have ix192 : ∀ w, (Instr.index 108 (.agg #[.int .i64 t174.1, .int .i64 t174.2.1, .int .i64 t174.2.2.1, .int .i64 t174.2.2.2.1, .int .i64 t174.2.2.2.2]) (.int .i64 x183)).run Tryd.prog w = .ok (.int .i64 (rd [t174.1, t174.2.1, t174.2.2.1, t174.2.2.2.1, t174.2.2.2.2] x183)) w := run_index_ints 108 3 5 .i64 .i64 [t174.1, t174.2.1, t174.2.2.1, t174.2.2.2.1, t174.2.2.2.2] x183 Tryd.underlying108 (fun _ => by kernel_rfl) (fun _ => by kernel_rfl) rfl (of_decide_eq_true c190b0) (of_decide_eq_true c189b0)
            by_cases c196 : x184.length < 35184372088832
            · replace AL179 := if_yes c196 AL179
              have c196b0 : decide (x184.length < 35184372088832) = true := decide_eq_true c196
              clear c196
              obtain ⟨y200, HA201, AL179⟩ := bind_some AL179
              go_wp2_with (first | ((with_reducible refine gate_dst (N := 22) rfl ?_); refine slice_on (n := 1) ?hg (N := 22) ?hd (cs := #[.int .u32 ((rd [t174.1, t174.2.1, t174.2.2.1, t174.2.2.2.1, t174.2.2.2.2] x183) % 4294967296)]) (t := 33) ?hr ?_; (case hd => rfl); (case hg => rfl); (case hr => first | (go_simp; done) | (go_simp; rfl)); intro g193 hg w194 hbox hb; replace HS : Aside0 (Sep (fps []) w [b1 g17 a10 a11 a12 a13 a14 a15 a16, r4 A185 x184.length n187 x184, b3 g193 ((rd [t174.1, t174.2.1, t174.2.2.1, t174.2.2.2.1, t174.2.2.2.2] x183) % 4294967296)] w194) := ⟨HS.out.box hg hbox hb⟩; clear hg hbox hb) | ((with_reducible refine gate_dst (N := 23) rfl ?_); refine append_event (l1 := [b1 g17 a10 a11 a12 a13 a14 a15 a16]) (l2 := [b3 g193 ((rd [t174.1, t174.2.1, t174.2.2.1, t174.2.2.2.1, t174.2.2.2.2] x183) % 4294967296)]) rfl (.tmp 19) (.tmp 22) 69 33 (.int .u32 0) 4 rfl Tryd.underlying69 (by kernel_rfl) rfl (by decide) (Value.int .u32) (fun _ => rfl) (.slice A185 x184.length n187) (x184 : List Int) [(rd [t174.1, t174.2.1, t174.2.2.1, t174.2.2.2.1, t174.2.2.2.2] x183) % 4294967296] ⟨g193, 0, none⟩ 1 rfl rfl (blk_news (xs := [(rd [t174.1, t174.2.1, t174.2.2.1, t174.2.2.2.1, t174.2.2.2.2] x183) % 4294967296]) (HS.out.at2)) HS.out (by have := of_decide_eq_true c196b0; simp only [List.length_cons, List.length_nil]; omega) HA201 ?_; intro A197 n198 w199 HS1; replace HS : Aside0 (Sep (fps []) w [b1 g17 a10 a11 a12 a13 a14 a15 a16, r4 A197 y200.length n198 y200, b3 g193 ((rd [t174.1, t174.2.1, t174.2.2.1, t174.2.2.2.1, t174.2.2.2.2] x183) % 4294967296)] w199) := ⟨HS1⟩; clear HS1; replace HS : Aside0 (Sep (fps []) w [b1 g17 a10 a11 a12 a13 a14 a15 a16, r4 A197 y200.length n198 y200] w199) := ⟨HS.out.sub (.cons_cons _ (.cons_cons _ (.cons _ .slnil)))⟩))
              go_roundg k181
              case measure => exact Nat.lt_succ_self _
              case rel => exact ⟨(wrap64 (x183 + 1)), (y200), (A197), (y200.length), (n198), (by first | rfl | (simp [IntKind.wrap_u32]; done)), (by first | rfl | (simp [IntKind.wrap_u32]; done)), Aside0.mk AL179.out, ⟨HS.out⟩⟩
            · replace AL179 := if_no c196 AL179
              have c196b0 : decide (x184.length < 35184372088832) = false := decide_eq_false c196
              clear c196
              exact (none_no AL179).elim
          · replace AL179 := if_no c190 AL179
            have c190b0 : decide (0 ≤ x183) = false := decide_eq_false c190
            clear c190
            exact (none_no AL179).elim
        · replace AL179 := if_no c189 AL179
          have c189b0 : decide (x183 < 5) = false := decide_eq_false c189
          clear c189
          have ho := some_eq AL179
          subst ho
          clear AL179
          by_cases c207 : x184.length < 35184372088831
          · replace H := if_yes c207 H
            have c207b0 : decide (x184.length < 35184372088831) = true := decide_eq_true c207
            clear c207
            obtain ⟨y211, HA212, H⟩ := bind_some H
            have hc203 : w180.cell? ⟨g17, 6, none⟩ = some (.int .i64 a16) := blk_cellv (HS.out.at0) 6 rfl
            go_wp2_with (first | ((with_reducible refine gate_dst (N := 29) rfl ?_); refine slice_on (n := 2) ?hg (N := 29) ?hd (cs := #[.int .u32 0, .int .u32 ((a16) % 4294967296)]) (t := 33) ?hr ?_; (case hd => rfl); (case hg => rfl); (case hr => first | (go_simp; done) | (go_simp; rfl)); intro g204 hg w205 hbox hb; clear hc203; replace HS : Aside0 (Sep (fps []) w [b1 g17 a10 a11 a12 a13 a14 a15 a16, r4 A185 x184.length n187 x184, b5 g204 0 ((a16) % 4294967296)] w205) := ⟨HS.out.box hg hbox hb⟩; clear hg hbox hb) | ((with_reducible refine gate_dst (N := 30) rfl ?_); refine append_event (l1 := [b1 g17 a10 a11 a12 a13 a14 a15 a16]) (l2 := [b5 g204 0 ((a16) % 4294967296)]) rfl (.tmp 25) (.tmp 29) 69 33 (.int .u32 0) 4 rfl Tryd.underlying69 (by kernel_rfl) rfl (by decide) (Value.int .u32) (fun _ => rfl) (.slice A185 x184.length n187) (x184 : List Int) [0, (a16) % 4294967296] ⟨g204, 0, none⟩ 2 rfl rfl (blk_news (xs := [0, (a16) % 4294967296]) (HS.out.at2)) HS.out (by have := of_decide_eq_true c207b0; simp only [List.length_cons, List.length_nil]; omega) HA212 ?_; intro A208 n209 w210 HS1; replace HS : Aside0 (Sep (fps []) w [b1 g17 a10 a11 a12 a13 a14 a15 a16, r4 A208 y211.length n209 y211, b5 g204 0 ((a16) % 4294967296)] w210) := ⟨HS1⟩; clear HS1) | ((with_reducible refine gate_dst (N := 31) rfl ?_); refine slice_on (n := 8) ?hg (N := 31) ?hd (cs := #[.int .i64 2, .int .i64 1, .int .i64 1, .int .i64 1, .int .i64 1, .int .i64 1, .int .i64 1, .int .i64 24]) (t := 3) ?hr ?_; (case hd => rfl); (case hg => rfl); (case hr => first | (go_simp; done) | (go_simp; rfl)); intro g214 hg w215 hbox hb; replace HS : Aside0 (Sep (fps []) w [b1 g17 a10 a11 a12 a13 a14 a15 a16, r4 A208 y211.length n209 y211, b5 g204 0 ((a16) % 4294967296), b6 g214 2 1 1 1 1 1 1 24] w215) := ⟨HS.out.box hg hbox hb⟩; clear hg hbox hb))
            obtain ⟨t324, HA325, H⟩ := bind_some H
            refine (pack_Join.calls _ y211 [2, 1, 1, 1, 1, 1, 1, 24] A208 n209 (some ⟨g214, 0, none⟩) 8 t324 _ ⟨Rd.ownI (l := []) HS.out 1 rfl⟩ ⟨Rd.lit (l := []) (xs := [2, 1, 1, 1, 1, 1, 1, 24]) HS.out 3 rfl (by simp)⟩ ⟨HGl0.out.pass (l := []) HS.out⟩ ⟨Sep.start _⟩ HA325).mono ?_
            rintro e_ w326 ⟨rfl, hS⟩
            replace HS : Aside0 (Sep (fps []) w [b1 g17 a10 a11 a12 a13 a14 a15 a16, r4 A208 y211.length n209 y211, b5 g204 0 ((a16) % 4294967296), b6 g214 2 1 1 1 1 1 1 24] w326) := ⟨HS.out.call hS⟩
            clear hS
            replace HS : Aside0 (Sep (fps []) w [] w326) := ⟨HS.out.sub (.cons _ (.cons _ (.cons _ (.cons _ .slnil))))⟩
            go_wp2_with fail
            go_ret2
            rw [← some_eq H]
            exact ⟨(by first | rfl | (simp [IntKind.wrap_u32]; done)), HS.out⟩
          · replace H := if_no c207 H
            have c207b0 : decide (x184.length < 35184372088831) = false := decide_eq_false c207
            clear c207
            exact (none_no H).elim
  · replace H := if_no c162 H
    have c162b0 : t159 = false := by simpa using c162
    have c162b1 : (!t159) = true := by rw [c162b0]; rfl
    try rw [c162b1]
    clear c162
    replace HS : Aside0 (Sep (fps []) w [] w161) := ⟨HS.out.sub (.cons _ .slnil)⟩
    go_wp2_with fail
    go_ret2
    rw [← some_eq H]
    exact ⟨(by first | rfl | (simp [IntKind.wrap_u32]; done)), HS.out⟩

set_option maxHeartbeats 30000000 in
set_option maxRecDepth 100000 in
theorem pack_Get.calls (a350 : Int) (a351 : Int) (a352 : Int) (r : Int) (w : World)  (HGl0 : Aside0 (Gl 0 #[.int .i64 0, .int .i64 0, .int .i64 0, .int .i64 0, .int .i64 0] (fps []) w)) (HS : Aside0 (Sep (fps []) w [] w)) (H : Aside0 (pack_Get.f a350 a351 a352 = some r)) :
    Calls Tryd.prog 20 #[.int .u32 a350, .int .i64 a351, .int .i64 a352] w fun e w' => e = .returned (.int .u32 r) ∧ Sep (fps []) w [] w' := by
  unfold pack_Get.f at H
  go_enter Tryd.func20, Tryd.ntmps20
  go_wp2_with fail
  obtain ⟨t353, HA354, H⟩ := bind_some H
  refine (pack_isPiece.calls a351 a352 t353 _ ⟨HGl0.out.pass (l := []) HS.out⟩ ⟨Sep.start _⟩ HA354).mono ?_
  rintro e_ w355 ⟨rfl, hS⟩
  replace HS : Aside0 (Sep (fps []) w [] w355) := ⟨HS.out.call hS⟩
  clear hS
  by_cases c356 : t353 = true
  · replace H := if_yes c356 H
    have c356b0 : t353 = true := c356
    have c356b1 : (!t353) = false := by rw [c356b0]; rfl
    try rw [c356b1]
    clear c356
    go_wp2_with fail
    obtain ⟨t357, HA358, H⟩ := bind_some H
    refine (pack_mask.calls a351 a352 t357 _ ⟨HGl0.out.pass (l := []) HS.out⟩ ⟨Sep.start _⟩ HA358).mono ?_
    rintro e_ w359 ⟨rfl, hS⟩
    replace HS : Aside0 (Sep (fps []) w [] w359) := ⟨HS.out.call hS⟩
    clear hS
    by_cases c360 : 0 ≤ (IntKind.u64.wrap (a351))
    · replace H := if_yes c360 H
      have c360b0 : decide (0 ≤ (IntKind.u64.wrap (a351))) = true := decide_eq_true c360
      skip
      go_wp2_with fail
      clear c360
      go_ret
      rw [← some_eq H]
      exact ⟨(by first | rfl | (simp [IntKind.wrap_u32]; done)), HS.out⟩
    · replace H := if_no c360 H
      have c360b0 : decide (0 ≤ (IntKind.u64.wrap (a351))) = false := decide_eq_false c360
      exact (none_no H).elim
  · replace H := if_no c356 H
    have c356b0 : t353 = false := by simpa using c356
    have c356b1 : (!t353) = true := by rw [c356b0]; rfl
    try rw [c356b1]
    clear c356
    go_wp2_with fail
    go_ret
    rw [← some_eq H]
    exact ⟨(by first | rfl | (simp [IntKind.wrap_u32]; done)), HS.out⟩

set_option maxHeartbeats 30000000 in
set_option maxRecDepth 100000 in
theorem pack_Ones.calls (k : Nat) (a365 : Int) (r : Int) (w : World)  (HGl0 : Aside0 (Gl 0 #[.int .i64 0, .int .i64 0, .int .i64 0, .int .i64 0, .int .i64 0] (fps []) w)) (HS : Aside0 (Sep (fps []) w [] w)) (H : Aside0 (pack_Ones.f k a365 = some r)) :
    Calls Tryd.prog 63 #[.int .u32 a365] w fun e w' => e = .returned (.int .i64 r) ∧ Sep (fps []) w [] w' := by
  unfold pack_Ones.f at H
  go_enter Tryd.func63, Tryd.ntmps63
  go_wp2_with fail
  obtain ⟨o367, AL368, H⟩ := bind_some H
  go_loopg [0, 3] k (fun kq v0 v3 wc => ∃ (x371 : Int) (x372 : Int), v0 = .int .u32 x371 ∧ v3 = .int .i64 x372 ∧ Aside0 (pack_Ones.lo0 kq x371 x372 = some o367) ∧ Aside0 (Sep (fps []) w [] wc))
  case atStart => exact ⟨(a365), (0), (by first | rfl | (simp [IntKind.wrap_u32]; done)), (by first | rfl | (simp [IntKind.wrap_u32]; done)), AL368, ⟨HS.out⟩⟩
  case round =>
    clear AL368 HS
    obtain ⟨x371, x372, rfl, rfl, AL368, HS⟩ := hrel
    obtain ⟨w369, rfl⟩ : ∃ x : World, x = wr := ⟨_, rfl⟩
    cases gk with
    | zero => exact absurd AL368.out (by simp [pack_Ones.lo0])
    | succ k370 =>
      have AL0 := AL368.out
      rw [pack_Ones.lo0] at AL0
      clear AL368
      have AL368 := Aside0.mk AL0
      clear AL0
      by_cases c373 : x371 = 0
      · replace AL368 := if_yes c373 AL368
        have c373b0 : (x371 == 0) = true := beq_iff_eq.mpr c373
        have c373b1 : (x371 != 0) = false := bne_eq_false_iff_eq.mpr c373
        clear c373
        have ho := some_eq AL368
        subst ho
        clear AL368
        go_wp2_with fail
        go_ret
        rw [← some_eq H]
        exact ⟨(by first | rfl | (simp [IntKind.wrap_u32]; done)), HS.out⟩
      · replace AL368 := if_no c373 AL368
        have c373b0 : (x371 == 0) = false := beq_eq_false_iff_ne.mpr c373
        have c373b1 : (x371 != 0) = true := bne_iff_ne.mpr c373
        clear c373
        go_wp2_with fail
        go_roundg k370
        case measure => exact Nat.lt_succ_self _
        case rel => exact ⟨(Go.bits .and .u32 x371 ((x371 - 1) % 4294967296)), (wrap64 (x372 + 1)), (by first | rfl | (simp [IntKind.wrap_u32]; done)), (by first | rfl | (simp [IntKind.wrap_u32]; done)), Aside0.mk AL368.out, ⟨HS.out⟩⟩

set_option maxHeartbeats 30000000 in
set_option maxRecDepth 100000 in
theorem shape_isWidth.calls (a390 : Int) (r : Bool) (w : World)  (HGl0 : Aside0 (Gl 0 #[.int .i64 0, .int .i64 0, .int .i64 0, .int .i64 0, .int .i64 0] (fps []) w)) (HS : Aside0 (Sep (fps []) w [] w)) (H : Aside0 (shape_isWidth.f a390 = some r)) :
    Calls Tryd.prog 144 #[.int .i64 a390] w fun e w' => e = .returned (.bool r) ∧ Sep (fps []) w [] w' := by
  unfold shape_isWidth.f at H
  go_enter Tryd.func144, Tryd.ntmps144
  by_cases c391 : a390 ≥ 16
  · replace H := if_yes c391 H
    have c391b0 : decide (16 ≤ a390) = true := decide_eq_true c391
    clear c391
    go_wp2_with fail
    go_ret
    rw [← some_eq H]
    exact ⟨(by first | rfl | (simp [IntKind.wrap_u32]; done)), HS.out⟩
  · replace H := if_no c391 H
    have c391b0 : decide (16 ≤ a390) = false := decide_eq_false c391
    clear c391
    go_wp2_with fail
    go_ret
    rw [← some_eq H]
    exact ⟨(by first | rfl | (simp [IntKind.wrap_u32]; done)), HS.out⟩

set_option maxHeartbeats 30000000 in
set_option maxRecDepth 100000 in
theorem shape_inHead.calls (a397 : Int) (r : Int) (w : World)  (HGl0 : Aside0 (Gl 0 #[.int .i64 0, .int .i64 0, .int .i64 0, .int .i64 0, .int .i64 0] (fps []) w)) (HS : Aside0 (Sep (fps []) w [] w)) (H : Aside0 (shape_inHead.f a397 = some r)) :
    Calls Tryd.prog 146 #[.int .i64 a397] w fun e w' => e = .returned (.int .i64 r) ∧ Sep (fps []) w [] w' := by
  unfold shape_inHead.f at H
  go_enter Tryd.func146, Tryd.ntmps146
  go_wp2_with fail
  go_ret
  rw [← some_eq H]
  exact ⟨(by first | rfl | (simp [IntKind.wrap_u32]; done)), HS.out⟩

set_option maxHeartbeats 30000000 in
set_option maxRecDepth 100000 in
theorem shape_inLeaf.calls (a401 : Int) (r : Int) (w : World)  (HGl0 : Aside0 (Gl 0 #[.int .i64 0, .int .i64 0, .int .i64 0, .int .i64 0, .int .i64 0] (fps []) w)) (HS : Aside0 (Sep (fps []) w [] w)) (H : Aside0 (shape_inLeaf.f a401 = some r)) :
    Calls Tryd.prog 120 #[.int .i64 a401] w fun e w' => e = .returned (.int .i64 r) ∧ Sep (fps []) w [] w' := by
  unfold shape_inLeaf.f at H
  go_enter Tryd.func120, Tryd.ntmps120
  go_wp2_with fail
  go_ret
  rw [← some_eq H]
  exact ⟨(by first | rfl | (simp [IntKind.wrap_u32]; done)), HS.out⟩

set_option maxHeartbeats 30000000 in
set_option maxRecDepth 100000 in
theorem shape_most.calls (a396 : Int) (r : Int) (w : World)  (HGl0 : Aside0 (Gl 0 #[.int .i64 0, .int .i64 0, .int .i64 0, .int .i64 0, .int .i64 0] (fps []) w)) (HS : Aside0 (Sep (fps []) w [] w)) (H : Aside0 (shape_most.f a396 = some r)) :
    Calls Tryd.prog 145 #[.int .i64 a396] w fun e w' => e = .returned (.int .i64 r) ∧ Sep (fps []) w [] w' := by
  unfold shape_most.f at H
  go_enter Tryd.func145, Tryd.ntmps145
  go_wp2_with fail
  obtain ⟨t398, HA399, H⟩ := bind_some H
  refine (shape_inHead.calls a396 t398 _ ⟨HGl0.out.pass (l := []) HS.out⟩ ⟨Sep.start _⟩ HA399).mono ?_
  rintro e_ w400 ⟨rfl, hS⟩
  replace HS : Aside0 (Sep (fps []) w [] w400) := ⟨HS.out.call hS⟩
  clear hS
  go_wp2_with fail
  obtain ⟨t402, HA403, H⟩ := bind_some H
  refine (shape_inLeaf.calls a396 t402 _ ⟨HGl0.out.pass (l := []) HS.out⟩ ⟨Sep.start _⟩ HA403).mono ?_
  rintro e_ w404 ⟨rfl, hS⟩
  replace HS : Aside0 (Sep (fps []) w [] w404) := ⟨HS.out.call hS⟩
  clear hS
  go_wp2_with fail
  go_ret
  rw [← some_eq H]
  exact ⟨(by first | rfl | (simp [IntKind.wrap_u32]; done)), HS.out⟩

set_option maxHeartbeats 30000000 in
set_option maxRecDepth 100000 in
theorem shape_wrong.calls (k : Nat) (a385 : Int) (l386 : List Int) (A387 : Option Addr) (n388 : Nat) (r : Int) (w : World) (HR389 : Aside0 (Rd (Kd.int .i64) (fps []) w A387 l386.length l386)) (HGl0 : Aside0 (Gl 0 #[.int .i64 0, .int .i64 0, .int .i64 0, .int .i64 0, .int .i64 0] (fps []) w)) (HS : Aside0 (Sep (fps []) w [] w)) (H : Aside0 (shape_wrong.f k a385 l386 = some r)) :
    Calls Tryd.prog 118 #[.int .i64 a385, .slice A387 l386.length n388] w fun e w' => e = .returned (.int .i64 r) ∧ Sep (fps []) w [] w' := by
  unfold shape_wrong.f at H
  go_enter Tryd.func118, Tryd.ntmps118
  go_wp2_with fail
  obtain ⟨t392, HA393, H⟩ := bind_some H
  refine (shape_isWidth.calls a385 t392 _ ⟨HGl0.out.pass (l := []) HS.out⟩ ⟨Sep.start _⟩ HA393).mono ?_
  rintro e_ w394 ⟨rfl, hS⟩
  replace HS : Aside0 (Sep (fps []) w [] w394) := ⟨HS.out.call hS⟩
  clear hS
  by_cases c395 : t392 = true
  · replace H := if_yes c395 H
    have c395b0 : t392 = true := c395
    have c395b1 : (!t392) = false := by rw [c395b0]; rfl
    try rw [c395b1]
    clear c395
    go_wp2_with fail
    obtain ⟨t405, HA406, H⟩ := bind_some H
    refine (shape_most.calls a385 t405 _ ⟨HGl0.out.pass (l := []) HS.out⟩ ⟨Sep.start _⟩ HA406).mono ?_
    rintro e_ w407 ⟨rfl, hS⟩
    replace HS : Aside0 (Sep (fps []) w [] w407) := ⟨HS.out.call hS⟩
    clear hS
    go_wp2_with fail
    obtain ⟨o420, AL421, H⟩ := bind_some H
    go_loopg [5, 15] k (fun kq v5 v15 wc => ∃ (x424 : Int) (x425 : Int), v5 = .int .i64 x424 ∧ v15 = .int .i64 x425 ∧ Aside0 (shape_wrong.lo0 kq l386 x424 x425 = some o420) ∧ Aside0 (Sep (fps []) w [] wc))
    case atStart => exact ⟨(t405), (0), (by first | rfl | (simp [IntKind.wrap_u32]; done)), (by first | rfl | (simp [IntKind.wrap_u32]; done)), AL421, ⟨HS.out⟩⟩
    case round =>
      clear AL421 HS
      obtain ⟨x424, x425, rfl, rfl, AL421, HS⟩ := hrel
      obtain ⟨w422, rfl⟩ : ∃ x : World, x = wr := ⟨_, rfl⟩
      cases gk with
      | zero => exact absurd AL421.out (by simp [shape_wrong.lo0])
      | succ k423 =>
        have AL0 := AL421.out
        rw [shape_wrong.lo0] at AL0
        clear AL421
        have AL421 := Aside0.mk AL0
        clear AL0
        by_cases c426 : x425 < (l386.length : Int)
        · replace AL421 := if_yes c426 AL421
          have c426b0 : decide (x425 < (l386.length : Int)) = true := decide_eq_true c426
          clear c426
          by_cases c427 : 0 ≤ x425
          · replace AL421 := if_yes c427 AL421
            have c427b0 : decide (0 ≤ x425) = true := decide_eq_true c427
            have c427p : (0 ≤ x425) = True := eq_true c427
            clear c427
            have ip428 : (x425 < (l386.length : Int)) = True := eq_true (of_decide_eq_true c426b0)
            by_cases c430 : (rd l386 x425) < 0
            · replace AL421 := if_yes c430 AL421
              have c430b0 : decide ((rd l386 x425) < 0) = true := decide_eq_true c430
              clear c430
              obtain ⟨hx429a, hx429e, hx429⟩ := Kd.at_int (Rd.read (fun _ _ _ _ h => h) HR389.out HS.out.fr) x425 (of_decide_eq_true c427b0) (of_decide_eq_true c426b0); cases hx429e
              go_wp2_with fail
              clear hx429
              have ho := some_eq AL421
              subst ho
              have H := lp_ret H
              go_ret
              rw [← some_eq H]
              exact ⟨(by first | rfl | (simp [IntKind.wrap_u32]; done)), HS.out⟩
            · replace AL421 := if_no c430 AL421
              have c430b0 : decide ((rd l386 x425) < 0) = false := decide_eq_false c430
              clear c430
              by_cases c431 : (rd l386 x425) > x424
              · replace AL421 := if_yes c431 AL421
                have c431b0 : decide (x424 < (rd l386 x425)) = true := decide_eq_true c431
                clear c431
                obtain ⟨hx429a, hx429e, hx429⟩ := Kd.at_int (Rd.read (fun _ _ _ _ h => h) HR389.out HS.out.fr) x425 (of_decide_eq_true c427b0) (of_decide_eq_true c426b0); cases hx429e
                go_wp2_with fail
                clear hx429
                have ho := some_eq AL421
                subst ho
                have H := lp_ret H
                go_ret
                rw [← some_eq H]
                exact ⟨(by first | rfl | (simp [IntKind.wrap_u32]; done)), HS.out⟩
              · replace AL421 := if_no c431 AL421
                have c431b0 : decide (x424 < (rd l386 x425)) = false := decide_eq_false c431
                clear c431
                obtain ⟨hx429a, hx429e, hx429⟩ := Kd.at_int (Rd.read (fun _ _ _ _ h => h) HR389.out HS.out.fr) x425 (of_decide_eq_true c427b0) (of_decide_eq_true c426b0); cases hx429e
                go_wp2_with fail
                clear hx429
                go_roundg k423
                case measure => exact Nat.lt_succ_self _
                case rel => exact ⟨(wrap64 (x424 - (rd l386 x425))), (wrap64 (x425 + 1)), (by first | rfl | (simp [IntKind.wrap_u32]; done)), (by first | rfl | (simp [IntKind.wrap_u32]; done)), Aside0.mk AL421.out, ⟨HS.out⟩⟩
          · replace AL421 := if_no c427 AL421
            have c427b0 : decide (0 ≤ x425) = false := decide_eq_false c427
            clear c427
            exact (none_no AL421).elim
        · replace AL421 := if_no c426 AL421
          have c426b0 : decide (x425 < (l386.length : Int)) = false := decide_eq_false c426
          clear c426
          have ho := some_eq AL421
          subst ho
          clear AL421
          have H := lp_out H
          go_wp2_with fail
          go_ret
          rw [← some_eq H]
          exact ⟨(by first | rfl | (simp [IntKind.wrap_u32]; done)), HS.out⟩
  · replace H := if_no c395 H
    have c395b0 : t392 = false := by simpa using c395
    have c395b1 : (!t392) = true := by rw [c395b0]; rfl
    try rw [c395b1]
    clear c395
    go_wp2_with fail
    go_ret
    rw [← some_eq H]
    exact ⟨(by first | rfl | (simp [IntKind.wrap_u32]; done)), HS.out⟩

set_option maxHeartbeats 30000000 in
set_option maxRecDepth 100000 in
theorem ratio_Clamp.calls (a450 : Int) (a451 : Int) (a452 : Int) (r : Int) (w : World)  (HGl0 : Aside0 (Gl 0 #[.int .i64 0, .int .i64 0, .int .i64 0, .int .i64 0, .int .i64 0] (fps []) w)) (HS : Aside0 (Sep (fps []) w [] w)) (H : Aside0 (ratio_Clamp.f a450 a451 a452 = some r)) :
    Calls Tryd.prog 157 #[.int .i64 a450, .int .i64 a451, .int .i64 a452] w fun e w' => e = .returned (.int .i64 r) ∧ Sep (fps []) w [] w' := by
  unfold ratio_Clamp.f at H
  go_enter Tryd.func157, Tryd.ntmps157
  by_cases c453 : a450 > a452
  · replace H := if_yes c453 H
    have c453b0 : decide (a452 < a450) = true := decide_eq_true c453
    clear c453
    go_wp2_with fail
    go_ret
    rw [← some_eq H]
    exact ⟨(by first | rfl | (simp [IntKind.wrap_u32]; done)), HS.out⟩
  · replace H := if_no c453 H
    have c453b0 : decide (a452 < a450) = false := decide_eq_false c453
    clear c453
    by_cases c454 : a450 < a451
    · replace H := if_yes c454 H
      have c454b0 : decide (a450 < a451) = true := decide_eq_true c454
      skip
      go_wp2_with fail
      clear c454
      go_ret
      rw [← some_eq H]
      exact ⟨(by first | rfl | (simp [IntKind.wrap_u32]; done)), HS.out⟩
    · replace H := if_no c454 H
      have c454b0 : decide (a450 < a451) = false := decide_eq_false c454
      skip
      go_wp2_with fail
      clear c454
      go_ret
      rw [← some_eq H]
      exact ⟨(by first | rfl | (simp [IntKind.wrap_u32]; done)), HS.out⟩

set_option maxHeartbeats 30000000 in
set_option maxRecDepth 100000 in
theorem ratio_counts.calls (a449 : Int) (r : Int) (w : World)  (HGl0 : Aside0 (Gl 0 #[.int .i64 0, .int .i64 0, .int .i64 0, .int .i64 0, .int .i64 0] (fps []) w)) (HS : Aside0 (Sep (fps []) w [] w)) (H : Aside0 (ratio_counts.f a449 = some r)) :
    Calls Tryd.prog 148 #[.int .i64 a449] w fun e w' => e = .returned (.int .i64 r) ∧ Sep (fps []) w [] w' := by
  unfold ratio_counts.f at H
  go_enter Tryd.func148, Tryd.ntmps148
  go_wp2_with fail
  obtain ⟨t455, HA456, H⟩ := bind_some H
  refine (ratio_Clamp.calls a449 0 1125899906842624 t455 _ ⟨HGl0.out.pass (l := []) HS.out⟩ ⟨Sep.start _⟩ HA456).mono ?_
  rintro e_ w457 ⟨rfl, hS⟩
  replace HS : Aside0 (Sep (fps []) w [] w457) := ⟨HS.out.call hS⟩
  clear hS
  go_wp2_with fail
  go_ret
  rw [← some_eq H]
  exact ⟨(by first | rfl | (simp [IntKind.wrap_u32]; done)), HS.out⟩

set_option maxHeartbeats 30000000 in
set_option maxRecDepth 100000 in
theorem ratio_by.calls (a461 : Int) (r : Int) (w : World)  (HGl0 : Aside0 (Gl 0 #[.int .i64 0, .int .i64 0, .int .i64 0, .int .i64 0, .int .i64 0] (fps []) w)) (HS : Aside0 (Sep (fps []) w [] w)) (H : Aside0 (ratio_by.f a461 = some r)) :
    Calls Tryd.prog 151 #[.int .i64 a461] w fun e w' => e = .returned (.int .i64 r) ∧ Sep (fps []) w [] w' := by
  unfold ratio_by.f at H
  go_enter Tryd.func151, Tryd.ntmps151
  go_wp2_with fail
  obtain ⟨t462, HA463, H⟩ := bind_some H
  refine (ratio_counts.calls a461 t462 _ ⟨HGl0.out.pass (l := []) HS.out⟩ ⟨Sep.start _⟩ HA463).mono ?_
  rintro e_ w464 ⟨rfl, hS⟩
  replace HS : Aside0 (Sep (fps []) w [] w464) := ⟨HS.out.call hS⟩
  clear hS
  by_cases c465 : t462 < 1
  · replace H := if_yes c465 H
    have c465b0 : decide (t462 < 1) = true := decide_eq_true c465
    skip
    go_wp2_with fail
    clear c465
    go_ret
    rw [← some_eq H]
    exact ⟨(by first | rfl | (simp [IntKind.wrap_u32]; done)), HS.out⟩
  · replace H := if_no c465 H
    have c465b0 : decide (t462 < 1) = false := decide_eq_false c465
    skip
    go_wp2_with fail
    clear c465
    go_ret
    rw [← some_eq H]
    exact ⟨(by first | rfl | (simp [IntKind.wrap_u32]; done)), HS.out⟩

set_option maxHeartbeats 30000000 in
set_option maxRecDepth 100000 in
theorem ratio_Up.calls (a447 : Int) (a448 : Int) (r : Int) (w : World)  (HGl0 : Aside0 (Gl 0 #[.int .i64 0, .int .i64 0, .int .i64 0, .int .i64 0, .int .i64 0] (fps []) w)) (HS : Aside0 (Sep (fps []) w [] w)) (H : Aside0 (ratio_Up.f a447 a448 = some r)) :
    Calls Tryd.prog 124 #[.int .i64 a447, .int .i64 a448] w fun e w' => e = .returned (.int .i64 r) ∧ Sep (fps []) w [] w' := by
  unfold ratio_Up.f at H
  go_enter Tryd.func124, Tryd.ntmps124
  go_wp2_with fail
  obtain ⟨t458, HA459, H⟩ := bind_some H
  refine (ratio_counts.calls a447 t458 _ ⟨HGl0.out.pass (l := []) HS.out⟩ ⟨Sep.start _⟩ HA459).mono ?_
  rintro e_ w460 ⟨rfl, hS⟩
  replace HS : Aside0 (Sep (fps []) w [] w460) := ⟨HS.out.call hS⟩
  clear hS
  go_wp2_with fail
  obtain ⟨t466, HA467, H⟩ := bind_some H
  refine (ratio_by.calls a448 t466 _ ⟨HGl0.out.pass (l := []) HS.out⟩ ⟨Sep.start _⟩ HA467).mono ?_
  rintro e_ w468 ⟨rfl, hS⟩
  replace HS : Aside0 (Sep (fps []) w [] w468) := ⟨HS.out.call hS⟩
  clear hS
  go_wp2_with fail
  obtain ⟨t469, HA470, H⟩ := bind_some H
  refine (ratio_by.calls a448 t469 _ ⟨HGl0.out.pass (l := []) HS.out⟩ ⟨Sep.start _⟩ HA470).mono ?_
  rintro e_ w471 ⟨rfl, hS⟩
  replace HS : Aside0 (Sep (fps []) w [] w471) := ⟨HS.out.call hS⟩
  clear hS
  by_cases c472 : t469 = 0
  · replace H := if_yes c472 H
    have c472b0 : (t469 == 0) = true := beq_iff_eq.mpr c472
    have c472b1 : (t469 != 0) = false := bne_eq_false_iff_eq.mpr c472
    exact (none_no H).elim
  · replace H := if_no c472 H
    have c472b0 : (t469 == 0) = false := beq_eq_false_iff_ne.mpr c472
    have c472b1 : (t469 != 0) = true := bne_iff_ne.mpr c472
    skip
    go_wp2_with fail
    clear c472
    go_ret
    rw [← some_eq H]
    exact ⟨(by first | rfl | (simp [IntKind.wrap_u32]; done)), HS.out⟩

set_option maxHeartbeats 30000000 in
set_option maxRecDepth 100000 in
theorem shape_leaves.calls (a438 : Int) (a439 : Int) (r : Int) (w : World)  (HGl0 : Aside0 (Gl 0 #[.int .i64 0, .int .i64 0, .int .i64 0, .int .i64 0, .int .i64 0] (fps []) w)) (HS : Aside0 (Sep (fps []) w [] w)) (H : Aside0 (shape_leaves.f a438 a439 = some r)) :
    Calls Tryd.prog 119 #[.int .i64 a438, .int .i64 a439] w fun e w' => e = .returned (.int .i64 r) ∧ Sep (fps []) w [] w' := by
  unfold shape_leaves.f at H
  go_enter Tryd.func119, Tryd.ntmps119
  go_wp2_with fail
  obtain ⟨t440, HA441, H⟩ := bind_some H
  refine (shape_inHead.calls a438 t440 _ ⟨HGl0.out.pass (l := []) HS.out⟩ ⟨Sep.start _⟩ HA441).mono ?_
  rintro e_ w442 ⟨rfl, hS⟩
  replace HS : Aside0 (Sep (fps []) w [] w442) := ⟨HS.out.call hS⟩
  clear hS
  by_cases c443 : a439 ≤ t440
  · replace H := if_yes c443 H
    have c443b0 : decide (a439 ≤ t440) = true := decide_eq_true c443
    clear c443
    go_wp2_with fail
    go_ret
    rw [← some_eq H]
    exact ⟨(by first | rfl | (simp [IntKind.wrap_u32]; done)), HS.out⟩
  · replace H := if_no c443 H
    have c443b0 : decide (a439 ≤ t440) = false := decide_eq_false c443
    clear c443
    go_wp2_with fail
    obtain ⟨t444, HA445, H⟩ := bind_some H
    refine (shape_inLeaf.calls a438 t444 _ ⟨HGl0.out.pass (l := []) HS.out⟩ ⟨Sep.start _⟩ HA445).mono ?_
    rintro e_ w446 ⟨rfl, hS⟩
    replace HS : Aside0 (Sep (fps []) w [] w446) := ⟨HS.out.call hS⟩
    clear hS
    go_wp2_with fail
    obtain ⟨t473, HA474, H⟩ := bind_some H
    refine (ratio_Up.calls a439 t444 t473 _ ⟨HGl0.out.pass (l := []) HS.out⟩ ⟨Sep.start _⟩ HA474).mono ?_
    rintro e_ w475 ⟨rfl, hS⟩
    replace HS : Aside0 (Sep (fps []) w [] w475) := ⟨HS.out.call hS⟩
    clear hS
    go_wp2_with fail
    go_ret
    rw [← some_eq H]
    exact ⟨(by first | rfl | (simp [IntKind.wrap_u32]; done)), HS.out⟩

set_option maxHeartbeats 30000000 in
set_option maxRecDepth 100000 in
theorem shape_Full.calls (k : Nat) (a379 : Int) (a380 : Int) (a381 : Int) (r : Int) (w : World)  (HGl0 : Aside0 (Gl 0 #[.int .i64 0, .int .i64 0, .int .i64 0, .int .i64 0, .int .i64 0] (fps []) w)) (HS : Aside0 (Sep (fps []) w [] w)) (H : Aside0 (shape_Full.f k a379 a380 a381 = some r)) :
    Calls Tryd.prog 64 #[.int .i64 a379, .int .i64 a380, .int .i64 a381] w fun e w' => e = .returned (.int .i64 r) ∧ Sep (fps []) w [] w' := by
  unfold shape_Full.f at H
  go_enter Tryd.func64, Tryd.ntmps64
  go_wp2_with (first | ((with_reducible refine gate_dst (N := 10) rfl ?_); refine slice_on (n := 1) ?hg (N := 10) ?hd (cs := #[.int .i64 a380]) (t := 3) ?hr ?_; (case hd => rfl); (case hg => rfl); (case hr => first | (go_simp; done) | (go_simp; rfl)); intro g382 hg w383 hbox hb; replace HS : Aside0 (Sep (fps []) w [b7 g382 a380] w383) := ⟨HS.out.box hg hbox hb⟩; clear hg hbox hb))
  obtain ⟨t433, HA434, H⟩ := bind_some H
  refine (shape_wrong.calls _ a379 [a380] (some ⟨g382, 0, none⟩) 1 t433 _ ⟨Rd.lit (l := []) (xs := [a380]) HS.out 0 rfl (by simp)⟩ ⟨HGl0.out.pass (l := []) HS.out⟩ ⟨Sep.start _⟩ HA434).mono ?_
  rintro e_ w435 ⟨rfl, hS⟩
  replace HS : Aside0 (Sep (fps []) w [b7 g382 a380] w435) := ⟨HS.out.call hS⟩
  clear hS
  by_cases c436 : t433 = 0
  · replace H := if_yes c436 H
    have c436b0 : (t433 == 0) = true := beq_iff_eq.mpr c436
    have c436b1 : (t433 != 0) = false := bne_eq_false_iff_eq.mpr c436
    clear c436
    by_cases c437 : a381 < (-1)
    · replace H := if_yes c437 H
      have c437b0 : decide (a381 < (-1)) = true := decide_eq_true c437
      clear c437
      replace HS : Aside0 (Sep (fps []) w [] w435) := ⟨HS.out.sub (.cons _ .slnil)⟩
      go_wp2_with fail
      go_ret
      rw [← some_eq H]
      exact ⟨(by first | rfl | (simp [IntKind.wrap_u32]; done)), HS.out⟩
    · replace H := if_no c437 H
      have c437b0 : decide (a381 < (-1)) = false := decide_eq_false c437
      clear c437
      replace HS : Aside0 (Sep (fps []) w [] w435) := ⟨HS.out.sub (.cons _ .slnil)⟩
      go_wp2_with fail
      obtain ⟨t476, HA477, H⟩ := bind_some H
      refine (shape_leaves.calls a379 a380 t476 _ ⟨HGl0.out.pass (l := []) HS.out⟩ ⟨Sep.start _⟩ HA477).mono ?_
      rintro e_ w478 ⟨rfl, hS⟩
      replace HS : Aside0 (Sep (fps []) w [] w478) := ⟨HS.out.call hS⟩
      clear hS
      by_cases c479 : a381 = (-1)
      · replace H := if_yes c479 H
        have c479b0 : (a381 == (-1)) = true := beq_iff_eq.mpr c479
        have c479b1 : (a381 != (-1)) = false := bne_eq_false_iff_eq.mpr c479
        clear c479
        by_cases c480 : t476 = 0
        · replace H := if_yes c480 H
          have c480b0 : (t476 == 0) = true := beq_iff_eq.mpr c480
          have c480b1 : (t476 != 0) = false := bne_eq_false_iff_eq.mpr c480
          clear c480
          go_wp2_with fail
          go_ret
          rw [← some_eq H]
          exact ⟨(by first | rfl | (simp [IntKind.wrap_u32]; done)), HS.out⟩
        · replace H := if_no c480 H
          have c480b0 : (t476 == 0) = false := beq_eq_false_iff_ne.mpr c480
          have c480b1 : (t476 != 0) = true := bne_iff_ne.mpr c480
          clear c480
          go_wp2_with fail
          go_ret
          rw [← some_eq H]
          exact ⟨(by first | rfl | (simp [IntKind.wrap_u32]; done)), HS.out⟩
      · replace H := if_no c479 H
        have c479b0 : (a381 == (-1)) = false := beq_eq_false_iff_ne.mpr c479
        have c479b1 : (a381 != (-1)) = true := bne_iff_ne.mpr c479
        clear c479
        by_cases c481 : a381 ≥ t476
        · replace H := if_yes c481 H
          have c481b0 : decide (t476 ≤ a381) = true := decide_eq_true c481
          clear c481
          go_wp2_with fail
          go_ret
          rw [← some_eq H]
          exact ⟨(by first | rfl | (simp [IntKind.wrap_u32]; done)), HS.out⟩
        · replace H := if_no c481 H
          have c481b0 : decide (t476 ≤ a381) = false := decide_eq_false c481
          clear c481
          go_wp2_with fail
          obtain ⟨t482, HA483, H⟩ := bind_some H
          refine (shape_inLeaf.calls a379 t482 _ ⟨HGl0.out.pass (l := []) HS.out⟩ ⟨Sep.start _⟩ HA483).mono ?_
          rintro e_ w484 ⟨rfl, hS⟩
          replace HS : Aside0 (Sep (fps []) w [] w484) := ⟨HS.out.call hS⟩
          clear hS
          go_wp2_with fail
          obtain ⟨t485, HA486, H⟩ := bind_some H
          refine (shape_inLeaf.calls a379 t485 _ ⟨HGl0.out.pass (l := []) HS.out⟩ ⟨Sep.start _⟩ HA486).mono ?_
          rintro e_ w487 ⟨rfl, hS⟩
          replace HS : Aside0 (Sep (fps []) w [] w487) := ⟨HS.out.call hS⟩
          clear hS
          by_cases c488 : (wrap64 (a380 - (wrap64 (a381 * t485)))) < t482
          · replace H := if_yes c488 H
            have c488b0 : decide ((wrap64 (a380 - (wrap64 (a381 * t485)))) < t482) = true := decide_eq_true c488
            skip
            go_wp2_with fail
            clear c488
            go_ret
            rw [← some_eq H]
            exact ⟨(by first | rfl | (simp [IntKind.wrap_u32]; done)), HS.out⟩
          · replace H := if_no c488 H
            have c488b0 : decide ((wrap64 (a380 - (wrap64 (a381 * t485)))) < t482) = false := decide_eq_false c488
            skip
            go_wp2_with fail
            clear c488
            go_ret
            rw [← some_eq H]
            exact ⟨(by first | rfl | (simp [IntKind.wrap_u32]; done)), HS.out⟩
  · replace H := if_no c436 H
    have c436b0 : (t433 == 0) = false := beq_eq_false_iff_ne.mpr c436
    have c436b1 : (t433 != 0) = true := bne_iff_ne.mpr c436
    clear c436
    replace HS : Aside0 (Sep (fps []) w [] w435) := ⟨HS.out.sub (.cons _ .slnil)⟩
    go_wp2_with fail
    go_ret
    rw [← some_eq H]
    exact ⟨(by first | rfl | (simp [IntKind.wrap_u32]; done)), HS.out⟩

set_option maxHeartbeats 30000000 in
set_option maxRecDepth 100000 in
theorem quitrenttop_awakeShape.calls (k : Nat)  (r : Bool) (w : World)  (HGl0 : Aside0 (Gl 0 #[.int .i64 0, .int .i64 0, .int .i64 0, .int .i64 0, .int .i64 0] (fps []) w)) (HS : Aside0 (Sep (fps []) w [] w)) (H : Aside0 (quitrenttop_awakeShape.f k = some r)) :
    Calls Tryd.prog 14 #[] w fun e w' => e = .returned (.bool r) ∧ Sep (fps []) w [] w' := by
  unfold quitrenttop_awakeShape.f at H
  go_enter Tryd.func14, Tryd.ntmps14
  go_wp2_with fail
  obtain ⟨t346, HA347, H⟩ := bind_some H
  refine (tag_Pack.calls _ 2 0 0 0 1 0 0 t346 _ ⟨HGl0.out.pass (l := []) HS.out⟩ ⟨Sep.start _⟩ HA347).mono ?_
  rintro e_ w348 ⟨rfl, hS⟩
  replace HS : Aside0 (Sep (fps []) w [] w348) := ⟨HS.out.call hS⟩
  clear hS
  by_cases c349 : t346.2 = 0
  · replace H := if_yes c349 H
    have c349b0 : (t346.2 == 0) = true := beq_iff_eq.mpr c349
    have c349b1 : (t346.2 != 0) = false := bne_eq_false_iff_eq.mpr c349
    clear c349
    go_wp2_with fail
    obtain ⟨t361, HA362, H⟩ := bind_some H
    refine (pack_Get.calls t346.1 0 2 t361 _ ⟨HGl0.out.pass (l := []) HS.out⟩ ⟨Sep.start _⟩ HA362).mono ?_
    rintro e_ w363 ⟨rfl, hS⟩
    replace HS : Aside0 (Sep (fps []) w [] w363) := ⟨HS.out.call hS⟩
    clear hS
    by_cases c364 : t361 = 2
    · replace H := if_yes c364 H
      have c364b0 : (t361 == 2) = true := beq_iff_eq.mpr c364
      have c364b1 : (t361 != 2) = false := bne_eq_false_iff_eq.mpr c364
      clear c364
      go_wp2_with fail
      obtain ⟨t375, HA376, H⟩ := bind_some H
      refine (pack_Ones.calls _ t346.1 t375 _ ⟨HGl0.out.pass (l := []) HS.out⟩ ⟨Sep.start _⟩ HA376).mono ?_
      rintro e_ w377 ⟨rfl, hS⟩
      replace HS : Aside0 (Sep (fps []) w [] w377) := ⟨HS.out.call hS⟩
      clear hS
      by_cases c378 : t375 = 2
      · replace H := if_yes c378 H
        have c378b0 : (t375 == 2) = true := beq_iff_eq.mpr c378
        have c378b1 : (t375 != 2) = false := bne_eq_false_iff_eq.mpr c378
        clear c378
        go_wp2_with fail
        obtain ⟨t489, HA490, H⟩ := bind_some H
        refine (shape_Full.calls _ 16 9 0 t489 _ ⟨HGl0.out.pass (l := []) HS.out⟩ ⟨Sep.start _⟩ HA490).mono ?_
        rintro e_ w491 ⟨rfl, hS⟩
        replace HS : Aside0 (Sep (fps []) w [] w491) := ⟨HS.out.call hS⟩
        clear hS
        go_wp2_with fail
        go_ret
        rw [← some_eq H]
        exact ⟨(by first | rfl | (simp [IntKind.wrap_u32]; done)), HS.out⟩
      · replace H := if_no c378 H
        have c378b0 : (t375 == 2) = false := beq_eq_false_iff_ne.mpr c378
        have c378b1 : (t375 != 2) = true := bne_iff_ne.mpr c378
        clear c378
        go_wp2_with fail
        go_ret
        rw [← some_eq H]
        exact ⟨(by first | rfl | (simp [IntKind.wrap_u32]; done)), HS.out⟩
    · replace H := if_no c364 H
      have c364b0 : (t361 == 2) = false := beq_eq_false_iff_ne.mpr c364
      have c364b1 : (t361 != 2) = true := bne_iff_ne.mpr c364
      clear c364
      go_wp2_with fail
      go_ret
      rw [← some_eq H]
      exact ⟨(by first | rfl | (simp [IntKind.wrap_u32]; done)), HS.out⟩
  · replace H := if_no c349 H
    have c349b0 : (t346.2 == 0) = false := beq_eq_false_iff_ne.mpr c349
    have c349b1 : (t346.2 != 0) = true := bne_iff_ne.mpr c349
    clear c349
    go_wp2_with fail
    go_ret
    rw [← some_eq H]
    exact ⟨(by first | rfl | (simp [IntKind.wrap_u32]; done)), HS.out⟩

set_option maxHeartbeats 30000000 in
set_option maxRecDepth 100000 in
theorem plan_within.calls (a539 : Int) (a540 : Int) (a541 : Int) (r : Bool) (w : World)  (HGl0 : Aside0 (Gl 0 #[.int .i64 0, .int .i64 0, .int .i64 0, .int .i64 0, .int .i64 0] (fps []) w)) (HS : Aside0 (Sep (fps []) w [] w)) (H : Aside0 (plan_within.f a539 a540 a541 = some r)) :
    Calls Tryd.prog 147 #[.int .i64 a539, .int .i64 a540, .int .i64 a541] w fun e w' => e = .returned (.bool r) ∧ Sep (fps []) w [] w' := by
  unfold plan_within.f at H
  go_enter Tryd.func147, Tryd.ntmps147
  go_wp2_with fail
  obtain ⟨t542, HA543, H⟩ := bind_some H
  refine (ratio_Clamp.calls a539 a540 a541 t542 _ ⟨HGl0.out.pass (l := []) HS.out⟩ ⟨Sep.start _⟩ HA543).mono ?_
  rintro e_ w544 ⟨rfl, hS⟩
  replace HS : Aside0 (Sep (fps []) w [] w544) := ⟨HS.out.call hS⟩
  clear hS
  go_wp2_with fail
  go_ret
  rw [← some_eq H]
  exact ⟨(by first | rfl | (simp [IntKind.wrap_u32]; done)), HS.out⟩

set_option maxHeartbeats 30000000 in
set_option maxRecDepth 100000 in
theorem plan_Check.calls (a531 : Int) (a532 : Int) (a533 : Int) (a534 : Int) (r : Int) (w : World)  (HGl0 : Aside0 (Gl 0 #[.int .i64 0, .int .i64 0, .int .i64 0, .int .i64 0, .int .i64 0] (fps []) w)) (HS : Aside0 (Sep (fps []) w [] w)) (H : Aside0 (plan_Check.f a531 a532 a533 a534 = some r)) :
    Calls Tryd.prog 121 #[.agg #[.int .i64 a531, .int .i64 a532, .int .i64 a533, .int .i64 a534]] w fun e w' => e = .returned (.int .i64 r) ∧ Sep (fps []) w [] w' := by
  unfold plan_Check.f at H
  go_enter Tryd.func121, Tryd.ntmps121
  go_wp2_with (first | ((with_reducible refine gate_dst (N := 1) rfl ?_); refine box_on ?hg (N := 1) ?hd (cs := #[.int .i64 a531, .int .i64 a532, .int .i64 a533, .int .i64 a534]) (t := 30) ?hr ?_; (case hd => rfl); (case hg => rfl); (case hr => first | (go_simp; done) | (go_simp; rfl)); intro g535 hg w536 hbox hb; replace HS : Aside0 (Sep (fps []) w [b8 g535 a531 a532 a533 a534] w536) := ⟨HS.out.box hg hbox hb⟩; clear hg hbox hb; have hc538 : w536.cell? ⟨g535, 0, none⟩ = some (.int .i64 a531) := blk_cellv (HS.out.at0) 0 rfl))
  clear hc538
  obtain ⟨t545, HA546, H⟩ := bind_some H
  refine (plan_within.calls a531 1 1048576 t545 _ ⟨HGl0.out.pass (l := []) HS.out⟩ ⟨Sep.start _⟩ HA546).mono ?_
  rintro e_ w547 ⟨rfl, hS⟩
  replace HS : Aside0 (Sep (fps []) w [b8 g535 a531 a532 a533 a534] w547) := ⟨HS.out.call hS⟩
  clear hS
  by_cases c548 : t545 = true
  · replace H := if_yes c548 H
    have c548b0 : t545 = true := c548
    have c548b1 : (!t545) = false := by rw [c548b0]; rfl
    clear c548
    have hc549 : w547.cell? ⟨g535, 1, none⟩ = some (.int .i64 a532) := blk_cellv (HS.out.at0) 1 rfl
    go_wp2_with fail
    clear hc549
    obtain ⟨t550, HA551, H⟩ := bind_some H
    refine (plan_within.calls a532 16 256 t550 _ ⟨HGl0.out.pass (l := []) HS.out⟩ ⟨Sep.start _⟩ HA551).mono ?_
    rintro e_ w552 ⟨rfl, hS⟩
    replace HS : Aside0 (Sep (fps []) w [b8 g535 a531 a532 a533 a534] w552) := ⟨HS.out.call hS⟩
    clear hS
    by_cases c553 : t550 = true
    · replace H := if_yes c553 H
      have c553b0 : t550 = true := c553
      have c553b1 : (!t550) = false := by rw [c553b0]; rfl
      clear c553
      have hc554 : w552.cell? ⟨g535, 2, none⟩ = some (.int .i64 a533) := blk_cellv (HS.out.at0) 2 rfl
      go_wp2_with fail
      clear hc554
      obtain ⟨t555, HA556, H⟩ := bind_some H
      refine (plan_within.calls a533 1 4096 t555 _ ⟨HGl0.out.pass (l := []) HS.out⟩ ⟨Sep.start _⟩ HA556).mono ?_
      rintro e_ w557 ⟨rfl, hS⟩
      replace HS : Aside0 (Sep (fps []) w [b8 g535 a531 a532 a533 a534] w557) := ⟨HS.out.call hS⟩
      clear hS
      by_cases c558 : t555 = true
      · replace H := if_yes c558 H
        have c558b0 : t555 = true := c558
        have c558b1 : (!t555) = false := by rw [c558b0]; rfl
        clear c558
        have hc559 : w557.cell? ⟨g535, 3, none⟩ = some (.int .i64 a534) := blk_cellv (HS.out.at0) 3 rfl
        go_wp2_with fail
        clear hc559
        obtain ⟨t560, HA561, H⟩ := bind_some H
        refine (plan_within.calls a534 1 65536 t560 _ ⟨HGl0.out.pass (l := []) HS.out⟩ ⟨Sep.start _⟩ HA561).mono ?_
        rintro e_ w562 ⟨rfl, hS⟩
        replace HS : Aside0 (Sep (fps []) w [b8 g535 a531 a532 a533 a534] w562) := ⟨HS.out.call hS⟩
        clear hS
        by_cases c563 : t560 = true
        · replace H := if_yes c563 H
          have c563b0 : t560 = true := c563
          have c563b1 : (!t560) = false := by rw [c563b0]; rfl
          clear c563
          by_cases c566 : (wrap64 (a531 * a532)) ≤ 4194304
          · replace H := if_yes c566 H
            have c566b0 : decide ((wrap64 (a531 * a532)) ≤ 4194304) = true := decide_eq_true c566
            clear c566
            have hc564 : w562.cell? ⟨g535, 0, none⟩ = some (.int .i64 a531) := blk_cellv (HS.out.at0) 0 rfl
            have hc565 : w562.cell? ⟨g535, 1, none⟩ = some (.int .i64 a532) := blk_cellv (HS.out.at0) 1 rfl
            replace HS : Aside0 (Sep (fps []) w [] w562) := ⟨HS.out.sub (.cons _ .slnil)⟩
            go_wp2_with fail
            clear hc564 hc565
            go_ret
            rw [← some_eq H]
            exact ⟨(by first | rfl | (simp [IntKind.wrap_u32]; done)), HS.out⟩
          · replace H := if_no c566 H
            have c566b0 : decide ((wrap64 (a531 * a532)) ≤ 4194304) = false := decide_eq_false c566
            clear c566
            have hc564 : w562.cell? ⟨g535, 0, none⟩ = some (.int .i64 a531) := blk_cellv (HS.out.at0) 0 rfl
            have hc565 : w562.cell? ⟨g535, 1, none⟩ = some (.int .i64 a532) := blk_cellv (HS.out.at0) 1 rfl
            replace HS : Aside0 (Sep (fps []) w [] w562) := ⟨HS.out.sub (.cons _ .slnil)⟩
            go_wp2_with fail
            clear hc564 hc565
            go_ret
            rw [← some_eq H]
            exact ⟨(by first | rfl | (simp [IntKind.wrap_u32]; done)), HS.out⟩
        · replace H := if_no c563 H
          have c563b0 : t560 = false := by simpa using c563
          have c563b1 : (!t560) = true := by rw [c563b0]; rfl
          clear c563
          replace HS : Aside0 (Sep (fps []) w [] w562) := ⟨HS.out.sub (.cons _ .slnil)⟩
          go_wp2_with fail
          go_ret
          rw [← some_eq H]
          exact ⟨(by first | rfl | (simp [IntKind.wrap_u32]; done)), HS.out⟩
      · replace H := if_no c558 H
        have c558b0 : t555 = false := by simpa using c558
        have c558b1 : (!t555) = true := by rw [c558b0]; rfl
        clear c558
        replace HS : Aside0 (Sep (fps []) w [] w557) := ⟨HS.out.sub (.cons _ .slnil)⟩
        go_wp2_with fail
        go_ret
        rw [← some_eq H]
        exact ⟨(by first | rfl | (simp [IntKind.wrap_u32]; done)), HS.out⟩
    · replace H := if_no c553 H
      have c553b0 : t550 = false := by simpa using c553
      have c553b1 : (!t550) = true := by rw [c553b0]; rfl
      clear c553
      replace HS : Aside0 (Sep (fps []) w [] w552) := ⟨HS.out.sub (.cons _ .slnil)⟩
      go_wp2_with fail
      go_ret
      rw [← some_eq H]
      exact ⟨(by first | rfl | (simp [IntKind.wrap_u32]; done)), HS.out⟩
  · replace H := if_no c548 H
    have c548b0 : t545 = false := by simpa using c548
    have c548b1 : (!t545) = true := by rw [c548b0]; rfl
    clear c548
    replace HS : Aside0 (Sep (fps []) w [] w547) := ⟨HS.out.sub (.cons _ .slnil)⟩
    go_wp2_with fail
    go_ret
    rw [← some_eq H]
    exact ⟨(by first | rfl | (simp [IntKind.wrap_u32]; done)), HS.out⟩

set_option maxHeartbeats 30000000 in
set_option maxRecDepth 100000 in
theorem ratio_zero.calls (a598 : Int) (r : Bool) (w : World)  (HGl0 : Aside0 (Gl 0 #[.int .i64 0, .int .i64 0, .int .i64 0, .int .i64 0, .int .i64 0] (fps []) w)) (HS : Aside0 (Sep (fps []) w [] w)) (H : Aside0 (ratio_zero.f a598 = some r)) :
    Calls Tryd.prog 150 #[.int .i64 a598] w fun e w' => e = .returned (.bool r) ∧ Sep (fps []) w [] w' := by
  unfold ratio_zero.f at H
  go_enter Tryd.func150, Tryd.ntmps150
  go_wp2_with fail
  obtain ⟨t599, HA600, H⟩ := bind_some H
  refine (ratio_counts.calls a598 t599 _ ⟨HGl0.out.pass (l := []) HS.out⟩ ⟨Sep.start _⟩ HA600).mono ?_
  rintro e_ w601 ⟨rfl, hS⟩
  replace HS : Aside0 (Sep (fps []) w [] w601) := ⟨HS.out.call hS⟩
  clear hS
  go_wp2_with fail
  go_ret
  rw [← some_eq H]
  exact ⟨(by first | rfl | (simp [IntKind.wrap_u32]; done)), HS.out⟩

set_option maxHeartbeats 30000000 in
set_option maxRecDepth 100000 in
theorem slices_IndexFunc_int_int_F150.calls (k : Nat) (l584 : List Int) (A585 : Option Addr) (n586 : Nat) (r : Int) (w : World) (HR587 : Aside0 (Rd (Kd.int .i64) (fps []) w A585 l584.length l584)) (HGl0 : Aside0 (Gl 0 #[.int .i64 0, .int .i64 0, .int .i64 0, .int .i64 0, .int .i64 0] (fps []) w)) (HS : Aside0 (Sep (fps []) w [] w)) (H : Aside0 (slices_IndexFunc_int_int_F150.f k l584 = some r)) :
    Calls Tryd.prog 158 #[.slice A585 l584.length n586, .func (.func 150) #[] #[]] w fun e w' => e = .returned (.int .i64 r) ∧ Sep (fps []) w [] w' := by
  unfold slices_IndexFunc_int_int_F150.f at H
  go_enter Tryd.func158, Tryd.ntmps158
  go_wp2_with fail
  obtain ⟨o606, AL607, H⟩ := bind_some H
  go_loopg [8] k (fun kq v8 wc => ∃ (x610 : Int), v8 = .int .i64 x610 ∧ Aside0 (slices_IndexFunc_int_int_F150.lo0 kq l584 x610 = some o606) ∧ Aside0 (Sep (fps []) w [] wc))
  case atStart => exact ⟨(0), (by first | rfl | (simp [IntKind.wrap_u32]; done)), AL607, ⟨HS.out⟩⟩
  case round =>
    clear AL607 HS
    obtain ⟨x610, rfl, AL607, HS⟩ := hrel
    obtain ⟨w608, rfl⟩ : ∃ x : World, x = wr := ⟨_, rfl⟩
    cases gk with
    | zero => exact absurd AL607.out (by simp [slices_IndexFunc_int_int_F150.lo0])
    | succ k609 =>
      have AL0 := AL607.out
      rw [slices_IndexFunc_int_int_F150.lo0] at AL0
      clear AL607
      have AL607 := Aside0.mk AL0
      clear AL0
      by_cases c611 : x610 < (l584.length : Int)
      · replace AL607 := if_yes c611 AL607
        have c611b0 : decide (x610 < (l584.length : Int)) = true := decide_eq_true c611
        clear c611
        by_cases c612 : 0 ≤ x610
        · replace AL607 := if_yes c612 AL607
          have c612b0 : decide (0 ≤ x610) = true := decide_eq_true c612
          have c612p : (0 ≤ x610) = True := eq_true c612
          clear c612
          have ip613 : (x610 < (l584.length : Int)) = True := eq_true (of_decide_eq_true c611b0)
          obtain ⟨hx614a, hx614e, hx614⟩ := Kd.at_int (Rd.read (fun _ _ _ _ h => h) HR587.out HS.out.fr) x610 (of_decide_eq_true c612b0) (of_decide_eq_true c611b0); cases hx614e
          go_wp2_with fail
          clear hx614
          obtain ⟨t602, HA615, AL607⟩ := bind_some AL607
          refine (ratio_zero.calls (rd l584 x610) t602 _ ⟨HGl0.out.pass (l := []) HS.out⟩ ⟨Sep.start _⟩ HA615).mono ?_
          rintro e_ w616 ⟨rfl, hS⟩
          replace HS : Aside0 (Sep (fps []) w [] w616) := ⟨HS.out.call hS⟩
          clear hS
          by_cases c617 : t602 = true
          · replace AL607 := if_yes c617 AL607
            have c617b0 : t602 = true := c617
            have c617b1 : (!t602) = false := by rw [c617b0]; rfl
            clear c617
            go_wp2_with fail
            have ho := some_eq AL607
            subst ho
            have H := lp_ret H
            go_ret
            rw [← some_eq H]
            exact ⟨(by first | rfl | (simp [IntKind.wrap_u32]; done)), HS.out⟩
          · replace AL607 := if_no c617 AL607
            have c617b0 : t602 = false := by simpa using c617
            have c617b1 : (!t602) = true := by rw [c617b0]; rfl
            clear c617
            go_wp2_with fail
            go_roundg k609
            case measure => exact Nat.lt_succ_self _
            case rel => exact ⟨(wrap64 (x610 + 1)), (by first | rfl | (simp [IntKind.wrap_u32]; done)), Aside0.mk AL607.out, ⟨HS.out⟩⟩
        · replace AL607 := if_no c612 AL607
          have c612b0 : decide (0 ≤ x610) = false := decide_eq_false c612
          clear c612
          exact (none_no AL607).elim
      · replace AL607 := if_no c611 AL607
        have c611b0 : decide (x610 < (l584.length : Int)) = false := decide_eq_false c611
        clear c611
        have ho := some_eq AL607
        subst ho
        clear AL607
        have H := lp_out H
        go_wp2_with fail
        go_ret
        rw [← some_eq H]
        exact ⟨(by first | rfl | (simp [IntKind.wrap_u32]; done)), HS.out⟩

set_option maxHeartbeats 30000000 in
set_option maxRecDepth 100000 in
theorem slices_ContainsFunc_int_int_F150.calls (k : Nat) (l580 : List Int) (A581 : Option Addr) (n582 : Nat) (r : Bool) (w : World) (HR583 : Aside0 (Rd (Kd.int .i64) (fps []) w A581 l580.length l580)) (HGl0 : Aside0 (Gl 0 #[.int .i64 0, .int .i64 0, .int .i64 0, .int .i64 0, .int .i64 0] (fps []) w)) (HS : Aside0 (Sep (fps []) w [] w)) (H : Aside0 (slices_ContainsFunc_int_int_F150.f k l580 = some r)) :
    Calls Tryd.prog 149 #[.slice A581 l580.length n582, .func (.func 150) #[] #[]] w fun e w' => e = .returned (.bool r) ∧ Sep (fps []) w [] w' := by
  unfold slices_ContainsFunc_int_int_F150.f at H
  go_enter Tryd.func149, Tryd.ntmps149
  go_wp2_with fail
  obtain ⟨t619, HA620, H⟩ := bind_some H
  refine (slices_IndexFunc_int_int_F150.calls _ l580 A581 n582 t619 _ ⟨Rd.pass (l := []) (by decide) (fun _ _ _ _ h => h) HR583.out HS.out⟩ ⟨HGl0.out.pass (l := []) HS.out⟩ ⟨Sep.start _⟩ HA620).mono ?_
  rintro e_ w621 ⟨rfl, hS⟩
  replace HS : Aside0 (Sep (fps []) w [] w621) := ⟨HS.out.call hS⟩
  clear hS
  go_wp2_with fail
  go_ret
  rw [← some_eq H]
  exact ⟨(by first | rfl | (simp [IntKind.wrap_u32]; done)), HS.out⟩

set_option maxHeartbeats 30000000 in
set_option maxRecDepth 100000 in
theorem ratio_Mul.calls (k : Nat) (l576 : List Int) (A577 : Option Addr) (n578 : Nat) (r : Int) (w : World) (HR579 : Aside0 (Rd (Kd.int .i64) (fps []) w A577 l576.length l576)) (HGl0 : Aside0 (Gl 0 #[.int .i64 0, .int .i64 0, .int .i64 0, .int .i64 0, .int .i64 0] (fps []) w)) (HS : Aside0 (Sep (fps []) w [] w)) (H : Aside0 (ratio_Mul.f k l576 = some r)) :
    Calls Tryd.prog 123 #[.slice A577 l576.length n578] w fun e w' => e = .returned (.int .i64 r) ∧ Sep (fps []) w [] w' := by
  unfold ratio_Mul.f at H
  go_enter Tryd.func123, Tryd.ntmps123
  go_wp2_with fail
  obtain ⟨t622, HA623, H⟩ := bind_some H
  refine (slices_ContainsFunc_int_int_F150.calls _ l576 A577 n578 t622 _ ⟨Rd.pass (l := []) (by decide) (fun _ _ _ _ h => h) HR579.out HS.out⟩ ⟨HGl0.out.pass (l := []) HS.out⟩ ⟨Sep.start _⟩ HA623).mono ?_
  rintro e_ w624 ⟨rfl, hS⟩
  replace HS : Aside0 (Sep (fps []) w [] w624) := ⟨HS.out.call hS⟩
  clear hS
  by_cases c625 : t622 = true
  · replace H := if_yes c625 H
    have c625b0 : t622 = true := c625
    have c625b1 : (!t622) = false := by rw [c625b0]; rfl
    clear c625
    go_wp2_with fail
    go_ret
    rw [← some_eq H]
    exact ⟨(by first | rfl | (simp [IntKind.wrap_u32]; done)), HS.out⟩
  · replace H := if_no c625 H
    have c625b0 : t622 = false := by simpa using c625
    have c625b1 : (!t622) = true := by rw [c625b0]; rfl
    clear c625
    go_wp2_with fail
    obtain ⟨o627, AL628, H⟩ := bind_some H
    go_loopg [3, 11] k (fun kq v3 v11 wc => ∃ (x631 : Int) (x632 : Int), v3 = .int .i64 x631 ∧ v11 = .int .i64 x632 ∧ Aside0 (ratio_Mul.lo0 kq l576 x631 x632 = some o627) ∧ Aside0 (Sep (fps []) w [] wc))
    case atStart => exact ⟨(1), (0), (by first | rfl | (simp [IntKind.wrap_u32]; done)), (by first | rfl | (simp [IntKind.wrap_u32]; done)), AL628, ⟨HS.out⟩⟩
    case round =>
      clear AL628 HS
      obtain ⟨x631, x632, rfl, rfl, AL628, HS⟩ := hrel
      obtain ⟨w629, rfl⟩ : ∃ x : World, x = wr := ⟨_, rfl⟩
      cases gk with
      | zero => exact absurd AL628.out (by simp [ratio_Mul.lo0])
      | succ k630 =>
        have AL0 := AL628.out
        rw [ratio_Mul.lo0] at AL0
        clear AL628
        have AL628 := Aside0.mk AL0
        clear AL0
        by_cases c633 : x632 < (l576.length : Int)
        · replace AL628 := if_yes c633 AL628
          have c633b0 : decide (x632 < (l576.length : Int)) = true := decide_eq_true c633
          clear c633
          by_cases c634 : 0 ≤ x632
          · replace AL628 := if_yes c634 AL628
            have c634b0 : decide (0 ≤ x632) = true := decide_eq_true c634
            have c634p : (0 ≤ x632) = True := eq_true c634
            clear c634
            have ip635 : (x632 < (l576.length : Int)) = True := eq_true (of_decide_eq_true c633b0)
            obtain ⟨hx636a, hx636e, hx636⟩ := Kd.at_int (Rd.read (fun _ _ _ _ h => h) HR579.out HS.out.fr) x632 (of_decide_eq_true c634b0) (of_decide_eq_true c633b0); cases hx636e
            go_wp2_with fail
            clear hx636
            obtain ⟨t637, HA638, AL628⟩ := bind_some AL628
            refine (ratio_counts.calls (rd l576 x632) t637 _ ⟨HGl0.out.pass (l := []) HS.out⟩ ⟨Sep.start _⟩ HA638).mono ?_
            rintro e_ w639 ⟨rfl, hS⟩
            replace HS : Aside0 (Sep (fps []) w [] w639) := ⟨HS.out.call hS⟩
            clear hS
            by_cases c640 : t637 = 0
            · replace AL628 := if_yes c640 AL628
              have c640b0 : (t637 == 0) = true := beq_iff_eq.mpr c640
              have c640b1 : (t637 != 0) = false := bne_eq_false_iff_eq.mpr c640
              exact (none_no AL628).elim
            · replace AL628 := if_no c640 AL628
              have c640b0 : (t637 == 0) = false := beq_eq_false_iff_ne.mpr c640
              have c640b1 : (t637 != 0) = true := bne_iff_ne.mpr c640
              by_cases c641 : x631 ≤ (wrap64 (Int.tdiv (1125899906842624 : Int) t637))
              · replace AL628 := if_yes c641 AL628
                have c641b0 : decide (x631 ≤ (wrap64 (Int.tdiv (1125899906842624 : Int) t637))) = true := decide_eq_true c641
                clear c641
                skip
                go_wp2_with fail
                clear c640
                go_roundg k630
                case measure => exact Nat.lt_succ_self _
                case rel => exact ⟨(wrap64 (x631 * t637)), (wrap64 (x632 + 1)), (by first | rfl | (simp [IntKind.wrap_u32]; done)), (by first | rfl | (simp [IntKind.wrap_u32]; done)), Aside0.mk AL628.out, ⟨HS.out⟩⟩
              · replace AL628 := if_no c641 AL628
                have c641b0 : decide (x631 ≤ (wrap64 (Int.tdiv (1125899906842624 : Int) t637))) = false := decide_eq_false c641
                clear c641
                skip
                go_wp2_with fail
                clear c640
                go_roundg k630
                case measure => exact Nat.lt_succ_self _
                case rel => exact ⟨(1125899906842624), (wrap64 (x632 + 1)), (by first | rfl | (simp [IntKind.wrap_u32]; done)), (by first | rfl | (simp [IntKind.wrap_u32]; done)), Aside0.mk AL628.out, ⟨HS.out⟩⟩
          · replace AL628 := if_no c634 AL628
            have c634b0 : decide (0 ≤ x632) = false := decide_eq_false c634
            clear c634
            exact (none_no AL628).elim
        · replace AL628 := if_no c633 AL628
          have c633b0 : decide (x632 < (l576.length : Int)) = false := decide_eq_false c633
          clear c633
          have ho := some_eq AL628
          subst ho
          clear AL628
          go_wp2_with fail
          go_ret
          rw [← some_eq H]
          exact ⟨(by first | rfl | (simp [IntKind.wrap_u32]; done)), HS.out⟩

set_option maxHeartbeats 30000000 in
set_option maxRecDepth 100000 in
theorem ratio_Add.calls (k : Nat) (l649 : List Int) (A650 : Option Addr) (n651 : Nat) (r : Int) (w : World) (HR652 : Aside0 (Rd (Kd.int .i64) (fps []) w A650 l649.length l649)) (HGl0 : Aside0 (Gl 0 #[.int .i64 0, .int .i64 0, .int .i64 0, .int .i64 0, .int .i64 0] (fps []) w)) (HS : Aside0 (Sep (fps []) w [] w)) (H : Aside0 (ratio_Add.f k l649 = some r)) :
    Calls Tryd.prog 122 #[.slice A650 l649.length n651] w fun e w' => e = .returned (.int .i64 r) ∧ Sep (fps []) w [] w' := by
  unfold ratio_Add.f at H
  go_enter Tryd.func122, Tryd.ntmps122
  go_wp2_with fail
  obtain ⟨o654, AL655, H⟩ := bind_some H
  go_loopg [3, 8] k (fun kq v3 v8 wc => ∃ (x658 : Int) (x659 : Int), v3 = .int .i64 x658 ∧ v8 = .int .i64 x659 ∧ Aside0 (ratio_Add.lo0 kq l649 x658 x659 = some o654) ∧ Aside0 (Sep (fps []) w [] wc))
  case atStart => exact ⟨(0), (0), (by first | rfl | (simp [IntKind.wrap_u32]; done)), (by first | rfl | (simp [IntKind.wrap_u32]; done)), AL655, ⟨HS.out⟩⟩
  case round =>
    clear AL655 HS
    obtain ⟨x658, x659, rfl, rfl, AL655, HS⟩ := hrel
    obtain ⟨w656, rfl⟩ : ∃ x : World, x = wr := ⟨_, rfl⟩
    cases gk with
    | zero => exact absurd AL655.out (by simp [ratio_Add.lo0])
    | succ k657 =>
      have AL0 := AL655.out
      rw [ratio_Add.lo0] at AL0
      clear AL655
      have AL655 := Aside0.mk AL0
      clear AL0
      by_cases c660 : x659 < (l649.length : Int)
      · replace AL655 := if_yes c660 AL655
        have c660b0 : decide (x659 < (l649.length : Int)) = true := decide_eq_true c660
        clear c660
        by_cases c661 : 0 ≤ x659
        · replace AL655 := if_yes c661 AL655
          have c661b0 : decide (0 ≤ x659) = true := decide_eq_true c661
          have c661p : (0 ≤ x659) = True := eq_true c661
          clear c661
          have ip662 : (x659 < (l649.length : Int)) = True := eq_true (of_decide_eq_true c660b0)
          obtain ⟨hx663a, hx663e, hx663⟩ := Kd.at_int (Rd.read (fun _ _ _ _ h => h) HR652.out HS.out.fr) x659 (of_decide_eq_true c661b0) (of_decide_eq_true c660b0); cases hx663e
          go_wp2_with fail
          clear hx663
          obtain ⟨t664, HA665, AL655⟩ := bind_some AL655
          refine (ratio_counts.calls (rd l649 x659) t664 _ ⟨HGl0.out.pass (l := []) HS.out⟩ ⟨Sep.start _⟩ HA665).mono ?_
          rintro e_ w666 ⟨rfl, hS⟩
          replace HS : Aside0 (Sep (fps []) w [] w666) := ⟨HS.out.call hS⟩
          clear hS
          by_cases c667 : 1125899906842624 < (wrap64 (x658 + t664))
          · replace AL655 := if_yes c667 AL655
            have c667b0 : decide (1125899906842624 < (wrap64 (x658 + t664))) = true := decide_eq_true c667
            skip
            go_wp2_with fail
            clear c667
            go_roundg k657
            case measure => exact Nat.lt_succ_self _
            case rel => exact ⟨(1125899906842624), (wrap64 (x659 + 1)), (by first | rfl | (simp [IntKind.wrap_u32]; done)), (by first | rfl | (simp [IntKind.wrap_u32]; done)), Aside0.mk AL655.out, ⟨HS.out⟩⟩
          · replace AL655 := if_no c667 AL655
            have c667b0 : decide (1125899906842624 < (wrap64 (x658 + t664))) = false := decide_eq_false c667
            skip
            go_wp2_with fail
            clear c667
            go_roundg k657
            case measure => exact Nat.lt_succ_self _
            case rel => exact ⟨(wrap64 (x658 + t664)), (wrap64 (x659 + 1)), (by first | rfl | (simp [IntKind.wrap_u32]; done)), (by first | rfl | (simp [IntKind.wrap_u32]; done)), Aside0.mk AL655.out, ⟨HS.out⟩⟩
        · replace AL655 := if_no c661 AL655
          have c661b0 : decide (0 ≤ x659) = false := decide_eq_false c661
          clear c661
          exact (none_no AL655).elim
      · replace AL655 := if_no c660 AL655
        have c660b0 : decide (x659 < (l649.length : Int)) = false := decide_eq_false c660
        clear c660
        have ho := some_eq AL655
        subst ho
        clear AL655
        go_wp2_with fail
        go_ret
        rw [← some_eq H]
        exact ⟨(by first | rfl | (simp [IntKind.wrap_u32]; done)), HS.out⟩
end Go.Proofs.YtobeonkddamnoaaDoor.C

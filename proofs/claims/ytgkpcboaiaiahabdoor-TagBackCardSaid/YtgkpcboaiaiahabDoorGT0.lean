/- Each function of the group T does what its plain function says, and changes nothing that was there; proved by walking its code. No condition. -/
import Derived.Test.YtgkpcboaiaiahabDoorQw
import Derived.Test.YtgkpcboaiaiahabDoorMT
namespace Go.Proofs.YtgkpcboaiaiahabDoor.C
open Go.RowKit Go.Proofs.YtgkpcboaiaiahabDoorW.PrintWords Go.Proofs.YtgkpcboaiaiahabDoorW.PrintLast Go.Proofs.YtgkpcboaiaiahabDoorW.PrintMore Go.Proofs.YtgkpcboaiaiahabDoor.Q Go.Proofs.YtgkpcboaiaiahabDoor.M
set_option linter.unusedVariables false
set_option linter.unusedSimpArgs false
def b1 (g : Nat) (x0 : Int) (x1 : Int) (x2 : Int) (x3 : Int) (x4 : Int) (x5 : Int) (x6 : Int) : Ob := blk g #[.int .i64 x0, .int .i64 x1, .int .i64 x2, .int .i64 x3, .int .i64 x4, .int .i64 x5, .int .i64 x6] 23
def b2 (g : Nat) (x0 : Int) (x1 : Int) (x2 : Int) (x3 : Int) (x4 : Int) : Ob := blk g #[.int .i64 x0, .int .i64 x1, .int .i64 x2, .int .i64 x3, .int .i64 x4] 51
def b3 (g : Nat) (x0 : Int) : Ob := blk g #[.int .u32 x0] 24
def r4 (A : Option Addr) (n c : Nat) (l : List Int) : Ob := row 24 (Value.int .u32) (.slice A n c) l
def b5 (g : Nat) (x0 : Int) (x1 : Int) : Ob := blk g #[.int .u32 x0, .int .u32 x1] 24
def b6 (g : Nat) (x0 : Int) (x1 : Int) (x2 : Int) (x3 : Int) (x4 : Int) (x5 : Int) (x6 : Int) (x7 : Int) : Ob := blk g #[.int .i64 x0, .int .i64 x1, .int .i64 x2, .int .i64 x3, .int .i64 x4, .int .i64 x5, .int .i64 x6, .int .i64 x7] 3

set_option maxHeartbeats 30000000 in
set_option maxRecDepth 100000 in
theorem tag_marks.calls (a52 : Int) (a53 : Int) (a54 : Int) (a55 : Int) (a56 : Int) (a57 : Int) (a58 : Int) (r : Int × Int × Int × Int × Int) (w : World)  (HGl0 : Aside0 (Gl 0 #[.int .i64 0, .int .i64 0, .int .i64 0, .int .i64 0, .int .i64 0] (fps []) w)) (HGl1 : Aside0 (Gl 1 #[.string (⟨#[102, 114, 101, 101]⟩), .string (⟨#[115, 109, 97, 108, 108]⟩), .string (⟨#[115, 112, 105, 110, 101]⟩), .string (⟨#[108, 101, 97, 102]⟩)] (fps []) w)) (HS : Aside0 (Sep (fps []) w [] w)) (H : Aside0 (tag_marks.f a52 a53 a54 a55 a56 a57 a58 = some r)) :
    Calls Tryd.prog 23 #[.agg #[.int .i64 a52, .int .i64 a53, .int .i64 a54, .int .i64 a55, .int .i64 a56, .int .i64 a57, .int .i64 a58]] w fun e w' => e = .returned (.agg #[.int .i64 r.1, .int .i64 r.2.1, .int .i64 r.2.2.1, .int .i64 r.2.2.2.1, .int .i64 r.2.2.2.2]) ∧ Sep (fps []) w [] w' := by
  unfold tag_marks.f at H
  go_enter Tryd.func23, Tryd.ntmps23
  go_wp2_with (first | ((with_reducible refine gate_dst (N := 1) rfl ?_); refine box_on ?hg (N := 1) ?hd (cs := #[.int .i64 a52, .int .i64 a53, .int .i64 a54, .int .i64 a55, .int .i64 a56, .int .i64 a57, .int .i64 a58]) (t := 23) ?hr ?_; (case hd => rfl); (case hg => rfl); (case hr => first | (go_simp; done) | (go_simp; rfl)); intro g59 hg w60 hbox hb; replace HS : Aside0 (Sep (fps []) w [b1 g59 a52 a53 a54 a55 a56 a57 a58] w60) := ⟨HS.out.box hg hbox hb⟩; clear hg hbox hb) | ((with_reducible refine gate_dst (N := 2) rfl ?_); refine box_on ?hg (N := 2) ?hd (cs := #[.int .i64 0, .int .i64 0, .int .i64 0, .int .i64 0, .int .i64 0]) (t := 51) ?hr ?_; (case hd => rfl); (case hg => rfl); (case hr => first | (go_simp; done) | (go_simp; rfl)); intro g62 hg w63 hbox hb; replace HS : Aside0 (Sep (fps []) w [b1 g59 a52 a53 a54 a55 a56 a57 a58, b2 g62 0 0 0 0 0] w63) := ⟨HS.out.box hg hbox hb⟩; clear hg hbox hb; have hc65 : w63.cell? ⟨g59, 1, none⟩ = some (.int .i64 a53) := blk_cellv (HS.out.at0) 1 rfl; have hc66 : w63.cell? ⟨g59, 2, none⟩ = some (.int .i64 a54) := blk_cellv (HS.out.at0) 2 rfl; have hc67 : w63.cell? ⟨g59, 3, none⟩ = some (.int .i64 a55) := blk_cellv (HS.out.at0) 3 rfl; have hc68 : w63.cell? ⟨g59, 4, none⟩ = some (.int .i64 a56) := blk_cellv (HS.out.at0) 4 rfl; have hc69 : w63.cell? ⟨g59, 5, none⟩ = some (.int .i64 a57) := blk_cellv (HS.out.at0) 5 rfl; have hc70 : w63.cell? ⟨g62, 0, none⟩ = some (.int .i64 0) := blk_cellv (HS.out.at1) 0 rfl; have hz71 : w63.frozen? ⟨g62, 0, none⟩ = false := blk_fz (HS.out.at1) 0; have hc72 : w63.cell? ⟨g62, 1, none⟩ = some (.int .i64 0) := blk_cellv (HS.out.at1) 1 rfl; have hz73 : w63.frozen? ⟨g62, 1, none⟩ = false := blk_fz (HS.out.at1) 1; have hc74 : w63.cell? ⟨g62, 2, none⟩ = some (.int .i64 0) := blk_cellv (HS.out.at1) 2 rfl; have hz75 : w63.frozen? ⟨g62, 2, none⟩ = false := blk_fz (HS.out.at1) 2; have hc76 : w63.cell? ⟨g62, 3, none⟩ = some (.int .i64 0) := blk_cellv (HS.out.at1) 3 rfl; have hz77 : w63.frozen? ⟨g62, 3, none⟩ = false := blk_fz (HS.out.at1) 3; have hc78 : w63.cell? ⟨g62, 4, none⟩ = some (.int .i64 0) := blk_cellv (HS.out.at1) 4 rfl; have hz79 : w63.frozen? ⟨g62, 4, none⟩ = false := blk_fz (HS.out.at1) 4) | ((with_reducible refine gate_store (t := 51) (p := 2) rfl ?_); refine store_event (w1 := (World.setCell (World.setCell (World.setCell (World.setCell (World.setCell w63 ⟨g62, 0, none⟩ (.int .i64 a53)) ⟨g62, 1, none⟩ (.int .i64 a54)) ⟨g62, 2, none⟩ (.int .i64 a55)) ⟨g62, 3, none⟩ (.int .i64 a56)) ⟨g62, 4, none⟩ (.int .i64 a57))) rfl (t := 51) (p := 2) rfl rfl ?hr ?_; (case hr => first | (go_simp; done) | (go_simp; rfl)); intro w80 hst; clear hc65 hc66 hc67 hc68 hc69 hc70 hz71 hc72 hz73 hc74 hz75 hc76 hz77 hc78 hz79; replace HS : Aside0 (Sep (fps []) w [b1 g59 a52 a53 a54 a55 a56 a57 a58, b2 g62 a53 a54 a55 a56 a57] w80) := ⟨by rw [hst]; exact HS.out.setAll (l1 := [b1 g59 a52 a53 a54 a55 a56 a57 a58]) (l2 := []) [.int .i64 a53, .int .i64 a54, .int .i64 a55, .int .i64 a56, .int .i64 a57] rfl⟩; clear hst; replace HS : Aside0 (Sep (fps []) w [b2 g62 a53 a54 a55 a56 a57] w80) := ⟨HS.out.sub (.cons _ (.cons_cons _ .slnil))⟩))
  have hc81 : w80.cell? ⟨g62, 0, none⟩ = some (.int .i64 a53) := blk_cellv (HS.out.at0) 0 rfl
  have hc82 : w80.cell? ⟨g62, 1, none⟩ = some (.int .i64 a54) := blk_cellv (HS.out.at0) 1 rfl
  have hc83 : w80.cell? ⟨g62, 2, none⟩ = some (.int .i64 a55) := blk_cellv (HS.out.at0) 2 rfl
  have hc84 : w80.cell? ⟨g62, 3, none⟩ = some (.int .i64 a56) := blk_cellv (HS.out.at0) 3 rfl
  have hc85 : w80.cell? ⟨g62, 4, none⟩ = some (.int .i64 a57) := blk_cellv (HS.out.at0) 4 rfl
  refine bodyPost_ret (v := .agg #[.int .i64 a53, .int .i64 a54, .int .i64 a55, .int .i64 a56, .int .i64 a57]) (by simp [results, Tryd.results23, go_sem, hc81, hc82, hc83, hc84, hc85]) rfl ?_
  rw [← some_eq H]
  exact ⟨(by first | rfl | (simp [IntKind.wrap_u32]; done)), (HS.out).keep (l := []) (rest := [b2 g62 a53 a54 a55 a56 a57])⟩

set_option maxHeartbeats 30000000 in
set_option maxRecDepth 100000 in
theorem tag_Right.calls (k : Nat) (a35 : Int) (a36 : Int) (a37 : Int) (a38 : Int) (a39 : Int) (a40 : Int) (a41 : Int) (r : Bool) (w : World)  (HGl0 : Aside0 (Gl 0 #[.int .i64 0, .int .i64 0, .int .i64 0, .int .i64 0, .int .i64 0] (fps []) w)) (HGl1 : Aside0 (Gl 1 #[.string (⟨#[102, 114, 101, 101]⟩), .string (⟨#[115, 109, 97, 108, 108]⟩), .string (⟨#[115, 112, 105, 110, 101]⟩), .string (⟨#[108, 101, 97, 102]⟩)] (fps []) w)) (HS : Aside0 (Sep (fps []) w [] w)) (H : Aside0 (tag_Right.f k a35 a36 a37 a38 a39 a40 a41 = some r)) :
    Calls Tryd.prog 10 #[.agg #[.int .i64 a35, .int .i64 a36, .int .i64 a37, .int .i64 a38, .int .i64 a39, .int .i64 a40, .int .i64 a41]] w fun e w' => e = .returned (.bool r) ∧ Sep (fps []) w [] w' := by
  unfold tag_Right.f at H
  go_enter Tryd.func10, Tryd.ntmps10
  go_wp2_with (first | ((with_reducible refine gate_dst (N := 1) rfl ?_); refine box_on ?hg (N := 1) ?hd (cs := #[.int .i64 a35, .int .i64 a36, .int .i64 a37, .int .i64 a38, .int .i64 a39, .int .i64 a40, .int .i64 a41]) (t := 23) ?hr ?_; (case hd => rfl); (case hg => rfl); (case hr => first | (go_simp; done) | (go_simp; rfl)); intro g42 hg w43 hbox hb; replace HS : Aside0 (Sep (fps []) w [b1 g42 a35 a36 a37 a38 a39 a40 a41] w43) := ⟨HS.out.box hg hbox hb⟩; clear hg hbox hb; have hc45 : w43.cell? ⟨g42, 0, none⟩ = some (.int .i64 a35) := blk_cellv (HS.out.at0) 0 rfl; have hc46 : w43.cell? ⟨g42, 1, none⟩ = some (.int .i64 a36) := blk_cellv (HS.out.at0) 1 rfl; have hc47 : w43.cell? ⟨g42, 2, none⟩ = some (.int .i64 a37) := blk_cellv (HS.out.at0) 2 rfl; have hc48 : w43.cell? ⟨g42, 3, none⟩ = some (.int .i64 a38) := blk_cellv (HS.out.at0) 3 rfl; have hc49 : w43.cell? ⟨g42, 4, none⟩ = some (.int .i64 a39) := blk_cellv (HS.out.at0) 4 rfl; have hc50 : w43.cell? ⟨g42, 5, none⟩ = some (.int .i64 a40) := blk_cellv (HS.out.at0) 5 rfl; have hc51 : w43.cell? ⟨g42, 6, none⟩ = some (.int .i64 a41) := blk_cellv (HS.out.at0) 6 rfl))
  clear hc45 hc46 hc47 hc48 hc49 hc50 hc51
  obtain ⟨t86, HA87, H⟩ := bind_some H
  refine (tag_marks.calls a35 a36 a37 a38 a39 a40 a41 t86 _ ⟨Gl.pass (l := []) (rest := [b1 g42 a35 a36 a37 a38 a39 a40 a41]) HGl0.out HS.out⟩ ⟨Gl.pass (l := []) (rest := [b1 g42 a35 a36 a37 a38 a39 a40 a41]) HGl1.out HS.out⟩ ⟨HS.out.begin (l := []) (rest := [b1 g42 a35 a36 a37 a38 a39 a40 a41])⟩ HA87).mono ?_
  rintro e_ w88 ⟨rfl, hS⟩
  replace HS : Aside0 (Sep (fps []) w [b1 g42 a35 a36 a37 a38 a39 a40 a41] w88) := ⟨HS.out.call (l := []) (rest := [b1 g42 a35 a36 a37 a38 a39 a40 a41]) hS⟩
  clear hS
  go_wp2_with fail
  obtain ⟨o101, AL102, H⟩ := bind_some H
  go_loopg [7] k (fun kq v7 wc => ∃ (x105 : Int), v7 = .int .i64 x105 ∧ Aside0 (tag_Right.lo0 kq t86 x105 = some o101) ∧ Aside0 (Sep (fps []) w [b1 g42 a35 a36 a37 a38 a39 a40 a41] wc))
  case atStart => exact ⟨(0), (by first | rfl | (simp [IntKind.wrap_u32]; done)), AL102, ⟨HS.out⟩⟩
  case round =>
    clear AL102 HS
    obtain ⟨x105, rfl, AL102, HS⟩ := hrel
    obtain ⟨w103, rfl⟩ : ∃ x : World, x = wr := ⟨_, rfl⟩
    cases gk with
    | zero => exact absurd AL102.out (by simp [tag_Right.lo0])
    | succ k104 =>
      have AL0 := AL102.out
      rw [tag_Right.lo0] at AL0
      clear AL102
      have AL102 := Aside0.mk AL0
      clear AL0
      by_cases c106 : x105 < 5
      · have AL102 := if_yes c106 AL102
        have c106b0 : decide (x105 < 5) = true := decide_eq_true c106
        clear c106
        by_cases c107 : 0 ≤ x105
        · have AL102 := if_yes c107 AL102
          have c107b0 : decide (0 ≤ x105) = true := decide_eq_true c107
          have c107p : (0 ≤ x105) = True := eq_true c107
          clear c107
          have ip108 : (x105 < 5) = True := eq_true (of_decide_eq_true c106b0)
          have ix109 : ∀ w, (Instr.index 51 (.agg #[.int .i64 t86.1, .int .i64 t86.2.1, .int .i64 t86.2.2.1, .int .i64 t86.2.2.2.1, .int .i64 t86.2.2.2.2]) (.int .i64 x105)).run Tryd.prog w = .ok (.int .i64 (rd [t86.1, t86.2.1, t86.2.2.1, t86.2.2.2.1, t86.2.2.2.2] x105)) w := run_index_ints 51 3 5 .i64 .i64 [t86.1, t86.2.1, t86.2.2.1, t86.2.2.2.1, t86.2.2.2.2] x105 Tryd.underlying51 (fun _ => by kernel_rfl) (fun _ => by kernel_rfl) rfl (of_decide_eq_true c107b0) (of_decide_eq_true c106b0)
          by_cases c110 : (rd [t86.1, t86.2.1, t86.2.2.1, t86.2.2.2.1, t86.2.2.2.2] x105) = 0
          · have AL102 := if_yes c110 AL102
            have c110b0 : ((rd [t86.1, t86.2.1, t86.2.2.1, t86.2.2.2.1, t86.2.2.2.2] x105) == 0) = true := beq_iff_eq.mpr c110
            have c110b1 : ((rd [t86.1, t86.2.1, t86.2.2.1, t86.2.2.2.1, t86.2.2.2.2] x105) != 0) = false := bne_eq_false_iff_eq.mpr c110
            clear c110
            go_wp2_with fail
            go_roundg k104
            case measure => exact Nat.lt_succ_self _
            case rel => exact ⟨(wrap64 (x105 + 1)), (by first | rfl | (simp [IntKind.wrap_u32]; done)), Aside0.mk AL102.out, ⟨(HS.out).keep (l := [b1 g42 a35 a36 a37 a38 a39 a40 a41]) (rest := [])⟩⟩
          · have AL102 := if_no c110 AL102
            have c110b0 : ((rd [t86.1, t86.2.1, t86.2.2.1, t86.2.2.2.1, t86.2.2.2.2] x105) == 0) = false := beq_eq_false_iff_ne.mpr c110
            have c110b1 : ((rd [t86.1, t86.2.1, t86.2.2.1, t86.2.2.2.1, t86.2.2.2.2] x105) != 0) = true := bne_iff_ne.mpr c110
            clear c110
            by_cases c111 : (rd [t86.1, t86.2.1, t86.2.2.1, t86.2.2.2.1, t86.2.2.2.2] x105) = 1
            · have AL102 := if_yes c111 AL102
              have c111b0 : ((rd [t86.1, t86.2.1, t86.2.2.1, t86.2.2.2.1, t86.2.2.2.2] x105) == 1) = true := beq_iff_eq.mpr c111
              have c111b1 : ((rd [t86.1, t86.2.1, t86.2.2.1, t86.2.2.2.1, t86.2.2.2.2] x105) != 1) = false := bne_eq_false_iff_eq.mpr c111
              clear c111
              go_wp2_with fail
              go_roundg k104
              case measure => exact Nat.lt_succ_self _
              case rel => exact ⟨(wrap64 (x105 + 1)), (by first | rfl | (simp [IntKind.wrap_u32]; done)), Aside0.mk AL102.out, ⟨(HS.out).keep (l := [b1 g42 a35 a36 a37 a38 a39 a40 a41]) (rest := [])⟩⟩
            · have AL102 := if_no c111 AL102
              have c111b0 : ((rd [t86.1, t86.2.1, t86.2.2.1, t86.2.2.2.1, t86.2.2.2.2] x105) == 1) = false := beq_eq_false_iff_ne.mpr c111
              have c111b1 : ((rd [t86.1, t86.2.1, t86.2.2.1, t86.2.2.2.1, t86.2.2.2.2] x105) != 1) = true := bne_iff_ne.mpr c111
              clear c111
              go_wp2_with fail
              have ho := some_eq AL102
              subst ho
              have H := lp_ret H
              go_ret
              rw [← some_eq H]
              exact ⟨(by first | rfl | (simp [IntKind.wrap_u32]; done)), (HS.out).keep (l := []) (rest := [b1 g42 a35 a36 a37 a38 a39 a40 a41])⟩
        · have AL102 := if_no c107 AL102
          have c107b0 : decide (0 ≤ x105) = false := decide_eq_false c107
          clear c107
          exact (none_no AL102).elim
      · have AL102 := if_no c106 AL102
        have c106b0 : decide (x105 < 5) = false := decide_eq_false c106
        clear c106
        have ho := some_eq AL102
        subst ho
        clear AL102
        have H := lp_out H
        by_cases c113 : a35 = 1
        · have H := if_yes c113 H
          have c113b0 : (a35 == 1) = true := beq_iff_eq.mpr c113
          have c113b1 : (a35 != 1) = false := bne_eq_false_iff_eq.mpr c113
          clear c113
          have hc112 : w103.cell? ⟨g42, 0, none⟩ = some (.int .i64 a35) := blk_cellv (HS.out.at0) 0 rfl
          have hc114 : w103.cell? ⟨g42, 6, none⟩ = some (.int .i64 a41) := blk_cellv (HS.out.at0) 6 rfl
          replace HS : Aside0 (Sep (fps []) w [] w103) := ⟨HS.out.sub (.cons _ .slnil)⟩
          go_wp2_with fail
          clear hc112 hc114
          go_ret
          rw [← some_eq H]
          exact ⟨(by first | rfl | (simp [IntKind.wrap_u32]; done)), (HS.out).keep (l := []) (rest := [])⟩
        · have H := if_no c113 H
          have c113b0 : (a35 == 1) = false := beq_eq_false_iff_ne.mpr c113
          have c113b1 : (a35 != 1) = true := bne_iff_ne.mpr c113
          clear c113
          by_cases c115 : a35 = 2
          · have H := if_yes c115 H
            have c115b0 : (a35 == 2) = true := beq_iff_eq.mpr c115
            have c115b1 : (a35 != 2) = false := bne_eq_false_iff_eq.mpr c115
            clear c115
            have hc112 : w103.cell? ⟨g42, 0, none⟩ = some (.int .i64 a35) := blk_cellv (HS.out.at0) 0 rfl
            have hc116 : w103.cell? ⟨g42, 6, none⟩ = some (.int .i64 a41) := blk_cellv (HS.out.at0) 6 rfl
            replace HS : Aside0 (Sep (fps []) w [] w103) := ⟨HS.out.sub (.cons _ .slnil)⟩
            go_wp2_with fail
            clear hc112 hc116
            go_ret
            rw [← some_eq H]
            exact ⟨(by first | rfl | (simp [IntKind.wrap_u32]; done)), (HS.out).keep (l := []) (rest := [])⟩
          · have H := if_no c115 H
            have c115b0 : (a35 == 2) = false := beq_eq_false_iff_ne.mpr c115
            have c115b1 : (a35 != 2) = true := bne_iff_ne.mpr c115
            clear c115
            by_cases c117 : a35 = 0
            · have H := if_yes c117 H
              have c117b0 : (a35 == 0) = true := beq_iff_eq.mpr c117
              have c117b1 : (a35 != 0) = false := bne_eq_false_iff_eq.mpr c117
              clear c117
              have hc112 : w103.cell? ⟨g42, 0, none⟩ = some (.int .i64 a35) := blk_cellv (HS.out.at0) 0 rfl
              go_wp2_with fail
              clear hc112
              refine start_ (n := 25) (S := (fun w' => w'.cell? ⟨g42, 0, none⟩ = some (.int .i64 a35) ∧ w'.cell? ⟨g42, 1, none⟩ = some (.int .i64 a36) ∧ w'.cell? ⟨g42, 2, none⟩ = some (.int .i64 a37) ∧ w'.cell? ⟨g42, 3, none⟩ = some (.int .i64 a38) ∧ w'.cell? ⟨g42, 4, none⟩ = some (.int .i64 a39) ∧ w'.cell? ⟨g42, 5, none⟩ = some (.int .i64 a40) ∧ w'.cell? ⟨g42, 6, none⟩ = some (.int .i64 a41) ∧ w'.cell? ⟨0, 0, none⟩ = some (.int .i64 0) ∧ w'.cell? ⟨0, 1, none⟩ = some (.int .i64 0) ∧ w'.cell? ⟨0, 2, none⟩ = some (.int .i64 0) ∧ w'.cell? ⟨0, 3, none⟩ = some (.int .i64 0) ∧ w'.cell? ⟨0, 4, none⟩ = some (.int .i64 0))) (ds := []) #[false, false, false, false, false, false, false, false, false, false, false, false, false, false, false, false, false, false, false, false, false, false, false, false, false] (by kernel_rfl) rfl rfl (⟨blk_cellv ((HS.out.drew).at0) 0 rfl, blk_cellv ((HS.out.drew).at0) 1 rfl, blk_cellv ((HS.out.drew).at0) 2 rfl, blk_cellv ((HS.out.drew).at0) 3 rfl, blk_cellv ((HS.out.drew).at0) 4 rfl, blk_cellv ((HS.out.drew).at0) 5 rfl, blk_cellv ((HS.out.drew).at0) 6 rfl, Gl.cell HGl0.out (HS.out.drew).fr 0 rfl, Gl.cell HGl0.out (HS.out.drew).fr 1 rfl, Gl.cell HGl0.out (HS.out.drew).fr 2 rfl, Gl.cell HGl0.out (HS.out.drew).fr 3 rfl, Gl.cell HGl0.out (HS.out.drew).fr 4 rfl⟩) (fun hHeld => ?_)
              have HS_ := Aside0.mk HS.out.drew
              clear HS
              generalize World.drew _ = w119 at HS_ hHeld ⊢
              have HS := HS_
              clear HS_
              refine take_ (i := 0) (N := some 28) (v := ?_) (a' := ?_) #[true, false, false, false, false, false, false, false, false, false, false, false, false, false, false, false, false, false, false, false, false, false, false, false, false] rfl rfl (by kernel_rfl) (fun _ _ _ h => h) (Or.inl ⟨by rfl, ?_⟩) hHeld ?_ ?_
              rotate_left
              · rintro w' hS'
                obtain ⟨s0, s1, s2, s3, s4, s5, s6, s7, s8, s9, s10, s11⟩ := hS'
                go_simp
                with_reducible rfl
              rotate_left
              · simp only [Act.put, List.setIfInBounds_toArray, List.set_cons_zero, List.set_cons_succ, i64_w, i32_w]
                rfl
              refine take_ (i := 2) (N := some 30) (v := ?_) (a' := ?_) #[true, false, true, false, false, false, false, false, false, false, false, false, false, false, false, false, false, false, false, false, false, false, false, false, false] rfl rfl (by kernel_rfl) (fun _ _ _ h => h) (Or.inl ⟨by rfl, ?_⟩) hHeld ?_ ?_
              rotate_left
              · rintro w' hS'
                obtain ⟨s0, s1, s2, s3, s4, s5, s6, s7, s8, s9, s10, s11⟩ := hS'
                go_simp
                with_reducible rfl
              rotate_left
              · simp only [Act.put, List.setIfInBounds_toArray, List.set_cons_zero, List.set_cons_succ, i64_w, i32_w]
                rfl
              refine one_ (i := 1) (N := some 29) #[true, true, true, false, false, false, false, false, false, false, false, false, false, false, false, false, false, false, false, false, false, false, false, false, false] rfl rfl (by kernel_rfl) (by decide) (fun K hK => ?_)
              obtain ⟨t120, HA121, H⟩ := bind_some H
              refine goes_ Tryd.func23 (by kernel_rfl) rfl #[.agg #[.int .i64 a35, .int .i64 a36, .int .i64 a37, .int .i64 a38, .int .i64 a39, .int .i64 a40, .int .i64 a41]] (by rfl) rfl rfl (by (try simp only [List.map_toArray, List.map_cons, List.map_nil]); first | done | rfl) ?_
              refine (tag_marks.calls a35 a36 a37 a38 a39 a40 a41 t120 _ ⟨Gl.pass (l := []) (rest := [b1 g42 a35 a36 a37 a38 a39 a40 a41]) HGl0.out HS.out⟩ ⟨Gl.pass (l := []) (rest := [b1 g42 a35 a36 a37 a38 a39 a40 a41]) HGl1.out HS.out⟩ ⟨HS.out.begin (l := []) (rest := [b1 g42 a35 a36 a37 a38 a39 a40 a41])⟩ HA121).mono ?_
              rintro e_ w122 ⟨rfl, hS⟩
              replace HS : Aside0 (Sep (fps []) w [b1 g42 a35 a36 a37 a38 a39 a40 a41] w122) := ⟨HS.out.call (l := []) (rest := [b1 g42 a35 a36 a37 a38 a39 a40 a41]) hS⟩
              clear hS
              refine ⟨_, rfl, ?_⟩
              refine hK.out _ _ (⟨blk_cellv (HS.out.at0) 0 rfl, blk_cellv (HS.out.at0) 1 rfl, blk_cellv (HS.out.at0) 2 rfl, blk_cellv (HS.out.at0) 3 rfl, blk_cellv (HS.out.at0) 4 rfl, blk_cellv (HS.out.at0) 5 rfl, blk_cellv (HS.out.at0) 6 rfl, Gl.cell HGl0.out HS.out.fr 0 rfl, Gl.cell HGl0.out HS.out.fr 1 rfl, Gl.cell HGl0.out HS.out.fr 2 rfl, Gl.cell HGl0.out HS.out.fr 3 rfl, Gl.cell HGl0.out HS.out.fr 4 rfl⟩) (fun hHeld => ?_)
              clear hK K
              refine norm_ (a' := ?_) ?_ ?_
              rotate_left
              · show Act.put _ (some 29) _ = _
                simp only [Act.put, List.setIfInBounds_toArray, List.set_cons_zero, List.set_cons_succ, i64_w, i32_w]
                rfl
              obtain ⟨b124, HA125, H⟩ := bind_some H
              have eb123 : ∀ w, (Op.equalIn 10000 51 (.agg #[.int .i64 t120.1, .int .i64 t120.2.1, .int .i64 t120.2.2.1, .int .i64 t120.2.2.2.1, .int .i64 t120.2.2.2.2]) (.agg #[.int .i64 0, .int .i64 0, .int .i64 0, .int .i64 0, .int .i64 0])).run Tryd.prog w = .ok b124 w := some_eq HA125 ▸ run_eq_ints 9998 51 3 5 .i64 [t120.1, t120.2.1, t120.2.2.1, t120.2.2.2.1, t120.2.2.2.2] [0, 0, 0, 0, 0] Tryd.underlying51 (by kernel_rfl) (by kernel_rfl) Tryd.underlying3 (fun _ => by kernel_rfl) rfl rfl
              refine pure_ (i := 3) (N := some 31) (v := ?_) (a' := ?_) #[true, true, true, true, false, false, false, false, false, false, false, false, false, false, false, false, false, false, false, false, false, false, false, false, false] rfl rfl (by kernel_rfl) (fun _ _ _ h => h) (Or.inl ⟨by rfl, ?_⟩) ?_ ?_
              rotate_left
              · intro w'
                go_simp
                with_reducible rfl
              rotate_left
              · simp only [Act.put, List.setIfInBounds_toArray, List.set_cons_zero, List.set_cons_succ, i64_w, i32_w]
                rfl
              refine pure_ (i := 4) (N := some 32) (v := ?_) (a' := ?_) #[true, true, true, true, true, false, false, false, false, false, false, false, false, false, false, false, false, false, false, false, false, false, false, false, false] rfl rfl (by kernel_rfl) (fun _ _ _ h => h) (Or.inl ⟨by rfl, ?_⟩) ?_ ?_
              rotate_left
              · intro w'
                go_simp
                with_reducible rfl
              rotate_left
              · simp only [Act.put, List.setIfInBounds_toArray, List.set_cons_zero, List.set_cons_succ, i64_w, i32_w]
                rfl
              by_cases c126 : b124 = true
              · have H := if_yes c126 H
                have c126b0 : b124 = true := c126
                have c126b1 : (!b124) = false := by rw [c126b0]; rfl
                clear c126
                try simp only [c126b0, Bool.not_true, Bool.not_false]
                refine pure_ (i := 5) (N := some 33) (v := ?_) (a' := ?_) #[true, true, true, true, true, true, false, false, false, false, false, false, false, false, false, false, false, false, false, false, false, false, false, false, false] rfl rfl (by kernel_rfl) (fun _ _ _ h => h) (Or.inl ⟨by rfl, ?_⟩) ?_ ?_
                rotate_left
                · intro w'
                  go_simp
                  with_reducible rfl
                rotate_left
                · simp only [Act.put, List.setIfInBounds_toArray, List.set_cons_zero, List.set_cons_succ, i64_w, i32_w]
                  rfl
                try simp only [c126b0, Bool.not_true, Bool.not_false]
                refine take_ (i := 6) (N := some 34) (v := ?_) (a' := ?_) #[true, true, true, true, true, true, true, false, false, false, false, false, false, false, false, false, false, false, false, false, false, false, false, false, false] rfl rfl (by kernel_rfl) (fun _ _ _ h => h) (Or.inl ⟨by rfl, ?_⟩) hHeld ?_ ?_
                rotate_left
                · rintro w' hS'
                  obtain ⟨s0, s1, s2, s3, s4, s5, s6, s7, s8, s9, s10, s11⟩ := hS'
                  go_simp
                  with_reducible rfl
                rotate_left
                · simp only [Act.put, List.setIfInBounds_toArray, List.set_cons_zero, List.set_cons_succ, i64_w, i32_w]
                  rfl
                try simp only [c126b0, Bool.not_true, Bool.not_false]
                refine pure_ (i := 7) (N := some 35) (v := ?_) (a' := ?_) #[true, true, true, true, true, true, true, true, false, false, false, false, false, false, false, false, false, false, false, false, false, false, false, false, false] rfl rfl (by kernel_rfl) (fun _ _ _ h => h) (Or.inl ⟨by rfl, ?_⟩) ?_ ?_
                rotate_left
                · intro w'
                  go_simp
                  with_reducible rfl
                rotate_left
                · simp only [Act.put, List.setIfInBounds_toArray, List.set_cons_zero, List.set_cons_succ, i64_w, i32_w]
                  rfl
                refine pure_ (i := 8) (N := some 36) (v := ?_) (a' := ?_) #[true, true, true, true, true, true, true, true, true, false, false, false, false, false, false, false, false, false, false, false, false, false, false, false, false] rfl rfl (by kernel_rfl) (fun _ _ _ h => h) (Or.inl ⟨by rfl, ?_⟩) ?_ ?_
                rotate_left
                · intro w'
                  go_simp
                  with_reducible rfl
                rotate_left
                · simp only [Act.put, List.setIfInBounds_toArray, List.set_cons_zero, List.set_cons_succ, i64_w, i32_w]
                  rfl
                refine pure_ (i := 9) (N := some 37) (v := ?_) (a' := ?_) #[true, true, true, true, true, true, true, true, true, true, false, false, false, false, false, false, false, false, false, false, false, false, false, false, false] rfl rfl (by kernel_rfl) (fun _ _ _ h => h) (Or.inl ⟨by rfl, ?_⟩) ?_ ?_
                rotate_left
                · intro w'
                  go_simp
                  with_reducible rfl
                rotate_left
                · simp only [Act.put, List.setIfInBounds_toArray, List.set_cons_zero, List.set_cons_succ, i64_w, i32_w]
                  rfl
                by_cases c127 : a41 ≥ 0
                · have H := if_yes c127 H
                  have c127b0 : decide (0 ≤ a41) = true := decide_eq_true c127
                  clear c127
                  try simp only [c127b0, Bool.not_true, Bool.not_false]
                  refine pure_ (i := 10) (N := some 38) (v := ?_) (a' := ?_) #[true, true, true, true, true, true, true, true, true, true, true, false, false, false, false, false, false, false, false, false, false, false, false, false, false] rfl rfl (by kernel_rfl) (fun _ _ _ h => h) (Or.inl ⟨by rfl, ?_⟩) ?_ ?_
                  rotate_left
                  · intro w'
                    go_simp
                    with_reducible rfl
                  rotate_left
                  · simp only [Act.put, List.setIfInBounds_toArray, List.set_cons_zero, List.set_cons_succ, i64_w, i32_w]
                    rfl
                  try simp only [c127b0, Bool.not_true, Bool.not_false]
                  refine take_ (i := 11) (N := some 39) (v := ?_) (a' := ?_) #[true, true, true, true, true, true, true, true, true, true, true, true, false, false, false, false, false, false, false, false, false, false, false, false, false] rfl rfl (by kernel_rfl) (fun _ _ _ h => h) (Or.inl ⟨by rfl, ?_⟩) hHeld ?_ ?_
                  rotate_left
                  · rintro w' hS'
                    obtain ⟨s0, s1, s2, s3, s4, s5, s6, s7, s8, s9, s10, s11⟩ := hS'
                    go_simp
                    with_reducible rfl
                  rotate_left
                  · simp only [Act.put, List.setIfInBounds_toArray, List.set_cons_zero, List.set_cons_succ, i64_w, i32_w]
                    rfl
                  try simp only [c127b0, Bool.not_true, Bool.not_false]
                  refine pure_ (i := 12) (N := some 40) (v := ?_) (a' := ?_) #[true, true, true, true, true, true, true, true, true, true, true, true, true, false, false, false, false, false, false, false, false, false, false, false, false] rfl rfl (by kernel_rfl) (fun _ _ _ h => h) (Or.inl ⟨by rfl, ?_⟩) ?_ ?_
                  rotate_left
                  · intro w'
                    go_simp
                    with_reducible rfl
                  rotate_left
                  · simp only [Act.put, List.setIfInBounds_toArray, List.set_cons_zero, List.set_cons_succ, i64_w, i32_w]
                    rfl
                  refine pure_ (i := 13) (N := some 41) (v := ?_) (a' := ?_) #[true, true, true, true, true, true, true, true, true, true, true, true, true, true, false, false, false, false, false, false, false, false, false, false, false] rfl rfl (by kernel_rfl) (fun _ _ _ h => h) (Or.inl ⟨by rfl, ?_⟩) ?_ ?_
                  rotate_left
                  · intro w'
                    go_simp
                    with_reducible rfl
                  rotate_left
                  · simp only [Act.put, List.setIfInBounds_toArray, List.set_cons_zero, List.set_cons_succ, i64_w, i32_w]
                    rfl
                  refine pure_ (i := 14) (N := some 42) (v := ?_) (a' := ?_) #[true, true, true, true, true, true, true, true, true, true, true, true, true, true, true, false, false, false, false, false, false, false, false, false, false] rfl rfl (by kernel_rfl) (fun _ _ _ h => h) (Or.inl ⟨by rfl, ?_⟩) ?_ ?_
                  rotate_left
                  · intro w'
                    go_simp
                    with_reducible rfl
                  rotate_left
                  · simp only [Act.put, List.setIfInBounds_toArray, List.set_cons_zero, List.set_cons_succ, i64_w, i32_w]
                    rfl
                  by_cases c128 : a41 < 1048576
                  · have H := if_yes c128 H
                    have c128b0 : decide (a41 < 1048576) = true := decide_eq_true c128
                    clear c128
                    try simp only [c128b0, Bool.not_true, Bool.not_false]
                    refine pure_ (i := 15) (N := some 43) (v := ?_) (a' := ?_) #[true, true, true, true, true, true, true, true, true, true, true, true, true, true, true, true, false, false, false, false, false, false, false, false, false] rfl rfl (by kernel_rfl) (fun _ _ _ h => h) (Or.inl ⟨by rfl, ?_⟩) ?_ ?_
                    rotate_left
                    · intro w'
                      go_simp
                      with_reducible rfl
                    rotate_left
                    · simp only [Act.put, List.setIfInBounds_toArray, List.set_cons_zero, List.set_cons_succ, i64_w, i32_w]
                      rfl
                    try simp only [c128b0, Bool.not_true, Bool.not_false]
                    refine take_ (i := 16) (N := some 44) (v := ?_) (a' := ?_) #[true, true, true, true, true, true, true, true, true, true, true, true, true, true, true, true, true, false, false, false, false, false, false, false, false] rfl rfl (by kernel_rfl) (fun _ _ _ h => h) (Or.inl ⟨by rfl, ?_⟩) hHeld ?_ ?_
                    rotate_left
                    · rintro w' hS'
                      obtain ⟨s0, s1, s2, s3, s4, s5, s6, s7, s8, s9, s10, s11⟩ := hS'
                      go_simp
                      with_reducible rfl
                    rotate_left
                    · simp only [Act.put, List.setIfInBounds_toArray, List.set_cons_zero, List.set_cons_succ, i64_w, i32_w]
                      rfl
                    try simp only [c128b0, Bool.not_true, Bool.not_false]
                    refine pure_ (i := 17) (N := some 45) (v := ?_) (a' := ?_) #[true, true, true, true, true, true, true, true, true, true, true, true, true, true, true, true, true, true, false, false, false, false, false, false, false] rfl rfl (by kernel_rfl) (fun _ _ _ h => h) (Or.inl ⟨by rfl, ?_⟩) ?_ ?_
                    rotate_left
                    · intro w'
                      go_simp
                      with_reducible rfl
                    rotate_left
                    · simp only [Act.put, List.setIfInBounds_toArray, List.set_cons_zero, List.set_cons_succ, i64_w, i32_w]
                      rfl
                    try simp only [c128b0, Bool.not_true, Bool.not_false]
                    refine pure_ (i := 18) (N := some 46) (v := ?_) (a' := ?_) #[true, true, true, true, true, true, true, true, true, true, true, true, true, true, true, true, true, true, true, false, false, false, false, false, false] rfl rfl (by kernel_rfl) (fun _ _ _ h => h) (Or.inl ⟨by rfl, ?_⟩) ?_ ?_
                    rotate_left
                    · intro w'
                      go_simp
                      with_reducible rfl
                    rotate_left
                    · simp only [Act.put, List.setIfInBounds_toArray, List.set_cons_zero, List.set_cons_succ, i64_w, i32_w]
                      rfl
                    by_cases c129 : a35 = 3
                    · have H := if_yes c129 H
                      have c129b0 : (a35 == 3) = true := beq_iff_eq.mpr c129
                      have c129b1 : (a35 != 3) = false := bne_eq_false_iff_eq.mpr c129
                      clear c129
                      try simp only [c129b0, Bool.not_true, Bool.not_false]
                      refine pure_ (i := 19) (N := some 47) (v := undef) (a' := ?_) #[true, true, true, true, true, true, true, true, true, true, true, true, true, true, true, true, true, true, true, true, false, false, false, false, false] rfl rfl (by kernel_rfl) (fun _ _ _ h => h) (Or.inr ⟨by rfl, rfl⟩) ?_ ?_
                      rotate_left
                      · simp only [Act.put, List.setIfInBounds_toArray, List.set_cons_zero, List.set_cons_succ, i64_w, i32_w]
                        rfl
                      try simp only [c129b0, Bool.not_true, Bool.not_false]
                      refine pure_ (i := 20) (N := some 48) (v := undef) (a' := ?_) #[true, true, true, true, true, true, true, true, true, true, true, true, true, true, true, true, true, true, true, true, true, false, false, false, false] rfl rfl (by kernel_rfl) (fun _ _ _ h => h) (Or.inr ⟨by rfl, rfl⟩) ?_ ?_
                      rotate_left
                      · simp only [Act.put, List.setIfInBounds_toArray, List.set_cons_zero, List.set_cons_succ, i64_w, i32_w]
                        rfl
                      try simp only [c129b0, Bool.not_true, Bool.not_false]
                      refine pure_ (i := 21) (N := some 49) (v := undef) (a' := ?_) #[true, true, true, true, true, true, true, true, true, true, true, true, true, true, true, true, true, true, true, true, true, true, false, false, false] rfl rfl (by kernel_rfl) (fun _ _ _ h => h) (Or.inr ⟨by rfl, rfl⟩) ?_ ?_
                      rotate_left
                      · simp only [Act.put, List.setIfInBounds_toArray, List.set_cons_zero, List.set_cons_succ, i64_w, i32_w]
                        rfl
                      try simp only [c128b0, Bool.not_true, Bool.not_false]
                      refine pure_ (i := 22) (N := some 50) (v := ?_) (a' := ?_) #[true, true, true, true, true, true, true, true, true, true, true, true, true, true, true, true, true, true, true, true, true, true, true, false, false] rfl rfl (by kernel_rfl) (fun _ _ _ h => h) (Or.inl ⟨by rfl, ?_⟩) ?_ ?_
                      rotate_left
                      · intro w'
                        go_simp
                        with_reducible rfl
                      rotate_left
                      · simp only [Act.put, List.setIfInBounds_toArray, List.set_cons_zero, List.set_cons_succ, i64_w, i32_w]
                        rfl
                      refine pure_ (i := 23) (N := some 51) (v := ?_) (a' := ?_) #[true, true, true, true, true, true, true, true, true, true, true, true, true, true, true, true, true, true, true, true, true, true, true, true, false] rfl rfl (by kernel_rfl) (fun _ _ _ h => h) (Or.inl ⟨by rfl, ?_⟩) ?_ ?_
                      rotate_left
                      · intro w'
                        go_simp
                        with_reducible rfl
                      rotate_left
                      · simp only [Act.put, List.setIfInBounds_toArray, List.set_cons_zero, List.set_cons_succ, i64_w, i32_w]
                        rfl
                      refine pure_ (i := 24) (N := some 2) (v := ?_) (a' := ?_) #[true, true, true, true, true, true, true, true, true, true, true, true, true, true, true, true, true, true, true, true, true, true, true, true, true] rfl rfl (by kernel_rfl) (fun _ _ _ h => h) (Or.inl ⟨by rfl, ?_⟩) ?_ ?_
                      rotate_left
                      · intro w'
                        go_simp
                        with_reducible rfl
                      rotate_left
                      · simp only [Act.put, List.setIfInBounds_toArray, List.set_cons_zero, List.set_cons_succ, i64_w, i32_w]
                        rfl
                      refine done_ (by kernel_rfl) ?_
                      replace HS : Aside0 (Sep (fps []) w [] w122) := ⟨HS.out.sub (.cons _ .slnil)⟩
                      go_wp2_with fail
                      go_ret
                      rw [← some_eq H]
                      exact ⟨(by first | rfl | (simp [IntKind.wrap_u32]; done)), (HS.out).keep (l := []) (rest := [])⟩
                    · have H := if_no c129 H
                      have c129b0 : (a35 == 3) = false := beq_eq_false_iff_ne.mpr c129
                      have c129b1 : (a35 != 3) = true := bne_iff_ne.mpr c129
                      clear c129
                      try simp only [c129b0, Bool.not_true, Bool.not_false]
                      refine pure_ (i := 19) (N := some 47) (v := ?_) (a' := ?_) #[true, true, true, true, true, true, true, true, true, true, true, true, true, true, true, true, true, true, true, true, false, false, false, false, false] rfl rfl (by kernel_rfl) (fun _ _ _ h => h) (Or.inl ⟨by rfl, ?_⟩) ?_ ?_
                      rotate_left
                      · intro w'
                        go_simp
                        with_reducible rfl
                      rotate_left
                      · simp only [Act.put, List.setIfInBounds_toArray, List.set_cons_zero, List.set_cons_succ, i64_w, i32_w]
                        rfl
                      try simp only [c129b0, Bool.not_true, Bool.not_false]
                      refine take_ (i := 20) (N := some 48) (v := ?_) (a' := ?_) #[true, true, true, true, true, true, true, true, true, true, true, true, true, true, true, true, true, true, true, true, true, false, false, false, false] rfl rfl (by kernel_rfl) (fun _ _ _ h => h) (Or.inl ⟨by rfl, ?_⟩) hHeld ?_ ?_
                      rotate_left
                      · rintro w' hS'
                        obtain ⟨s0, s1, s2, s3, s4, s5, s6, s7, s8, s9, s10, s11⟩ := hS'
                        go_simp
                        with_reducible rfl
                      rotate_left
                      · simp only [Act.put, List.setIfInBounds_toArray, List.set_cons_zero, List.set_cons_succ, i64_w, i32_w]
                        rfl
                      try simp only [c129b0, Bool.not_true, Bool.not_false]
                      refine pure_ (i := 21) (N := some 49) (v := ?_) (a' := ?_) #[true, true, true, true, true, true, true, true, true, true, true, true, true, true, true, true, true, true, true, true, true, true, false, false, false] rfl rfl (by kernel_rfl) (fun _ _ _ h => h) (Or.inl ⟨by rfl, ?_⟩) ?_ ?_
                      rotate_left
                      · intro w'
                        go_simp
                        with_reducible rfl
                      rotate_left
                      · simp only [Act.put, List.setIfInBounds_toArray, List.set_cons_zero, List.set_cons_succ, i64_w, i32_w]
                        rfl
                      try simp only [c128b0, Bool.not_true, Bool.not_false]
                      refine pure_ (i := 22) (N := some 50) (v := ?_) (a' := ?_) #[true, true, true, true, true, true, true, true, true, true, true, true, true, true, true, true, true, true, true, true, true, true, true, false, false] rfl rfl (by kernel_rfl) (fun _ _ _ h => h) (Or.inl ⟨by rfl, ?_⟩) ?_ ?_
                      rotate_left
                      · intro w'
                        go_simp
                        with_reducible rfl
                      rotate_left
                      · simp only [Act.put, List.setIfInBounds_toArray, List.set_cons_zero, List.set_cons_succ, i64_w, i32_w]
                        rfl
                      refine pure_ (i := 23) (N := some 51) (v := ?_) (a' := ?_) #[true, true, true, true, true, true, true, true, true, true, true, true, true, true, true, true, true, true, true, true, true, true, true, true, false] rfl rfl (by kernel_rfl) (fun _ _ _ h => h) (Or.inl ⟨by rfl, ?_⟩) ?_ ?_
                      rotate_left
                      · intro w'
                        go_simp
                        with_reducible rfl
                      rotate_left
                      · simp only [Act.put, List.setIfInBounds_toArray, List.set_cons_zero, List.set_cons_succ, i64_w, i32_w]
                        rfl
                      refine pure_ (i := 24) (N := some 2) (v := ?_) (a' := ?_) #[true, true, true, true, true, true, true, true, true, true, true, true, true, true, true, true, true, true, true, true, true, true, true, true, true] rfl rfl (by kernel_rfl) (fun _ _ _ h => h) (Or.inl ⟨by rfl, ?_⟩) ?_ ?_
                      rotate_left
                      · intro w'
                        go_simp
                        with_reducible rfl
                      rotate_left
                      · simp only [Act.put, List.setIfInBounds_toArray, List.set_cons_zero, List.set_cons_succ, i64_w, i32_w]
                        rfl
                      refine done_ (by kernel_rfl) ?_
                      replace HS : Aside0 (Sep (fps []) w [] w122) := ⟨HS.out.sub (.cons _ .slnil)⟩
                      go_wp2_with fail
                      go_ret
                      rw [← some_eq H]
                      exact ⟨(by first | rfl | (simp [IntKind.wrap_u32]; done)), (HS.out).keep (l := []) (rest := [])⟩
                  · have H := if_no c128 H
                    have c128b0 : decide (a41 < 1048576) = false := decide_eq_false c128
                    clear c128
                    try simp only [c128b0, Bool.not_true, Bool.not_false]
                    refine pure_ (i := 15) (N := some 43) (v := undef) (a' := ?_) #[true, true, true, true, true, true, true, true, true, true, true, true, true, true, true, true, false, false, false, false, false, false, false, false, false] rfl rfl (by kernel_rfl) (fun _ _ _ h => h) (Or.inr ⟨by rfl, rfl⟩) ?_ ?_
                    rotate_left
                    · simp only [Act.put, List.setIfInBounds_toArray, List.set_cons_zero, List.set_cons_succ, i64_w, i32_w]
                      rfl
                    try simp only [c128b0, Bool.not_true, Bool.not_false]
                    refine pure_ (i := 16) (N := some 44) (v := undef) (a' := ?_) #[true, true, true, true, true, true, true, true, true, true, true, true, true, true, true, true, true, false, false, false, false, false, false, false, false] rfl rfl (by kernel_rfl) (fun _ _ _ h => h) (Or.inr ⟨by rfl, rfl⟩) ?_ ?_
                    rotate_left
                    · simp only [Act.put, List.setIfInBounds_toArray, List.set_cons_zero, List.set_cons_succ, i64_w, i32_w]
                      rfl
                    try simp only [c128b0, Bool.not_true, Bool.not_false]
                    refine pure_ (i := 17) (N := some 45) (v := undef) (a' := ?_) #[true, true, true, true, true, true, true, true, true, true, true, true, true, true, true, true, true, true, false, false, false, false, false, false, false] rfl rfl (by kernel_rfl) (fun _ _ _ h => h) (Or.inr ⟨by rfl, rfl⟩) ?_ ?_
                    rotate_left
                    · simp only [Act.put, List.setIfInBounds_toArray, List.set_cons_zero, List.set_cons_succ, i64_w, i32_w]
                      rfl
                    try simp only [c128b0, Bool.not_true, Bool.not_false]
                    refine pure_ (i := 18) (N := some 46) (v := undef) (a' := ?_) #[true, true, true, true, true, true, true, true, true, true, true, true, true, true, true, true, true, true, true, false, false, false, false, false, false] rfl rfl (by kernel_rfl) (fun _ _ _ h => h) (Or.inr ⟨by rfl, rfl⟩) ?_ ?_
                    rotate_left
                    · simp only [Act.put, List.setIfInBounds_toArray, List.set_cons_zero, List.set_cons_succ, i64_w, i32_w]
                      rfl
                    refine pure_ (i := 19) (N := some 47) (v := undef) (a' := ?_) #[true, true, true, true, true, true, true, true, true, true, true, true, true, true, true, true, true, true, true, true, false, false, false, false, false] rfl rfl (by kernel_rfl) (fun _ _ _ h => h) (Or.inr ⟨by rfl, rfl⟩) ?_ ?_
                    rotate_left
                    · simp only [Act.put, List.setIfInBounds_toArray, List.set_cons_zero, List.set_cons_succ, i64_w, i32_w]
                      rfl
                    refine pure_ (i := 20) (N := some 48) (v := undef) (a' := ?_) #[true, true, true, true, true, true, true, true, true, true, true, true, true, true, true, true, true, true, true, true, true, false, false, false, false] rfl rfl (by kernel_rfl) (fun _ _ _ h => h) (Or.inr ⟨by rfl, rfl⟩) ?_ ?_
                    rotate_left
                    · simp only [Act.put, List.setIfInBounds_toArray, List.set_cons_zero, List.set_cons_succ, i64_w, i32_w]
                      rfl
                    refine pure_ (i := 21) (N := some 49) (v := undef) (a' := ?_) #[true, true, true, true, true, true, true, true, true, true, true, true, true, true, true, true, true, true, true, true, true, true, false, false, false] rfl rfl (by kernel_rfl) (fun _ _ _ h => h) (Or.inr ⟨by rfl, rfl⟩) ?_ ?_
                    rotate_left
                    · simp only [Act.put, List.setIfInBounds_toArray, List.set_cons_zero, List.set_cons_succ, i64_w, i32_w]
                      rfl
                    try simp only [c128b0, Bool.not_true, Bool.not_false]
                    refine pure_ (i := 22) (N := some 50) (v := undef) (a' := ?_) #[true, true, true, true, true, true, true, true, true, true, true, true, true, true, true, true, true, true, true, true, true, true, true, false, false] rfl rfl (by kernel_rfl) (fun _ _ _ h => h) (Or.inr ⟨by rfl, rfl⟩) ?_ ?_
                    rotate_left
                    · simp only [Act.put, List.setIfInBounds_toArray, List.set_cons_zero, List.set_cons_succ, i64_w, i32_w]
                      rfl
                    refine pure_ (i := 23) (N := some 51) (v := ?_) (a' := ?_) #[true, true, true, true, true, true, true, true, true, true, true, true, true, true, true, true, true, true, true, true, true, true, true, true, false] rfl rfl (by kernel_rfl) (fun _ _ _ h => h) (Or.inl ⟨by rfl, ?_⟩) ?_ ?_
                    rotate_left
                    · intro w'
                      go_simp
                      with_reducible rfl
                    rotate_left
                    · simp only [Act.put, List.setIfInBounds_toArray, List.set_cons_zero, List.set_cons_succ, i64_w, i32_w]
                      rfl
                    refine pure_ (i := 24) (N := some 2) (v := ?_) (a' := ?_) #[true, true, true, true, true, true, true, true, true, true, true, true, true, true, true, true, true, true, true, true, true, true, true, true, true] rfl rfl (by kernel_rfl) (fun _ _ _ h => h) (Or.inl ⟨by rfl, ?_⟩) ?_ ?_
                    rotate_left
                    · intro w'
                      go_simp
                      with_reducible rfl
                    rotate_left
                    · simp only [Act.put, List.setIfInBounds_toArray, List.set_cons_zero, List.set_cons_succ, i64_w, i32_w]
                      rfl
                    refine done_ (by kernel_rfl) ?_
                    replace HS : Aside0 (Sep (fps []) w [] w122) := ⟨HS.out.sub (.cons _ .slnil)⟩
                    go_wp2_with fail
                    go_ret
                    rw [← some_eq H]
                    exact ⟨(by first | rfl | (simp [IntKind.wrap_u32]; done)), (HS.out).keep (l := []) (rest := [])⟩
                · have H := if_no c127 H
                  have c127b0 : decide (0 ≤ a41) = false := decide_eq_false c127
                  clear c127
                  try simp only [c127b0, Bool.not_true, Bool.not_false]
                  refine pure_ (i := 10) (N := some 38) (v := undef) (a' := ?_) #[true, true, true, true, true, true, true, true, true, true, true, false, false, false, false, false, false, false, false, false, false, false, false, false, false] rfl rfl (by kernel_rfl) (fun _ _ _ h => h) (Or.inr ⟨by rfl, rfl⟩) ?_ ?_
                  rotate_left
                  · simp only [Act.put, List.setIfInBounds_toArray, List.set_cons_zero, List.set_cons_succ, i64_w, i32_w]
                    rfl
                  try simp only [c127b0, Bool.not_true, Bool.not_false]
                  refine pure_ (i := 11) (N := some 39) (v := undef) (a' := ?_) #[true, true, true, true, true, true, true, true, true, true, true, true, false, false, false, false, false, false, false, false, false, false, false, false, false] rfl rfl (by kernel_rfl) (fun _ _ _ h => h) (Or.inr ⟨by rfl, rfl⟩) ?_ ?_
                  rotate_left
                  · simp only [Act.put, List.setIfInBounds_toArray, List.set_cons_zero, List.set_cons_succ, i64_w, i32_w]
                    rfl
                  try simp only [c127b0, Bool.not_true, Bool.not_false]
                  refine pure_ (i := 12) (N := some 40) (v := undef) (a' := ?_) #[true, true, true, true, true, true, true, true, true, true, true, true, true, false, false, false, false, false, false, false, false, false, false, false, false] rfl rfl (by kernel_rfl) (fun _ _ _ h => h) (Or.inr ⟨by rfl, rfl⟩) ?_ ?_
                  rotate_left
                  · simp only [Act.put, List.setIfInBounds_toArray, List.set_cons_zero, List.set_cons_succ, i64_w, i32_w]
                    rfl
                  refine pure_ (i := 13) (N := some 41) (v := ?_) (a' := ?_) #[true, true, true, true, true, true, true, true, true, true, true, true, true, true, false, false, false, false, false, false, false, false, false, false, false] rfl rfl (by kernel_rfl) (fun _ _ _ h => h) (Or.inl ⟨by rfl, ?_⟩) ?_ ?_
                  rotate_left
                  · intro w'
                    go_simp
                    with_reducible rfl
                  rotate_left
                  · simp only [Act.put, List.setIfInBounds_toArray, List.set_cons_zero, List.set_cons_succ, i64_w, i32_w]
                    rfl
                  refine pure_ (i := 14) (N := some 42) (v := ?_) (a' := ?_) #[true, true, true, true, true, true, true, true, true, true, true, true, true, true, true, false, false, false, false, false, false, false, false, false, false] rfl rfl (by kernel_rfl) (fun _ _ _ h => h) (Or.inl ⟨by rfl, ?_⟩) ?_ ?_
                  rotate_left
                  · intro w'
                    go_simp
                    with_reducible rfl
                  rotate_left
                  · simp only [Act.put, List.setIfInBounds_toArray, List.set_cons_zero, List.set_cons_succ, i64_w, i32_w]
                    rfl
                  refine pure_ (i := 15) (N := some 43) (v := undef) (a' := ?_) #[true, true, true, true, true, true, true, true, true, true, true, true, true, true, true, true, false, false, false, false, false, false, false, false, false] rfl rfl (by kernel_rfl) (fun _ _ _ h => h) (Or.inr ⟨by rfl, rfl⟩) ?_ ?_
                  rotate_left
                  · simp only [Act.put, List.setIfInBounds_toArray, List.set_cons_zero, List.set_cons_succ, i64_w, i32_w]
                    rfl
                  refine pure_ (i := 16) (N := some 44) (v := undef) (a' := ?_) #[true, true, true, true, true, true, true, true, true, true, true, true, true, true, true, true, true, false, false, false, false, false, false, false, false] rfl rfl (by kernel_rfl) (fun _ _ _ h => h) (Or.inr ⟨by rfl, rfl⟩) ?_ ?_
                  rotate_left
                  · simp only [Act.put, List.setIfInBounds_toArray, List.set_cons_zero, List.set_cons_succ, i64_w, i32_w]
                    rfl
                  refine pure_ (i := 17) (N := some 45) (v := undef) (a' := ?_) #[true, true, true, true, true, true, true, true, true, true, true, true, true, true, true, true, true, true, false, false, false, false, false, false, false] rfl rfl (by kernel_rfl) (fun _ _ _ h => h) (Or.inr ⟨by rfl, rfl⟩) ?_ ?_
                  rotate_left
                  · simp only [Act.put, List.setIfInBounds_toArray, List.set_cons_zero, List.set_cons_succ, i64_w, i32_w]
                    rfl
                  refine pure_ (i := 18) (N := some 46) (v := undef) (a' := ?_) #[true, true, true, true, true, true, true, true, true, true, true, true, true, true, true, true, true, true, true, false, false, false, false, false, false] rfl rfl (by kernel_rfl) (fun _ _ _ h => h) (Or.inr ⟨by rfl, rfl⟩) ?_ ?_
                  rotate_left
                  · simp only [Act.put, List.setIfInBounds_toArray, List.set_cons_zero, List.set_cons_succ, i64_w, i32_w]
                    rfl
                  refine pure_ (i := 19) (N := some 47) (v := undef) (a' := ?_) #[true, true, true, true, true, true, true, true, true, true, true, true, true, true, true, true, true, true, true, true, false, false, false, false, false] rfl rfl (by kernel_rfl) (fun _ _ _ h => h) (Or.inr ⟨by rfl, rfl⟩) ?_ ?_
                  rotate_left
                  · simp only [Act.put, List.setIfInBounds_toArray, List.set_cons_zero, List.set_cons_succ, i64_w, i32_w]
                    rfl
                  refine pure_ (i := 20) (N := some 48) (v := undef) (a' := ?_) #[true, true, true, true, true, true, true, true, true, true, true, true, true, true, true, true, true, true, true, true, true, false, false, false, false] rfl rfl (by kernel_rfl) (fun _ _ _ h => h) (Or.inr ⟨by rfl, rfl⟩) ?_ ?_
                  rotate_left
                  · simp only [Act.put, List.setIfInBounds_toArray, List.set_cons_zero, List.set_cons_succ, i64_w, i32_w]
                    rfl
                  refine pure_ (i := 21) (N := some 49) (v := undef) (a' := ?_) #[true, true, true, true, true, true, true, true, true, true, true, true, true, true, true, true, true, true, true, true, true, true, false, false, false] rfl rfl (by kernel_rfl) (fun _ _ _ h => h) (Or.inr ⟨by rfl, rfl⟩) ?_ ?_
                  rotate_left
                  · simp only [Act.put, List.setIfInBounds_toArray, List.set_cons_zero, List.set_cons_succ, i64_w, i32_w]
                    rfl
                  refine pure_ (i := 22) (N := some 50) (v := undef) (a' := ?_) #[true, true, true, true, true, true, true, true, true, true, true, true, true, true, true, true, true, true, true, true, true, true, true, false, false] rfl rfl (by kernel_rfl) (fun _ _ _ h => h) (Or.inr ⟨by rfl, rfl⟩) ?_ ?_
                  rotate_left
                  · simp only [Act.put, List.setIfInBounds_toArray, List.set_cons_zero, List.set_cons_succ, i64_w, i32_w]
                    rfl
                  refine pure_ (i := 23) (N := some 51) (v := ?_) (a' := ?_) #[true, true, true, true, true, true, true, true, true, true, true, true, true, true, true, true, true, true, true, true, true, true, true, true, false] rfl rfl (by kernel_rfl) (fun _ _ _ h => h) (Or.inl ⟨by rfl, ?_⟩) ?_ ?_
                  rotate_left
                  · intro w'
                    go_simp
                    with_reducible rfl
                  rotate_left
                  · simp only [Act.put, List.setIfInBounds_toArray, List.set_cons_zero, List.set_cons_succ, i64_w, i32_w]
                    rfl
                  refine pure_ (i := 24) (N := some 2) (v := ?_) (a' := ?_) #[true, true, true, true, true, true, true, true, true, true, true, true, true, true, true, true, true, true, true, true, true, true, true, true, true] rfl rfl (by kernel_rfl) (fun _ _ _ h => h) (Or.inl ⟨by rfl, ?_⟩) ?_ ?_
                  rotate_left
                  · intro w'
                    go_simp
                    with_reducible rfl
                  rotate_left
                  · simp only [Act.put, List.setIfInBounds_toArray, List.set_cons_zero, List.set_cons_succ, i64_w, i32_w]
                    rfl
                  refine done_ (by kernel_rfl) ?_
                  replace HS : Aside0 (Sep (fps []) w [] w122) := ⟨HS.out.sub (.cons _ .slnil)⟩
                  go_wp2_with fail
                  go_ret
                  rw [← some_eq H]
                  exact ⟨(by first | rfl | (simp [IntKind.wrap_u32]; done)), (HS.out).keep (l := []) (rest := [])⟩
              · have H := if_no c126 H
                have c126b0 : b124 = false := by simpa using c126
                have c126b1 : (!b124) = true := by rw [c126b0]; rfl
                clear c126
                try simp only [c126b0, Bool.not_true, Bool.not_false]
                refine pure_ (i := 5) (N := some 33) (v := undef) (a' := ?_) #[true, true, true, true, true, true, false, false, false, false, false, false, false, false, false, false, false, false, false, false, false, false, false, false, false] rfl rfl (by kernel_rfl) (fun _ _ _ h => h) (Or.inr ⟨by rfl, rfl⟩) ?_ ?_
                rotate_left
                · simp only [Act.put, List.setIfInBounds_toArray, List.set_cons_zero, List.set_cons_succ, i64_w, i32_w]
                  rfl
                try simp only [c126b0, Bool.not_true, Bool.not_false]
                refine pure_ (i := 6) (N := some 34) (v := undef) (a' := ?_) #[true, true, true, true, true, true, true, false, false, false, false, false, false, false, false, false, false, false, false, false, false, false, false, false, false] rfl rfl (by kernel_rfl) (fun _ _ _ h => h) (Or.inr ⟨by rfl, rfl⟩) ?_ ?_
                rotate_left
                · simp only [Act.put, List.setIfInBounds_toArray, List.set_cons_zero, List.set_cons_succ, i64_w, i32_w]
                  rfl
                try simp only [c126b0, Bool.not_true, Bool.not_false]
                refine pure_ (i := 7) (N := some 35) (v := undef) (a' := ?_) #[true, true, true, true, true, true, true, true, false, false, false, false, false, false, false, false, false, false, false, false, false, false, false, false, false] rfl rfl (by kernel_rfl) (fun _ _ _ h => h) (Or.inr ⟨by rfl, rfl⟩) ?_ ?_
                rotate_left
                · simp only [Act.put, List.setIfInBounds_toArray, List.set_cons_zero, List.set_cons_succ, i64_w, i32_w]
                  rfl
                refine pure_ (i := 8) (N := some 36) (v := ?_) (a' := ?_) #[true, true, true, true, true, true, true, true, true, false, false, false, false, false, false, false, false, false, false, false, false, false, false, false, false] rfl rfl (by kernel_rfl) (fun _ _ _ h => h) (Or.inl ⟨by rfl, ?_⟩) ?_ ?_
                rotate_left
                · intro w'
                  go_simp
                  with_reducible rfl
                rotate_left
                · simp only [Act.put, List.setIfInBounds_toArray, List.set_cons_zero, List.set_cons_succ, i64_w, i32_w]
                  rfl
                refine pure_ (i := 9) (N := some 37) (v := ?_) (a' := ?_) #[true, true, true, true, true, true, true, true, true, true, false, false, false, false, false, false, false, false, false, false, false, false, false, false, false] rfl rfl (by kernel_rfl) (fun _ _ _ h => h) (Or.inl ⟨by rfl, ?_⟩) ?_ ?_
                rotate_left
                · intro w'
                  go_simp
                  with_reducible rfl
                rotate_left
                · simp only [Act.put, List.setIfInBounds_toArray, List.set_cons_zero, List.set_cons_succ, i64_w, i32_w]
                  rfl
                refine pure_ (i := 10) (N := some 38) (v := undef) (a' := ?_) #[true, true, true, true, true, true, true, true, true, true, true, false, false, false, false, false, false, false, false, false, false, false, false, false, false] rfl rfl (by kernel_rfl) (fun _ _ _ h => h) (Or.inr ⟨by rfl, rfl⟩) ?_ ?_
                rotate_left
                · simp only [Act.put, List.setIfInBounds_toArray, List.set_cons_zero, List.set_cons_succ, i64_w, i32_w]
                  rfl
                refine pure_ (i := 11) (N := some 39) (v := undef) (a' := ?_) #[true, true, true, true, true, true, true, true, true, true, true, true, false, false, false, false, false, false, false, false, false, false, false, false, false] rfl rfl (by kernel_rfl) (fun _ _ _ h => h) (Or.inr ⟨by rfl, rfl⟩) ?_ ?_
                rotate_left
                · simp only [Act.put, List.setIfInBounds_toArray, List.set_cons_zero, List.set_cons_succ, i64_w, i32_w]
                  rfl
                refine pure_ (i := 12) (N := some 40) (v := undef) (a' := ?_) #[true, true, true, true, true, true, true, true, true, true, true, true, true, false, false, false, false, false, false, false, false, false, false, false, false] rfl rfl (by kernel_rfl) (fun _ _ _ h => h) (Or.inr ⟨by rfl, rfl⟩) ?_ ?_
                rotate_left
                · simp only [Act.put, List.setIfInBounds_toArray, List.set_cons_zero, List.set_cons_succ, i64_w, i32_w]
                  rfl
                refine pure_ (i := 13) (N := some 41) (v := ?_) (a' := ?_) #[true, true, true, true, true, true, true, true, true, true, true, true, true, true, false, false, false, false, false, false, false, false, false, false, false] rfl rfl (by kernel_rfl) (fun _ _ _ h => h) (Or.inl ⟨by rfl, ?_⟩) ?_ ?_
                rotate_left
                · intro w'
                  go_simp
                  with_reducible rfl
                rotate_left
                · simp only [Act.put, List.setIfInBounds_toArray, List.set_cons_zero, List.set_cons_succ, i64_w, i32_w]
                  rfl
                refine pure_ (i := 14) (N := some 42) (v := ?_) (a' := ?_) #[true, true, true, true, true, true, true, true, true, true, true, true, true, true, true, false, false, false, false, false, false, false, false, false, false] rfl rfl (by kernel_rfl) (fun _ _ _ h => h) (Or.inl ⟨by rfl, ?_⟩) ?_ ?_
                rotate_left
                · intro w'
                  go_simp
                  with_reducible rfl
                rotate_left
                · simp only [Act.put, List.setIfInBounds_toArray, List.set_cons_zero, List.set_cons_succ, i64_w, i32_w]
                  rfl
                refine pure_ (i := 15) (N := some 43) (v := undef) (a' := ?_) #[true, true, true, true, true, true, true, true, true, true, true, true, true, true, true, true, false, false, false, false, false, false, false, false, false] rfl rfl (by kernel_rfl) (fun _ _ _ h => h) (Or.inr ⟨by rfl, rfl⟩) ?_ ?_
                rotate_left
                · simp only [Act.put, List.setIfInBounds_toArray, List.set_cons_zero, List.set_cons_succ, i64_w, i32_w]
                  rfl
                refine pure_ (i := 16) (N := some 44) (v := undef) (a' := ?_) #[true, true, true, true, true, true, true, true, true, true, true, true, true, true, true, true, true, false, false, false, false, false, false, false, false] rfl rfl (by kernel_rfl) (fun _ _ _ h => h) (Or.inr ⟨by rfl, rfl⟩) ?_ ?_
                rotate_left
                · simp only [Act.put, List.setIfInBounds_toArray, List.set_cons_zero, List.set_cons_succ, i64_w, i32_w]
                  rfl
                refine pure_ (i := 17) (N := some 45) (v := undef) (a' := ?_) #[true, true, true, true, true, true, true, true, true, true, true, true, true, true, true, true, true, true, false, false, false, false, false, false, false] rfl rfl (by kernel_rfl) (fun _ _ _ h => h) (Or.inr ⟨by rfl, rfl⟩) ?_ ?_
                rotate_left
                · simp only [Act.put, List.setIfInBounds_toArray, List.set_cons_zero, List.set_cons_succ, i64_w, i32_w]
                  rfl
                refine pure_ (i := 18) (N := some 46) (v := undef) (a' := ?_) #[true, true, true, true, true, true, true, true, true, true, true, true, true, true, true, true, true, true, true, false, false, false, false, false, false] rfl rfl (by kernel_rfl) (fun _ _ _ h => h) (Or.inr ⟨by rfl, rfl⟩) ?_ ?_
                rotate_left
                · simp only [Act.put, List.setIfInBounds_toArray, List.set_cons_zero, List.set_cons_succ, i64_w, i32_w]
                  rfl
                refine pure_ (i := 19) (N := some 47) (v := undef) (a' := ?_) #[true, true, true, true, true, true, true, true, true, true, true, true, true, true, true, true, true, true, true, true, false, false, false, false, false] rfl rfl (by kernel_rfl) (fun _ _ _ h => h) (Or.inr ⟨by rfl, rfl⟩) ?_ ?_
                rotate_left
                · simp only [Act.put, List.setIfInBounds_toArray, List.set_cons_zero, List.set_cons_succ, i64_w, i32_w]
                  rfl
                refine pure_ (i := 20) (N := some 48) (v := undef) (a' := ?_) #[true, true, true, true, true, true, true, true, true, true, true, true, true, true, true, true, true, true, true, true, true, false, false, false, false] rfl rfl (by kernel_rfl) (fun _ _ _ h => h) (Or.inr ⟨by rfl, rfl⟩) ?_ ?_
                rotate_left
                · simp only [Act.put, List.setIfInBounds_toArray, List.set_cons_zero, List.set_cons_succ, i64_w, i32_w]
                  rfl
                refine pure_ (i := 21) (N := some 49) (v := undef) (a' := ?_) #[true, true, true, true, true, true, true, true, true, true, true, true, true, true, true, true, true, true, true, true, true, true, false, false, false] rfl rfl (by kernel_rfl) (fun _ _ _ h => h) (Or.inr ⟨by rfl, rfl⟩) ?_ ?_
                rotate_left
                · simp only [Act.put, List.setIfInBounds_toArray, List.set_cons_zero, List.set_cons_succ, i64_w, i32_w]
                  rfl
                refine pure_ (i := 22) (N := some 50) (v := undef) (a' := ?_) #[true, true, true, true, true, true, true, true, true, true, true, true, true, true, true, true, true, true, true, true, true, true, true, false, false] rfl rfl (by kernel_rfl) (fun _ _ _ h => h) (Or.inr ⟨by rfl, rfl⟩) ?_ ?_
                rotate_left
                · simp only [Act.put, List.setIfInBounds_toArray, List.set_cons_zero, List.set_cons_succ, i64_w, i32_w]
                  rfl
                refine pure_ (i := 23) (N := some 51) (v := ?_) (a' := ?_) #[true, true, true, true, true, true, true, true, true, true, true, true, true, true, true, true, true, true, true, true, true, true, true, true, false] rfl rfl (by kernel_rfl) (fun _ _ _ h => h) (Or.inl ⟨by rfl, ?_⟩) ?_ ?_
                rotate_left
                · intro w'
                  go_simp
                  with_reducible rfl
                rotate_left
                · simp only [Act.put, List.setIfInBounds_toArray, List.set_cons_zero, List.set_cons_succ, i64_w, i32_w]
                  rfl
                refine pure_ (i := 24) (N := some 2) (v := ?_) (a' := ?_) #[true, true, true, true, true, true, true, true, true, true, true, true, true, true, true, true, true, true, true, true, true, true, true, true, true] rfl rfl (by kernel_rfl) (fun _ _ _ h => h) (Or.inl ⟨by rfl, ?_⟩) ?_ ?_
                rotate_left
                · intro w'
                  go_simp
                  with_reducible rfl
                rotate_left
                · simp only [Act.put, List.setIfInBounds_toArray, List.set_cons_zero, List.set_cons_succ, i64_w, i32_w]
                  rfl
                refine done_ (by kernel_rfl) ?_
                replace HS : Aside0 (Sep (fps []) w [] w122) := ⟨HS.out.sub (.cons _ .slnil)⟩
                go_wp2_with fail
                go_ret
                rw [← some_eq H]
                exact ⟨(by first | rfl | (simp [IntKind.wrap_u32]; done)), (HS.out).keep (l := []) (rest := [])⟩
            · have H := if_no c117 H
              have c117b0 : (a35 == 0) = false := beq_eq_false_iff_ne.mpr c117
              have c117b1 : (a35 != 0) = true := bne_iff_ne.mpr c117
              clear c117
              by_cases c130 : a35 = 3
              · have H := if_yes c130 H
                have c130b0 : (a35 == 3) = true := beq_iff_eq.mpr c130
                have c130b1 : (a35 != 3) = false := bne_eq_false_iff_eq.mpr c130
                clear c130
                have hc112 : w103.cell? ⟨g42, 0, none⟩ = some (.int .i64 a35) := blk_cellv (HS.out.at0) 0 rfl
                go_wp2_with fail
                clear hc112
                refine start_ (n := 25) (S := (fun w' => w'.cell? ⟨g42, 0, none⟩ = some (.int .i64 a35) ∧ w'.cell? ⟨g42, 1, none⟩ = some (.int .i64 a36) ∧ w'.cell? ⟨g42, 2, none⟩ = some (.int .i64 a37) ∧ w'.cell? ⟨g42, 3, none⟩ = some (.int .i64 a38) ∧ w'.cell? ⟨g42, 4, none⟩ = some (.int .i64 a39) ∧ w'.cell? ⟨g42, 5, none⟩ = some (.int .i64 a40) ∧ w'.cell? ⟨g42, 6, none⟩ = some (.int .i64 a41) ∧ w'.cell? ⟨0, 0, none⟩ = some (.int .i64 0) ∧ w'.cell? ⟨0, 1, none⟩ = some (.int .i64 0) ∧ w'.cell? ⟨0, 2, none⟩ = some (.int .i64 0) ∧ w'.cell? ⟨0, 3, none⟩ = some (.int .i64 0) ∧ w'.cell? ⟨0, 4, none⟩ = some (.int .i64 0))) (ds := []) #[false, false, false, false, false, false, false, false, false, false, false, false, false, false, false, false, false, false, false, false, false, false, false, false, false] (by kernel_rfl) rfl rfl (⟨blk_cellv ((HS.out.drew).at0) 0 rfl, blk_cellv ((HS.out.drew).at0) 1 rfl, blk_cellv ((HS.out.drew).at0) 2 rfl, blk_cellv ((HS.out.drew).at0) 3 rfl, blk_cellv ((HS.out.drew).at0) 4 rfl, blk_cellv ((HS.out.drew).at0) 5 rfl, blk_cellv ((HS.out.drew).at0) 6 rfl, Gl.cell HGl0.out (HS.out.drew).fr 0 rfl, Gl.cell HGl0.out (HS.out.drew).fr 1 rfl, Gl.cell HGl0.out (HS.out.drew).fr 2 rfl, Gl.cell HGl0.out (HS.out.drew).fr 3 rfl, Gl.cell HGl0.out (HS.out.drew).fr 4 rfl⟩) (fun hHeld => ?_)
                have HS_ := Aside0.mk HS.out.drew
                clear HS
                generalize World.drew _ = w132 at HS_ hHeld ⊢
                have HS := HS_
                clear HS_
                refine take_ (i := 0) (N := some 28) (v := ?_) (a' := ?_) #[true, false, false, false, false, false, false, false, false, false, false, false, false, false, false, false, false, false, false, false, false, false, false, false, false] rfl rfl (by kernel_rfl) (fun _ _ _ h => h) (Or.inl ⟨by rfl, ?_⟩) hHeld ?_ ?_
                rotate_left
                · rintro w' hS'
                  obtain ⟨s0, s1, s2, s3, s4, s5, s6, s7, s8, s9, s10, s11⟩ := hS'
                  go_simp
                  with_reducible rfl
                rotate_left
                · simp only [Act.put, List.setIfInBounds_toArray, List.set_cons_zero, List.set_cons_succ, i64_w, i32_w]
                  rfl
                refine take_ (i := 2) (N := some 30) (v := ?_) (a' := ?_) #[true, false, true, false, false, false, false, false, false, false, false, false, false, false, false, false, false, false, false, false, false, false, false, false, false] rfl rfl (by kernel_rfl) (fun _ _ _ h => h) (Or.inl ⟨by rfl, ?_⟩) hHeld ?_ ?_
                rotate_left
                · rintro w' hS'
                  obtain ⟨s0, s1, s2, s3, s4, s5, s6, s7, s8, s9, s10, s11⟩ := hS'
                  go_simp
                  with_reducible rfl
                rotate_left
                · simp only [Act.put, List.setIfInBounds_toArray, List.set_cons_zero, List.set_cons_succ, i64_w, i32_w]
                  rfl
                refine one_ (i := 1) (N := some 29) #[true, true, true, false, false, false, false, false, false, false, false, false, false, false, false, false, false, false, false, false, false, false, false, false, false] rfl rfl (by kernel_rfl) (by decide) (fun K hK => ?_)
                obtain ⟨t120, HA133, H⟩ := bind_some H
                refine goes_ Tryd.func23 (by kernel_rfl) rfl #[.agg #[.int .i64 a35, .int .i64 a36, .int .i64 a37, .int .i64 a38, .int .i64 a39, .int .i64 a40, .int .i64 a41]] (by rfl) rfl rfl (by (try simp only [List.map_toArray, List.map_cons, List.map_nil]); first | done | rfl) ?_
                refine (tag_marks.calls a35 a36 a37 a38 a39 a40 a41 t120 _ ⟨Gl.pass (l := []) (rest := [b1 g42 a35 a36 a37 a38 a39 a40 a41]) HGl0.out HS.out⟩ ⟨Gl.pass (l := []) (rest := [b1 g42 a35 a36 a37 a38 a39 a40 a41]) HGl1.out HS.out⟩ ⟨HS.out.begin (l := []) (rest := [b1 g42 a35 a36 a37 a38 a39 a40 a41])⟩ HA133).mono ?_
                rintro e_ w134 ⟨rfl, hS⟩
                replace HS : Aside0 (Sep (fps []) w [b1 g42 a35 a36 a37 a38 a39 a40 a41] w134) := ⟨HS.out.call (l := []) (rest := [b1 g42 a35 a36 a37 a38 a39 a40 a41]) hS⟩
                clear hS
                refine ⟨_, rfl, ?_⟩
                refine hK.out _ _ (⟨blk_cellv (HS.out.at0) 0 rfl, blk_cellv (HS.out.at0) 1 rfl, blk_cellv (HS.out.at0) 2 rfl, blk_cellv (HS.out.at0) 3 rfl, blk_cellv (HS.out.at0) 4 rfl, blk_cellv (HS.out.at0) 5 rfl, blk_cellv (HS.out.at0) 6 rfl, Gl.cell HGl0.out HS.out.fr 0 rfl, Gl.cell HGl0.out HS.out.fr 1 rfl, Gl.cell HGl0.out HS.out.fr 2 rfl, Gl.cell HGl0.out HS.out.fr 3 rfl, Gl.cell HGl0.out HS.out.fr 4 rfl⟩) (fun hHeld => ?_)
                clear hK K
                refine norm_ (a' := ?_) ?_ ?_
                rotate_left
                · show Act.put _ (some 29) _ = _
                  simp only [Act.put, List.setIfInBounds_toArray, List.set_cons_zero, List.set_cons_succ, i64_w, i32_w]
                  rfl
                obtain ⟨b124, HA136, H⟩ := bind_some H
                have eb135 : ∀ w, (Op.equalIn 10000 51 (.agg #[.int .i64 t120.1, .int .i64 t120.2.1, .int .i64 t120.2.2.1, .int .i64 t120.2.2.2.1, .int .i64 t120.2.2.2.2]) (.agg #[.int .i64 0, .int .i64 0, .int .i64 0, .int .i64 0, .int .i64 0])).run Tryd.prog w = .ok b124 w := some_eq HA136 ▸ run_eq_ints 9998 51 3 5 .i64 [t120.1, t120.2.1, t120.2.2.1, t120.2.2.2.1, t120.2.2.2.2] [0, 0, 0, 0, 0] Tryd.underlying51 (by kernel_rfl) (by kernel_rfl) Tryd.underlying3 (fun _ => by kernel_rfl) rfl rfl
                refine pure_ (i := 3) (N := some 31) (v := ?_) (a' := ?_) #[true, true, true, true, false, false, false, false, false, false, false, false, false, false, false, false, false, false, false, false, false, false, false, false, false] rfl rfl (by kernel_rfl) (fun _ _ _ h => h) (Or.inl ⟨by rfl, ?_⟩) ?_ ?_
                rotate_left
                · intro w'
                  go_simp
                  with_reducible rfl
                rotate_left
                · simp only [Act.put, List.setIfInBounds_toArray, List.set_cons_zero, List.set_cons_succ, i64_w, i32_w]
                  rfl
                refine pure_ (i := 4) (N := some 32) (v := ?_) (a' := ?_) #[true, true, true, true, true, false, false, false, false, false, false, false, false, false, false, false, false, false, false, false, false, false, false, false, false] rfl rfl (by kernel_rfl) (fun _ _ _ h => h) (Or.inl ⟨by rfl, ?_⟩) ?_ ?_
                rotate_left
                · intro w'
                  go_simp
                  with_reducible rfl
                rotate_left
                · simp only [Act.put, List.setIfInBounds_toArray, List.set_cons_zero, List.set_cons_succ, i64_w, i32_w]
                  rfl
                by_cases c137 : b124 = true
                · have H := if_yes c137 H
                  have c137b0 : b124 = true := c137
                  have c137b1 : (!b124) = false := by rw [c137b0]; rfl
                  clear c137
                  try simp only [c137b0, Bool.not_true, Bool.not_false]
                  refine pure_ (i := 5) (N := some 33) (v := ?_) (a' := ?_) #[true, true, true, true, true, true, false, false, false, false, false, false, false, false, false, false, false, false, false, false, false, false, false, false, false] rfl rfl (by kernel_rfl) (fun _ _ _ h => h) (Or.inl ⟨by rfl, ?_⟩) ?_ ?_
                  rotate_left
                  · intro w'
                    go_simp
                    with_reducible rfl
                  rotate_left
                  · simp only [Act.put, List.setIfInBounds_toArray, List.set_cons_zero, List.set_cons_succ, i64_w, i32_w]
                    rfl
                  try simp only [c137b0, Bool.not_true, Bool.not_false]
                  refine take_ (i := 6) (N := some 34) (v := ?_) (a' := ?_) #[true, true, true, true, true, true, true, false, false, false, false, false, false, false, false, false, false, false, false, false, false, false, false, false, false] rfl rfl (by kernel_rfl) (fun _ _ _ h => h) (Or.inl ⟨by rfl, ?_⟩) hHeld ?_ ?_
                  rotate_left
                  · rintro w' hS'
                    obtain ⟨s0, s1, s2, s3, s4, s5, s6, s7, s8, s9, s10, s11⟩ := hS'
                    go_simp
                    with_reducible rfl
                  rotate_left
                  · simp only [Act.put, List.setIfInBounds_toArray, List.set_cons_zero, List.set_cons_succ, i64_w, i32_w]
                    rfl
                  try simp only [c137b0, Bool.not_true, Bool.not_false]
                  refine pure_ (i := 7) (N := some 35) (v := ?_) (a' := ?_) #[true, true, true, true, true, true, true, true, false, false, false, false, false, false, false, false, false, false, false, false, false, false, false, false, false] rfl rfl (by kernel_rfl) (fun _ _ _ h => h) (Or.inl ⟨by rfl, ?_⟩) ?_ ?_
                  rotate_left
                  · intro w'
                    go_simp
                    with_reducible rfl
                  rotate_left
                  · simp only [Act.put, List.setIfInBounds_toArray, List.set_cons_zero, List.set_cons_succ, i64_w, i32_w]
                    rfl
                  refine pure_ (i := 8) (N := some 36) (v := ?_) (a' := ?_) #[true, true, true, true, true, true, true, true, true, false, false, false, false, false, false, false, false, false, false, false, false, false, false, false, false] rfl rfl (by kernel_rfl) (fun _ _ _ h => h) (Or.inl ⟨by rfl, ?_⟩) ?_ ?_
                  rotate_left
                  · intro w'
                    go_simp
                    with_reducible rfl
                  rotate_left
                  · simp only [Act.put, List.setIfInBounds_toArray, List.set_cons_zero, List.set_cons_succ, i64_w, i32_w]
                    rfl
                  refine pure_ (i := 9) (N := some 37) (v := ?_) (a' := ?_) #[true, true, true, true, true, true, true, true, true, true, false, false, false, false, false, false, false, false, false, false, false, false, false, false, false] rfl rfl (by kernel_rfl) (fun _ _ _ h => h) (Or.inl ⟨by rfl, ?_⟩) ?_ ?_
                  rotate_left
                  · intro w'
                    go_simp
                    with_reducible rfl
                  rotate_left
                  · simp only [Act.put, List.setIfInBounds_toArray, List.set_cons_zero, List.set_cons_succ, i64_w, i32_w]
                    rfl
                  by_cases c138 : a41 ≥ 0
                  · have H := if_yes c138 H
                    have c138b0 : decide (0 ≤ a41) = true := decide_eq_true c138
                    clear c138
                    try simp only [c138b0, Bool.not_true, Bool.not_false]
                    refine pure_ (i := 10) (N := some 38) (v := ?_) (a' := ?_) #[true, true, true, true, true, true, true, true, true, true, true, false, false, false, false, false, false, false, false, false, false, false, false, false, false] rfl rfl (by kernel_rfl) (fun _ _ _ h => h) (Or.inl ⟨by rfl, ?_⟩) ?_ ?_
                    rotate_left
                    · intro w'
                      go_simp
                      with_reducible rfl
                    rotate_left
                    · simp only [Act.put, List.setIfInBounds_toArray, List.set_cons_zero, List.set_cons_succ, i64_w, i32_w]
                      rfl
                    try simp only [c138b0, Bool.not_true, Bool.not_false]
                    refine take_ (i := 11) (N := some 39) (v := ?_) (a' := ?_) #[true, true, true, true, true, true, true, true, true, true, true, true, false, false, false, false, false, false, false, false, false, false, false, false, false] rfl rfl (by kernel_rfl) (fun _ _ _ h => h) (Or.inl ⟨by rfl, ?_⟩) hHeld ?_ ?_
                    rotate_left
                    · rintro w' hS'
                      obtain ⟨s0, s1, s2, s3, s4, s5, s6, s7, s8, s9, s10, s11⟩ := hS'
                      go_simp
                      with_reducible rfl
                    rotate_left
                    · simp only [Act.put, List.setIfInBounds_toArray, List.set_cons_zero, List.set_cons_succ, i64_w, i32_w]
                      rfl
                    try simp only [c138b0, Bool.not_true, Bool.not_false]
                    refine pure_ (i := 12) (N := some 40) (v := ?_) (a' := ?_) #[true, true, true, true, true, true, true, true, true, true, true, true, true, false, false, false, false, false, false, false, false, false, false, false, false] rfl rfl (by kernel_rfl) (fun _ _ _ h => h) (Or.inl ⟨by rfl, ?_⟩) ?_ ?_
                    rotate_left
                    · intro w'
                      go_simp
                      with_reducible rfl
                    rotate_left
                    · simp only [Act.put, List.setIfInBounds_toArray, List.set_cons_zero, List.set_cons_succ, i64_w, i32_w]
                      rfl
                    refine pure_ (i := 13) (N := some 41) (v := ?_) (a' := ?_) #[true, true, true, true, true, true, true, true, true, true, true, true, true, true, false, false, false, false, false, false, false, false, false, false, false] rfl rfl (by kernel_rfl) (fun _ _ _ h => h) (Or.inl ⟨by rfl, ?_⟩) ?_ ?_
                    rotate_left
                    · intro w'
                      go_simp
                      with_reducible rfl
                    rotate_left
                    · simp only [Act.put, List.setIfInBounds_toArray, List.set_cons_zero, List.set_cons_succ, i64_w, i32_w]
                      rfl
                    refine pure_ (i := 14) (N := some 42) (v := ?_) (a' := ?_) #[true, true, true, true, true, true, true, true, true, true, true, true, true, true, true, false, false, false, false, false, false, false, false, false, false] rfl rfl (by kernel_rfl) (fun _ _ _ h => h) (Or.inl ⟨by rfl, ?_⟩) ?_ ?_
                    rotate_left
                    · intro w'
                      go_simp
                      with_reducible rfl
                    rotate_left
                    · simp only [Act.put, List.setIfInBounds_toArray, List.set_cons_zero, List.set_cons_succ, i64_w, i32_w]
                      rfl
                    by_cases c139 : a41 < 1048576
                    · have H := if_yes c139 H
                      have c139b0 : decide (a41 < 1048576) = true := decide_eq_true c139
                      clear c139
                      try simp only [c139b0, Bool.not_true, Bool.not_false]
                      refine pure_ (i := 15) (N := some 43) (v := ?_) (a' := ?_) #[true, true, true, true, true, true, true, true, true, true, true, true, true, true, true, true, false, false, false, false, false, false, false, false, false] rfl rfl (by kernel_rfl) (fun _ _ _ h => h) (Or.inl ⟨by rfl, ?_⟩) ?_ ?_
                      rotate_left
                      · intro w'
                        go_simp
                        with_reducible rfl
                      rotate_left
                      · simp only [Act.put, List.setIfInBounds_toArray, List.set_cons_zero, List.set_cons_succ, i64_w, i32_w]
                        rfl
                      try simp only [c139b0, Bool.not_true, Bool.not_false]
                      refine take_ (i := 16) (N := some 44) (v := ?_) (a' := ?_) #[true, true, true, true, true, true, true, true, true, true, true, true, true, true, true, true, true, false, false, false, false, false, false, false, false] rfl rfl (by kernel_rfl) (fun _ _ _ h => h) (Or.inl ⟨by rfl, ?_⟩) hHeld ?_ ?_
                      rotate_left
                      · rintro w' hS'
                        obtain ⟨s0, s1, s2, s3, s4, s5, s6, s7, s8, s9, s10, s11⟩ := hS'
                        go_simp
                        with_reducible rfl
                      rotate_left
                      · simp only [Act.put, List.setIfInBounds_toArray, List.set_cons_zero, List.set_cons_succ, i64_w, i32_w]
                        rfl
                      try simp only [c139b0, Bool.not_true, Bool.not_false]
                      refine pure_ (i := 17) (N := some 45) (v := ?_) (a' := ?_) #[true, true, true, true, true, true, true, true, true, true, true, true, true, true, true, true, true, true, false, false, false, false, false, false, false] rfl rfl (by kernel_rfl) (fun _ _ _ h => h) (Or.inl ⟨by rfl, ?_⟩) ?_ ?_
                      rotate_left
                      · intro w'
                        go_simp
                        with_reducible rfl
                      rotate_left
                      · simp only [Act.put, List.setIfInBounds_toArray, List.set_cons_zero, List.set_cons_succ, i64_w, i32_w]
                        rfl
                      try simp only [c139b0, Bool.not_true, Bool.not_false]
                      refine pure_ (i := 18) (N := some 46) (v := ?_) (a' := ?_) #[true, true, true, true, true, true, true, true, true, true, true, true, true, true, true, true, true, true, true, false, false, false, false, false, false] rfl rfl (by kernel_rfl) (fun _ _ _ h => h) (Or.inl ⟨by rfl, ?_⟩) ?_ ?_
                      rotate_left
                      · intro w'
                        go_simp
                        with_reducible rfl
                      rotate_left
                      · simp only [Act.put, List.setIfInBounds_toArray, List.set_cons_zero, List.set_cons_succ, i64_w, i32_w]
                        rfl
                      try simp only [c130b0, Bool.not_true, Bool.not_false]
                      refine pure_ (i := 19) (N := some 47) (v := undef) (a' := ?_) #[true, true, true, true, true, true, true, true, true, true, true, true, true, true, true, true, true, true, true, true, false, false, false, false, false] rfl rfl (by kernel_rfl) (fun _ _ _ h => h) (Or.inr ⟨by rfl, rfl⟩) ?_ ?_
                      rotate_left
                      · simp only [Act.put, List.setIfInBounds_toArray, List.set_cons_zero, List.set_cons_succ, i64_w, i32_w]
                        rfl
                      try simp only [c130b0, Bool.not_true, Bool.not_false]
                      refine pure_ (i := 20) (N := some 48) (v := undef) (a' := ?_) #[true, true, true, true, true, true, true, true, true, true, true, true, true, true, true, true, true, true, true, true, true, false, false, false, false] rfl rfl (by kernel_rfl) (fun _ _ _ h => h) (Or.inr ⟨by rfl, rfl⟩) ?_ ?_
                      rotate_left
                      · simp only [Act.put, List.setIfInBounds_toArray, List.set_cons_zero, List.set_cons_succ, i64_w, i32_w]
                        rfl
                      try simp only [c130b0, Bool.not_true, Bool.not_false]
                      refine pure_ (i := 21) (N := some 49) (v := undef) (a' := ?_) #[true, true, true, true, true, true, true, true, true, true, true, true, true, true, true, true, true, true, true, true, true, true, false, false, false] rfl rfl (by kernel_rfl) (fun _ _ _ h => h) (Or.inr ⟨by rfl, rfl⟩) ?_ ?_
                      rotate_left
                      · simp only [Act.put, List.setIfInBounds_toArray, List.set_cons_zero, List.set_cons_succ, i64_w, i32_w]
                        rfl
                      try simp only [c139b0, Bool.not_true, Bool.not_false]
                      refine pure_ (i := 22) (N := some 50) (v := ?_) (a' := ?_) #[true, true, true, true, true, true, true, true, true, true, true, true, true, true, true, true, true, true, true, true, true, true, true, false, false] rfl rfl (by kernel_rfl) (fun _ _ _ h => h) (Or.inl ⟨by rfl, ?_⟩) ?_ ?_
                      rotate_left
                      · intro w'
                        go_simp
                        with_reducible rfl
                      rotate_left
                      · simp only [Act.put, List.setIfInBounds_toArray, List.set_cons_zero, List.set_cons_succ, i64_w, i32_w]
                        rfl
                      refine pure_ (i := 23) (N := some 51) (v := ?_) (a' := ?_) #[true, true, true, true, true, true, true, true, true, true, true, true, true, true, true, true, true, true, true, true, true, true, true, true, false] rfl rfl (by kernel_rfl) (fun _ _ _ h => h) (Or.inl ⟨by rfl, ?_⟩) ?_ ?_
                      rotate_left
                      · intro w'
                        go_simp
                        with_reducible rfl
                      rotate_left
                      · simp only [Act.put, List.setIfInBounds_toArray, List.set_cons_zero, List.set_cons_succ, i64_w, i32_w]
                        rfl
                      refine pure_ (i := 24) (N := some 2) (v := ?_) (a' := ?_) #[true, true, true, true, true, true, true, true, true, true, true, true, true, true, true, true, true, true, true, true, true, true, true, true, true] rfl rfl (by kernel_rfl) (fun _ _ _ h => h) (Or.inl ⟨by rfl, ?_⟩) ?_ ?_
                      rotate_left
                      · intro w'
                        go_simp
                        with_reducible rfl
                      rotate_left
                      · simp only [Act.put, List.setIfInBounds_toArray, List.set_cons_zero, List.set_cons_succ, i64_w, i32_w]
                        rfl
                      refine done_ (by kernel_rfl) ?_
                      replace HS : Aside0 (Sep (fps []) w [] w134) := ⟨HS.out.sub (.cons _ .slnil)⟩
                      go_wp2_with fail
                      go_ret
                      rw [← some_eq H]
                      exact ⟨(by first | rfl | (simp [IntKind.wrap_u32]; done)), (HS.out).keep (l := []) (rest := [])⟩
                    · have H := if_no c139 H
                      have c139b0 : decide (a41 < 1048576) = false := decide_eq_false c139
                      clear c139
                      try simp only [c139b0, Bool.not_true, Bool.not_false]
                      refine pure_ (i := 15) (N := some 43) (v := undef) (a' := ?_) #[true, true, true, true, true, true, true, true, true, true, true, true, true, true, true, true, false, false, false, false, false, false, false, false, false] rfl rfl (by kernel_rfl) (fun _ _ _ h => h) (Or.inr ⟨by rfl, rfl⟩) ?_ ?_
                      rotate_left
                      · simp only [Act.put, List.setIfInBounds_toArray, List.set_cons_zero, List.set_cons_succ, i64_w, i32_w]
                        rfl
                      try simp only [c139b0, Bool.not_true, Bool.not_false]
                      refine pure_ (i := 16) (N := some 44) (v := undef) (a' := ?_) #[true, true, true, true, true, true, true, true, true, true, true, true, true, true, true, true, true, false, false, false, false, false, false, false, false] rfl rfl (by kernel_rfl) (fun _ _ _ h => h) (Or.inr ⟨by rfl, rfl⟩) ?_ ?_
                      rotate_left
                      · simp only [Act.put, List.setIfInBounds_toArray, List.set_cons_zero, List.set_cons_succ, i64_w, i32_w]
                        rfl
                      try simp only [c139b0, Bool.not_true, Bool.not_false]
                      refine pure_ (i := 17) (N := some 45) (v := undef) (a' := ?_) #[true, true, true, true, true, true, true, true, true, true, true, true, true, true, true, true, true, true, false, false, false, false, false, false, false] rfl rfl (by kernel_rfl) (fun _ _ _ h => h) (Or.inr ⟨by rfl, rfl⟩) ?_ ?_
                      rotate_left
                      · simp only [Act.put, List.setIfInBounds_toArray, List.set_cons_zero, List.set_cons_succ, i64_w, i32_w]
                        rfl
                      try simp only [c139b0, Bool.not_true, Bool.not_false]
                      refine pure_ (i := 18) (N := some 46) (v := undef) (a' := ?_) #[true, true, true, true, true, true, true, true, true, true, true, true, true, true, true, true, true, true, true, false, false, false, false, false, false] rfl rfl (by kernel_rfl) (fun _ _ _ h => h) (Or.inr ⟨by rfl, rfl⟩) ?_ ?_
                      rotate_left
                      · simp only [Act.put, List.setIfInBounds_toArray, List.set_cons_zero, List.set_cons_succ, i64_w, i32_w]
                        rfl
                      refine pure_ (i := 19) (N := some 47) (v := undef) (a' := ?_) #[true, true, true, true, true, true, true, true, true, true, true, true, true, true, true, true, true, true, true, true, false, false, false, false, false] rfl rfl (by kernel_rfl) (fun _ _ _ h => h) (Or.inr ⟨by rfl, rfl⟩) ?_ ?_
                      rotate_left
                      · simp only [Act.put, List.setIfInBounds_toArray, List.set_cons_zero, List.set_cons_succ, i64_w, i32_w]
                        rfl
                      refine pure_ (i := 20) (N := some 48) (v := undef) (a' := ?_) #[true, true, true, true, true, true, true, true, true, true, true, true, true, true, true, true, true, true, true, true, true, false, false, false, false] rfl rfl (by kernel_rfl) (fun _ _ _ h => h) (Or.inr ⟨by rfl, rfl⟩) ?_ ?_
                      rotate_left
                      · simp only [Act.put, List.setIfInBounds_toArray, List.set_cons_zero, List.set_cons_succ, i64_w, i32_w]
                        rfl
                      refine pure_ (i := 21) (N := some 49) (v := undef) (a' := ?_) #[true, true, true, true, true, true, true, true, true, true, true, true, true, true, true, true, true, true, true, true, true, true, false, false, false] rfl rfl (by kernel_rfl) (fun _ _ _ h => h) (Or.inr ⟨by rfl, rfl⟩) ?_ ?_
                      rotate_left
                      · simp only [Act.put, List.setIfInBounds_toArray, List.set_cons_zero, List.set_cons_succ, i64_w, i32_w]
                        rfl
                      try simp only [c139b0, Bool.not_true, Bool.not_false]
                      refine pure_ (i := 22) (N := some 50) (v := undef) (a' := ?_) #[true, true, true, true, true, true, true, true, true, true, true, true, true, true, true, true, true, true, true, true, true, true, true, false, false] rfl rfl (by kernel_rfl) (fun _ _ _ h => h) (Or.inr ⟨by rfl, rfl⟩) ?_ ?_
                      rotate_left
                      · simp only [Act.put, List.setIfInBounds_toArray, List.set_cons_zero, List.set_cons_succ, i64_w, i32_w]
                        rfl
                      refine pure_ (i := 23) (N := some 51) (v := ?_) (a' := ?_) #[true, true, true, true, true, true, true, true, true, true, true, true, true, true, true, true, true, true, true, true, true, true, true, true, false] rfl rfl (by kernel_rfl) (fun _ _ _ h => h) (Or.inl ⟨by rfl, ?_⟩) ?_ ?_
                      rotate_left
                      · intro w'
                        go_simp
                        with_reducible rfl
                      rotate_left
                      · simp only [Act.put, List.setIfInBounds_toArray, List.set_cons_zero, List.set_cons_succ, i64_w, i32_w]
                        rfl
                      refine pure_ (i := 24) (N := some 2) (v := ?_) (a' := ?_) #[true, true, true, true, true, true, true, true, true, true, true, true, true, true, true, true, true, true, true, true, true, true, true, true, true] rfl rfl (by kernel_rfl) (fun _ _ _ h => h) (Or.inl ⟨by rfl, ?_⟩) ?_ ?_
                      rotate_left
                      · intro w'
                        go_simp
                        with_reducible rfl
                      rotate_left
                      · simp only [Act.put, List.setIfInBounds_toArray, List.set_cons_zero, List.set_cons_succ, i64_w, i32_w]
                        rfl
                      refine done_ (by kernel_rfl) ?_
                      replace HS : Aside0 (Sep (fps []) w [] w134) := ⟨HS.out.sub (.cons _ .slnil)⟩
                      go_wp2_with fail
                      go_ret
                      rw [← some_eq H]
                      exact ⟨(by first | rfl | (simp [IntKind.wrap_u32]; done)), (HS.out).keep (l := []) (rest := [])⟩
                  · have H := if_no c138 H
                    have c138b0 : decide (0 ≤ a41) = false := decide_eq_false c138
                    clear c138
                    try simp only [c138b0, Bool.not_true, Bool.not_false]
                    refine pure_ (i := 10) (N := some 38) (v := undef) (a' := ?_) #[true, true, true, true, true, true, true, true, true, true, true, false, false, false, false, false, false, false, false, false, false, false, false, false, false] rfl rfl (by kernel_rfl) (fun _ _ _ h => h) (Or.inr ⟨by rfl, rfl⟩) ?_ ?_
                    rotate_left
                    · simp only [Act.put, List.setIfInBounds_toArray, List.set_cons_zero, List.set_cons_succ, i64_w, i32_w]
                      rfl
                    try simp only [c138b0, Bool.not_true, Bool.not_false]
                    refine pure_ (i := 11) (N := some 39) (v := undef) (a' := ?_) #[true, true, true, true, true, true, true, true, true, true, true, true, false, false, false, false, false, false, false, false, false, false, false, false, false] rfl rfl (by kernel_rfl) (fun _ _ _ h => h) (Or.inr ⟨by rfl, rfl⟩) ?_ ?_
                    rotate_left
                    · simp only [Act.put, List.setIfInBounds_toArray, List.set_cons_zero, List.set_cons_succ, i64_w, i32_w]
                      rfl
                    try simp only [c138b0, Bool.not_true, Bool.not_false]
                    refine pure_ (i := 12) (N := some 40) (v := undef) (a' := ?_) #[true, true, true, true, true, true, true, true, true, true, true, true, true, false, false, false, false, false, false, false, false, false, false, false, false] rfl rfl (by kernel_rfl) (fun _ _ _ h => h) (Or.inr ⟨by rfl, rfl⟩) ?_ ?_
                    rotate_left
                    · simp only [Act.put, List.setIfInBounds_toArray, List.set_cons_zero, List.set_cons_succ, i64_w, i32_w]
                      rfl
                    refine pure_ (i := 13) (N := some 41) (v := ?_) (a' := ?_) #[true, true, true, true, true, true, true, true, true, true, true, true, true, true, false, false, false, false, false, false, false, false, false, false, false] rfl rfl (by kernel_rfl) (fun _ _ _ h => h) (Or.inl ⟨by rfl, ?_⟩) ?_ ?_
                    rotate_left
                    · intro w'
                      go_simp
                      with_reducible rfl
                    rotate_left
                    · simp only [Act.put, List.setIfInBounds_toArray, List.set_cons_zero, List.set_cons_succ, i64_w, i32_w]
                      rfl
                    refine pure_ (i := 14) (N := some 42) (v := ?_) (a' := ?_) #[true, true, true, true, true, true, true, true, true, true, true, true, true, true, true, false, false, false, false, false, false, false, false, false, false] rfl rfl (by kernel_rfl) (fun _ _ _ h => h) (Or.inl ⟨by rfl, ?_⟩) ?_ ?_
                    rotate_left
                    · intro w'
                      go_simp
                      with_reducible rfl
                    rotate_left
                    · simp only [Act.put, List.setIfInBounds_toArray, List.set_cons_zero, List.set_cons_succ, i64_w, i32_w]
                      rfl
                    refine pure_ (i := 15) (N := some 43) (v := undef) (a' := ?_) #[true, true, true, true, true, true, true, true, true, true, true, true, true, true, true, true, false, false, false, false, false, false, false, false, false] rfl rfl (by kernel_rfl) (fun _ _ _ h => h) (Or.inr ⟨by rfl, rfl⟩) ?_ ?_
                    rotate_left
                    · simp only [Act.put, List.setIfInBounds_toArray, List.set_cons_zero, List.set_cons_succ, i64_w, i32_w]
                      rfl
                    refine pure_ (i := 16) (N := some 44) (v := undef) (a' := ?_) #[true, true, true, true, true, true, true, true, true, true, true, true, true, true, true, true, true, false, false, false, false, false, false, false, false] rfl rfl (by kernel_rfl) (fun _ _ _ h => h) (Or.inr ⟨by rfl, rfl⟩) ?_ ?_
                    rotate_left
                    · simp only [Act.put, List.setIfInBounds_toArray, List.set_cons_zero, List.set_cons_succ, i64_w, i32_w]
                      rfl
                    refine pure_ (i := 17) (N := some 45) (v := undef) (a' := ?_) #[true, true, true, true, true, true, true, true, true, true, true, true, true, true, true, true, true, true, false, false, false, false, false, false, false] rfl rfl (by kernel_rfl) (fun _ _ _ h => h) (Or.inr ⟨by rfl, rfl⟩) ?_ ?_
                    rotate_left
                    · simp only [Act.put, List.setIfInBounds_toArray, List.set_cons_zero, List.set_cons_succ, i64_w, i32_w]
                      rfl
                    refine pure_ (i := 18) (N := some 46) (v := undef) (a' := ?_) #[true, true, true, true, true, true, true, true, true, true, true, true, true, true, true, true, true, true, true, false, false, false, false, false, false] rfl rfl (by kernel_rfl) (fun _ _ _ h => h) (Or.inr ⟨by rfl, rfl⟩) ?_ ?_
                    rotate_left
                    · simp only [Act.put, List.setIfInBounds_toArray, List.set_cons_zero, List.set_cons_succ, i64_w, i32_w]
                      rfl
                    refine pure_ (i := 19) (N := some 47) (v := undef) (a' := ?_) #[true, true, true, true, true, true, true, true, true, true, true, true, true, true, true, true, true, true, true, true, false, false, false, false, false] rfl rfl (by kernel_rfl) (fun _ _ _ h => h) (Or.inr ⟨by rfl, rfl⟩) ?_ ?_
                    rotate_left
                    · simp only [Act.put, List.setIfInBounds_toArray, List.set_cons_zero, List.set_cons_succ, i64_w, i32_w]
                      rfl
                    refine pure_ (i := 20) (N := some 48) (v := undef) (a' := ?_) #[true, true, true, true, true, true, true, true, true, true, true, true, true, true, true, true, true, true, true, true, true, false, false, false, false] rfl rfl (by kernel_rfl) (fun _ _ _ h => h) (Or.inr ⟨by rfl, rfl⟩) ?_ ?_
                    rotate_left
                    · simp only [Act.put, List.setIfInBounds_toArray, List.set_cons_zero, List.set_cons_succ, i64_w, i32_w]
                      rfl
                    refine pure_ (i := 21) (N := some 49) (v := undef) (a' := ?_) #[true, true, true, true, true, true, true, true, true, true, true, true, true, true, true, true, true, true, true, true, true, true, false, false, false] rfl rfl (by kernel_rfl) (fun _ _ _ h => h) (Or.inr ⟨by rfl, rfl⟩) ?_ ?_
                    rotate_left
                    · simp only [Act.put, List.setIfInBounds_toArray, List.set_cons_zero, List.set_cons_succ, i64_w, i32_w]
                      rfl
                    refine pure_ (i := 22) (N := some 50) (v := undef) (a' := ?_) #[true, true, true, true, true, true, true, true, true, true, true, true, true, true, true, true, true, true, true, true, true, true, true, false, false] rfl rfl (by kernel_rfl) (fun _ _ _ h => h) (Or.inr ⟨by rfl, rfl⟩) ?_ ?_
                    rotate_left
                    · simp only [Act.put, List.setIfInBounds_toArray, List.set_cons_zero, List.set_cons_succ, i64_w, i32_w]
                      rfl
                    refine pure_ (i := 23) (N := some 51) (v := ?_) (a' := ?_) #[true, true, true, true, true, true, true, true, true, true, true, true, true, true, true, true, true, true, true, true, true, true, true, true, false] rfl rfl (by kernel_rfl) (fun _ _ _ h => h) (Or.inl ⟨by rfl, ?_⟩) ?_ ?_
                    rotate_left
                    · intro w'
                      go_simp
                      with_reducible rfl
                    rotate_left
                    · simp only [Act.put, List.setIfInBounds_toArray, List.set_cons_zero, List.set_cons_succ, i64_w, i32_w]
                      rfl
                    refine pure_ (i := 24) (N := some 2) (v := ?_) (a' := ?_) #[true, true, true, true, true, true, true, true, true, true, true, true, true, true, true, true, true, true, true, true, true, true, true, true, true] rfl rfl (by kernel_rfl) (fun _ _ _ h => h) (Or.inl ⟨by rfl, ?_⟩) ?_ ?_
                    rotate_left
                    · intro w'
                      go_simp
                      with_reducible rfl
                    rotate_left
                    · simp only [Act.put, List.setIfInBounds_toArray, List.set_cons_zero, List.set_cons_succ, i64_w, i32_w]
                      rfl
                    refine done_ (by kernel_rfl) ?_
                    replace HS : Aside0 (Sep (fps []) w [] w134) := ⟨HS.out.sub (.cons _ .slnil)⟩
                    go_wp2_with fail
                    go_ret
                    rw [← some_eq H]
                    exact ⟨(by first | rfl | (simp [IntKind.wrap_u32]; done)), (HS.out).keep (l := []) (rest := [])⟩
                · have H := if_no c137 H
                  have c137b0 : b124 = false := by simpa using c137
                  have c137b1 : (!b124) = true := by rw [c137b0]; rfl
                  clear c137
                  try simp only [c137b0, Bool.not_true, Bool.not_false]
                  refine pure_ (i := 5) (N := some 33) (v := undef) (a' := ?_) #[true, true, true, true, true, true, false, false, false, false, false, false, false, false, false, false, false, false, false, false, false, false, false, false, false] rfl rfl (by kernel_rfl) (fun _ _ _ h => h) (Or.inr ⟨by rfl, rfl⟩) ?_ ?_
                  rotate_left
                  · simp only [Act.put, List.setIfInBounds_toArray, List.set_cons_zero, List.set_cons_succ, i64_w, i32_w]
                    rfl
                  try simp only [c137b0, Bool.not_true, Bool.not_false]
                  refine pure_ (i := 6) (N := some 34) (v := undef) (a' := ?_) #[true, true, true, true, true, true, true, false, false, false, false, false, false, false, false, false, false, false, false, false, false, false, false, false, false] rfl rfl (by kernel_rfl) (fun _ _ _ h => h) (Or.inr ⟨by rfl, rfl⟩) ?_ ?_
                  rotate_left
                  · simp only [Act.put, List.setIfInBounds_toArray, List.set_cons_zero, List.set_cons_succ, i64_w, i32_w]
                    rfl
                  try simp only [c137b0, Bool.not_true, Bool.not_false]
                  refine pure_ (i := 7) (N := some 35) (v := undef) (a' := ?_) #[true, true, true, true, true, true, true, true, false, false, false, false, false, false, false, false, false, false, false, false, false, false, false, false, false] rfl rfl (by kernel_rfl) (fun _ _ _ h => h) (Or.inr ⟨by rfl, rfl⟩) ?_ ?_
                  rotate_left
                  · simp only [Act.put, List.setIfInBounds_toArray, List.set_cons_zero, List.set_cons_succ, i64_w, i32_w]
                    rfl
                  refine pure_ (i := 8) (N := some 36) (v := ?_) (a' := ?_) #[true, true, true, true, true, true, true, true, true, false, false, false, false, false, false, false, false, false, false, false, false, false, false, false, false] rfl rfl (by kernel_rfl) (fun _ _ _ h => h) (Or.inl ⟨by rfl, ?_⟩) ?_ ?_
                  rotate_left
                  · intro w'
                    go_simp
                    with_reducible rfl
                  rotate_left
                  · simp only [Act.put, List.setIfInBounds_toArray, List.set_cons_zero, List.set_cons_succ, i64_w, i32_w]
                    rfl
                  refine pure_ (i := 9) (N := some 37) (v := ?_) (a' := ?_) #[true, true, true, true, true, true, true, true, true, true, false, false, false, false, false, false, false, false, false, false, false, false, false, false, false] rfl rfl (by kernel_rfl) (fun _ _ _ h => h) (Or.inl ⟨by rfl, ?_⟩) ?_ ?_
                  rotate_left
                  · intro w'
                    go_simp
                    with_reducible rfl
                  rotate_left
                  · simp only [Act.put, List.setIfInBounds_toArray, List.set_cons_zero, List.set_cons_succ, i64_w, i32_w]
                    rfl
                  refine pure_ (i := 10) (N := some 38) (v := undef) (a' := ?_) #[true, true, true, true, true, true, true, true, true, true, true, false, false, false, false, false, false, false, false, false, false, false, false, false, false] rfl rfl (by kernel_rfl) (fun _ _ _ h => h) (Or.inr ⟨by rfl, rfl⟩) ?_ ?_
                  rotate_left
                  · simp only [Act.put, List.setIfInBounds_toArray, List.set_cons_zero, List.set_cons_succ, i64_w, i32_w]
                    rfl
                  refine pure_ (i := 11) (N := some 39) (v := undef) (a' := ?_) #[true, true, true, true, true, true, true, true, true, true, true, true, false, false, false, false, false, false, false, false, false, false, false, false, false] rfl rfl (by kernel_rfl) (fun _ _ _ h => h) (Or.inr ⟨by rfl, rfl⟩) ?_ ?_
                  rotate_left
                  · simp only [Act.put, List.setIfInBounds_toArray, List.set_cons_zero, List.set_cons_succ, i64_w, i32_w]
                    rfl
                  refine pure_ (i := 12) (N := some 40) (v := undef) (a' := ?_) #[true, true, true, true, true, true, true, true, true, true, true, true, true, false, false, false, false, false, false, false, false, false, false, false, false] rfl rfl (by kernel_rfl) (fun _ _ _ h => h) (Or.inr ⟨by rfl, rfl⟩) ?_ ?_
                  rotate_left
                  · simp only [Act.put, List.setIfInBounds_toArray, List.set_cons_zero, List.set_cons_succ, i64_w, i32_w]
                    rfl
                  refine pure_ (i := 13) (N := some 41) (v := ?_) (a' := ?_) #[true, true, true, true, true, true, true, true, true, true, true, true, true, true, false, false, false, false, false, false, false, false, false, false, false] rfl rfl (by kernel_rfl) (fun _ _ _ h => h) (Or.inl ⟨by rfl, ?_⟩) ?_ ?_
                  rotate_left
                  · intro w'
                    go_simp
                    with_reducible rfl
                  rotate_left
                  · simp only [Act.put, List.setIfInBounds_toArray, List.set_cons_zero, List.set_cons_succ, i64_w, i32_w]
                    rfl
                  refine pure_ (i := 14) (N := some 42) (v := ?_) (a' := ?_) #[true, true, true, true, true, true, true, true, true, true, true, true, true, true, true, false, false, false, false, false, false, false, false, false, false] rfl rfl (by kernel_rfl) (fun _ _ _ h => h) (Or.inl ⟨by rfl, ?_⟩) ?_ ?_
                  rotate_left
                  · intro w'
                    go_simp
                    with_reducible rfl
                  rotate_left
                  · simp only [Act.put, List.setIfInBounds_toArray, List.set_cons_zero, List.set_cons_succ, i64_w, i32_w]
                    rfl
                  refine pure_ (i := 15) (N := some 43) (v := undef) (a' := ?_) #[true, true, true, true, true, true, true, true, true, true, true, true, true, true, true, true, false, false, false, false, false, false, false, false, false] rfl rfl (by kernel_rfl) (fun _ _ _ h => h) (Or.inr ⟨by rfl, rfl⟩) ?_ ?_
                  rotate_left
                  · simp only [Act.put, List.setIfInBounds_toArray, List.set_cons_zero, List.set_cons_succ, i64_w, i32_w]
                    rfl
                  refine pure_ (i := 16) (N := some 44) (v := undef) (a' := ?_) #[true, true, true, true, true, true, true, true, true, true, true, true, true, true, true, true, true, false, false, false, false, false, false, false, false] rfl rfl (by kernel_rfl) (fun _ _ _ h => h) (Or.inr ⟨by rfl, rfl⟩) ?_ ?_
                  rotate_left
                  · simp only [Act.put, List.setIfInBounds_toArray, List.set_cons_zero, List.set_cons_succ, i64_w, i32_w]
                    rfl
                  refine pure_ (i := 17) (N := some 45) (v := undef) (a' := ?_) #[true, true, true, true, true, true, true, true, true, true, true, true, true, true, true, true, true, true, false, false, false, false, false, false, false] rfl rfl (by kernel_rfl) (fun _ _ _ h => h) (Or.inr ⟨by rfl, rfl⟩) ?_ ?_
                  rotate_left
                  · simp only [Act.put, List.setIfInBounds_toArray, List.set_cons_zero, List.set_cons_succ, i64_w, i32_w]
                    rfl
                  refine pure_ (i := 18) (N := some 46) (v := undef) (a' := ?_) #[true, true, true, true, true, true, true, true, true, true, true, true, true, true, true, true, true, true, true, false, false, false, false, false, false] rfl rfl (by kernel_rfl) (fun _ _ _ h => h) (Or.inr ⟨by rfl, rfl⟩) ?_ ?_
                  rotate_left
                  · simp only [Act.put, List.setIfInBounds_toArray, List.set_cons_zero, List.set_cons_succ, i64_w, i32_w]
                    rfl
                  refine pure_ (i := 19) (N := some 47) (v := undef) (a' := ?_) #[true, true, true, true, true, true, true, true, true, true, true, true, true, true, true, true, true, true, true, true, false, false, false, false, false] rfl rfl (by kernel_rfl) (fun _ _ _ h => h) (Or.inr ⟨by rfl, rfl⟩) ?_ ?_
                  rotate_left
                  · simp only [Act.put, List.setIfInBounds_toArray, List.set_cons_zero, List.set_cons_succ, i64_w, i32_w]
                    rfl
                  refine pure_ (i := 20) (N := some 48) (v := undef) (a' := ?_) #[true, true, true, true, true, true, true, true, true, true, true, true, true, true, true, true, true, true, true, true, true, false, false, false, false] rfl rfl (by kernel_rfl) (fun _ _ _ h => h) (Or.inr ⟨by rfl, rfl⟩) ?_ ?_
                  rotate_left
                  · simp only [Act.put, List.setIfInBounds_toArray, List.set_cons_zero, List.set_cons_succ, i64_w, i32_w]
                    rfl
                  refine pure_ (i := 21) (N := some 49) (v := undef) (a' := ?_) #[true, true, true, true, true, true, true, true, true, true, true, true, true, true, true, true, true, true, true, true, true, true, false, false, false] rfl rfl (by kernel_rfl) (fun _ _ _ h => h) (Or.inr ⟨by rfl, rfl⟩) ?_ ?_
                  rotate_left
                  · simp only [Act.put, List.setIfInBounds_toArray, List.set_cons_zero, List.set_cons_succ, i64_w, i32_w]
                    rfl
                  refine pure_ (i := 22) (N := some 50) (v := undef) (a' := ?_) #[true, true, true, true, true, true, true, true, true, true, true, true, true, true, true, true, true, true, true, true, true, true, true, false, false] rfl rfl (by kernel_rfl) (fun _ _ _ h => h) (Or.inr ⟨by rfl, rfl⟩) ?_ ?_
                  rotate_left
                  · simp only [Act.put, List.setIfInBounds_toArray, List.set_cons_zero, List.set_cons_succ, i64_w, i32_w]
                    rfl
                  refine pure_ (i := 23) (N := some 51) (v := ?_) (a' := ?_) #[true, true, true, true, true, true, true, true, true, true, true, true, true, true, true, true, true, true, true, true, true, true, true, true, false] rfl rfl (by kernel_rfl) (fun _ _ _ h => h) (Or.inl ⟨by rfl, ?_⟩) ?_ ?_
                  rotate_left
                  · intro w'
                    go_simp
                    with_reducible rfl
                  rotate_left
                  · simp only [Act.put, List.setIfInBounds_toArray, List.set_cons_zero, List.set_cons_succ, i64_w, i32_w]
                    rfl
                  refine pure_ (i := 24) (N := some 2) (v := ?_) (a' := ?_) #[true, true, true, true, true, true, true, true, true, true, true, true, true, true, true, true, true, true, true, true, true, true, true, true, true] rfl rfl (by kernel_rfl) (fun _ _ _ h => h) (Or.inl ⟨by rfl, ?_⟩) ?_ ?_
                  rotate_left
                  · intro w'
                    go_simp
                    with_reducible rfl
                  rotate_left
                  · simp only [Act.put, List.setIfInBounds_toArray, List.set_cons_zero, List.set_cons_succ, i64_w, i32_w]
                    rfl
                  refine done_ (by kernel_rfl) ?_
                  replace HS : Aside0 (Sep (fps []) w [] w134) := ⟨HS.out.sub (.cons _ .slnil)⟩
                  go_wp2_with fail
                  go_ret
                  rw [← some_eq H]
                  exact ⟨(by first | rfl | (simp [IntKind.wrap_u32]; done)), (HS.out).keep (l := []) (rest := [])⟩
              · have H := if_no c130 H
                have c130b0 : (a35 == 3) = false := beq_eq_false_iff_ne.mpr c130
                have c130b1 : (a35 != 3) = true := bne_iff_ne.mpr c130
                clear c130
                have hc112 : w103.cell? ⟨g42, 0, none⟩ = some (.int .i64 a35) := blk_cellv (HS.out.at0) 0 rfl
                replace HS : Aside0 (Sep (fps []) w [] w103) := ⟨HS.out.sub (.cons _ .slnil)⟩
                go_wp2_with fail
                clear hc112
                go_ret
                rw [← some_eq H]
                exact ⟨(by first | rfl | (simp [IntKind.wrap_u32]; done)), (HS.out).keep (l := []) (rest := [])⟩

set_option maxHeartbeats 30000000 in
set_option maxRecDepth 100000 in
theorem pack_total.calls (k : Nat) (l229 : List Int) (A230 : Option Addr) (n231 : Nat) (r : Int) (w : World) (HR232 : Aside0 (Rd (Kd.int .i64) (fps []) w A230 l229.length l229)) (HGl0 : Aside0 (Gl 0 #[.int .i64 0, .int .i64 0, .int .i64 0, .int .i64 0, .int .i64 0] (fps []) w)) (HGl1 : Aside0 (Gl 1 #[.string (⟨#[102, 114, 101, 101]⟩), .string (⟨#[115, 109, 97, 108, 108]⟩), .string (⟨#[115, 112, 105, 110, 101]⟩), .string (⟨#[108, 101, 97, 102]⟩)] (fps []) w)) (HS : Aside0 (Sep (fps []) w [] w)) (H : Aside0 (pack_total.f k l229 = some r)) :
    Calls Tryd.prog 39 #[.slice A230 l229.length n231] w fun e w' => e = .returned (.int .i64 r) ∧ Sep (fps []) w [] w' := by
  unfold pack_total.f at H
  go_enter Tryd.func39, Tryd.ntmps39
  go_wp2_with fail
  obtain ⟨o245, AL246, H⟩ := bind_some H
  go_loopg [3, 8] k (fun kq v3 v8 wc => ∃ (x249 : Int) (x250 : Int), v3 = .int .i64 x249 ∧ v8 = .int .i64 x250 ∧ Aside0 (pack_total.lo0 kq l229 x249 x250 = some o245) ∧ Aside0 (Sep (fps []) w [] wc))
  case atStart => exact ⟨(0), (0), (by first | rfl | (simp [IntKind.wrap_u32]; done)), (by first | rfl | (simp [IntKind.wrap_u32]; done)), AL246, ⟨HS.out⟩⟩
  case round =>
    clear AL246 HS
    obtain ⟨x249, x250, rfl, rfl, AL246, HS⟩ := hrel
    obtain ⟨w247, rfl⟩ : ∃ x : World, x = wr := ⟨_, rfl⟩
    cases gk with
    | zero => exact absurd AL246.out (by simp [pack_total.lo0])
    | succ k248 =>
      have AL0 := AL246.out
      rw [pack_total.lo0] at AL0
      clear AL246
      have AL246 := Aside0.mk AL0
      clear AL0
      by_cases c251 : x250 < (l229.length : Int)
      · have AL246 := if_yes c251 AL246
        have c251b0 : decide (x250 < (l229.length : Int)) = true := decide_eq_true c251
        clear c251
        by_cases c252 : 0 ≤ x250
        · have AL246 := if_yes c252 AL246
          have c252b0 : decide (0 ≤ x250) = true := decide_eq_true c252
          have c252p : (0 ≤ x250) = True := eq_true c252
          clear c252
          have ip253 : (x250 < (l229.length : Int)) = True := eq_true (of_decide_eq_true c251b0)
          by_cases c255 : (rd l229 x250) < 1
          · have AL246 := if_yes c255 AL246
            have c255b0 : decide ((rd l229 x250) < 1) = true := decide_eq_true c255
            clear c255
            obtain ⟨hx254a, hx254e, hx254⟩ := Kd.at_int (Rd.read (fun _ _ _ _ h => h) HR232.out HS.out.fr) x250 (of_decide_eq_true c252b0) (of_decide_eq_true c251b0); cases hx254e
            go_wp2_with fail
            clear hx254
            have ho := some_eq AL246
            subst ho
            have H := lp_ret H
            go_ret
            rw [← some_eq H]
            exact ⟨(by first | rfl | (simp [IntKind.wrap_u32]; done)), (HS.out).keep (l := []) (rest := [])⟩
          · have AL246 := if_no c255 AL246
            have c255b0 : decide ((rd l229 x250) < 1) = false := decide_eq_false c255
            clear c255
            by_cases c256 : (rd l229 x250) > (wrap64 (32 - x249))
            · have AL246 := if_yes c256 AL246
              have c256b0 : decide ((wrap64 (32 - x249)) < (rd l229 x250)) = true := decide_eq_true c256
              clear c256
              obtain ⟨hx254a, hx254e, hx254⟩ := Kd.at_int (Rd.read (fun _ _ _ _ h => h) HR232.out HS.out.fr) x250 (of_decide_eq_true c252b0) (of_decide_eq_true c251b0); cases hx254e
              go_wp2_with fail
              clear hx254
              have ho := some_eq AL246
              subst ho
              have H := lp_ret H
              go_ret
              rw [← some_eq H]
              exact ⟨(by first | rfl | (simp [IntKind.wrap_u32]; done)), (HS.out).keep (l := []) (rest := [])⟩
            · have AL246 := if_no c256 AL246
              have c256b0 : decide ((wrap64 (32 - x249)) < (rd l229 x250)) = false := decide_eq_false c256
              clear c256
              obtain ⟨hx254a, hx254e, hx254⟩ := Kd.at_int (Rd.read (fun _ _ _ _ h => h) HR232.out HS.out.fr) x250 (of_decide_eq_true c252b0) (of_decide_eq_true c251b0); cases hx254e
              go_wp2_with fail
              clear hx254
              go_roundg k248
              case measure => exact Nat.lt_succ_self _
              case rel => exact ⟨(wrap64 (x249 + (rd l229 x250))), (wrap64 (x250 + 1)), (by first | rfl | (simp [IntKind.wrap_u32]; done)), (by first | rfl | (simp [IntKind.wrap_u32]; done)), Aside0.mk AL246.out, ⟨(HS.out).keep (l := []) (rest := [])⟩⟩
        · have AL246 := if_no c252 AL246
          have c252b0 : decide (0 ≤ x250) = false := decide_eq_false c252
          clear c252
          exact (none_no AL246).elim
      · have AL246 := if_no c251 AL246
        have c251b0 : decide (x250 < (l229.length : Int)) = false := decide_eq_false c251
        clear c251
        have ho := some_eq AL246
        subst ho
        clear AL246
        have H := lp_out H
        go_wp2_with fail
        go_ret
        rw [← some_eq H]
        exact ⟨(by first | rfl | (simp [IntKind.wrap_u32]; done)), (HS.out).keep (l := []) (rest := [])⟩

set_option maxHeartbeats 30000000 in
set_option maxRecDepth 100000 in
theorem pack_isPiece.calls (a281 : Int) (a282 : Int) (r : Bool) (w : World)  (HGl0 : Aside0 (Gl 0 #[.int .i64 0, .int .i64 0, .int .i64 0, .int .i64 0, .int .i64 0] (fps []) w)) (HGl1 : Aside0 (Gl 1 #[.string (⟨#[102, 114, 101, 101]⟩), .string (⟨#[115, 109, 97, 108, 108]⟩), .string (⟨#[115, 112, 105, 110, 101]⟩), .string (⟨#[108, 101, 97, 102]⟩)] (fps []) w)) (HS : Aside0 (Sep (fps []) w [] w)) (H : Aside0 (pack_isPiece.f a281 a282 = some r)) :
    Calls Tryd.prog 46 #[.int .i64 a281, .int .i64 a282] w fun e w' => e = .returned (.bool r) ∧ Sep (fps []) w [] w' := by
  unfold pack_isPiece.f at H
  go_enter Tryd.func46, Tryd.ntmps46
  by_cases c283 : a281 ≥ 0
  · have H := if_yes c283 H
    have c283b0 : decide (0 ≤ a281) = true := decide_eq_true c283
    clear c283
    by_cases c284 : a282 ≥ 1
    · have H := if_yes c284 H
      have c284b0 : decide (1 ≤ a282) = true := decide_eq_true c284
      clear c284
      by_cases c285 : a282 ≤ 32
      · have H := if_yes c285 H
        have c285b0 : decide (a282 ≤ 32) = true := decide_eq_true c285
        clear c285
        go_wp2_with fail
        go_ret
        rw [← some_eq H]
        exact ⟨(by first | rfl | (simp [IntKind.wrap_u32]; done)), (HS.out).keep (l := []) (rest := [])⟩
      · have H := if_no c285 H
        have c285b0 : decide (a282 ≤ 32) = false := decide_eq_false c285
        clear c285
        go_wp2_with fail
        go_ret
        rw [← some_eq H]
        exact ⟨(by first | rfl | (simp [IntKind.wrap_u32]; done)), (HS.out).keep (l := []) (rest := [])⟩
    · have H := if_no c284 H
      have c284b0 : decide (1 ≤ a282) = false := decide_eq_false c284
      clear c284
      go_wp2_with fail
      go_ret
      rw [← some_eq H]
      exact ⟨(by first | rfl | (simp [IntKind.wrap_u32]; done)), (HS.out).keep (l := []) (rest := [])⟩
  · have H := if_no c283 H
    have c283b0 : decide (0 ≤ a281) = false := decide_eq_false c283
    clear c283
    go_wp2_with fail
    go_ret
    rw [← some_eq H]
    exact ⟨(by first | rfl | (simp [IntKind.wrap_u32]; done)), (HS.out).keep (l := []) (rest := [])⟩

set_option maxHeartbeats 30000000 in
set_option maxRecDepth 100000 in
theorem pack_Fits.calls (a290 : Int) (a291 : Int) (r : Bool) (w : World)  (HGl0 : Aside0 (Gl 0 #[.int .i64 0, .int .i64 0, .int .i64 0, .int .i64 0, .int .i64 0] (fps []) w)) (HGl1 : Aside0 (Gl 1 #[.string (⟨#[102, 114, 101, 101]⟩), .string (⟨#[115, 109, 97, 108, 108]⟩), .string (⟨#[115, 112, 105, 110, 101]⟩), .string (⟨#[108, 101, 97, 102]⟩)] (fps []) w)) (HS : Aside0 (Sep (fps []) w [] w)) (H : Aside0 (pack_Fits.f a290 a291 = some r)) :
    Calls Tryd.prog 49 #[.int .u32 a290, .int .i64 a291] w fun e w' => e = .returned (.bool r) ∧ Sep (fps []) w [] w' := by
  unfold pack_Fits.f at H
  go_enter Tryd.func49, Tryd.ntmps49
  by_cases c292 : a291 ≥ 32
  · have H := if_yes c292 H
    have c292b0 : decide (32 ≤ a291) = true := decide_eq_true c292
    clear c292
    go_wp2_with fail
    go_ret
    rw [← some_eq H]
    exact ⟨(by first | rfl | (simp [IntKind.wrap_u32]; done)), (HS.out).keep (l := []) (rest := [])⟩
  · have H := if_no c292 H
    have c292b0 : decide (32 ≤ a291) = false := decide_eq_false c292
    clear c292
    by_cases c293 : a291 < 0
    · have H := if_yes c293 H
      have c293b0 : decide (a291 < 0) = true := decide_eq_true c293
      skip
      go_wp2_with fail
      clear c293
      go_ret
      rw [← some_eq H]
      exact ⟨(by first | rfl | (simp [IntKind.wrap_u32]; done)), (HS.out).keep (l := []) (rest := [])⟩
    · have H := if_no c293 H
      have c293b0 : decide (a291 < 0) = false := decide_eq_false c293
      by_cases c294 : 0 ≤ (IntKind.u64.wrap (a291))
      · have H := if_yes c294 H
        have c294b0 : decide (0 ≤ (IntKind.u64.wrap (a291))) = true := decide_eq_true c294
        skip
        skip
        go_wp2_with fail
        clear c293 c294
        go_ret
        rw [← some_eq H]
        exact ⟨(by first | rfl | (simp [IntKind.wrap_u32]; done)), (HS.out).keep (l := []) (rest := [])⟩
      · have H := if_no c294 H
        have c294b0 : decide (0 ≤ (IntKind.u64.wrap (a291))) = false := decide_eq_false c294
        exact (none_no H).elim

set_option maxHeartbeats 30000000 in
set_option maxRecDepth 100000 in
theorem pack_mask.calls (a299 : Int) (a300 : Int) (r : Int) (w : World)  (HGl0 : Aside0 (Gl 0 #[.int .i64 0, .int .i64 0, .int .i64 0, .int .i64 0, .int .i64 0] (fps []) w)) (HGl1 : Aside0 (Gl 1 #[.string (⟨#[102, 114, 101, 101]⟩), .string (⟨#[115, 109, 97, 108, 108]⟩), .string (⟨#[115, 112, 105, 110, 101]⟩), .string (⟨#[108, 101, 97, 102]⟩)] (fps []) w)) (HS : Aside0 (Sep (fps []) w [] w)) (H : Aside0 (pack_mask.f a299 a300 = some r)) :
    Calls Tryd.prog 47 #[.int .i64 a299, .int .i64 a300] w fun e w' => e = .returned (.int .u32 r) ∧ Sep (fps []) w [] w' := by
  unfold pack_mask.f at H
  go_enter Tryd.func47, Tryd.ntmps47
  by_cases c301 : 0 ≤ (IntKind.u64.wrap (a300))
  · have H := if_yes c301 H
    have c301b0 : decide (0 ≤ (IntKind.u64.wrap (a300))) = true := decide_eq_true c301
    by_cases c302 : 0 ≤ (IntKind.u64.wrap (a299))
    · have H := if_yes c302 H
      have c302b0 : decide (0 ≤ (IntKind.u64.wrap (a299))) = true := decide_eq_true c302
      skip
      skip
      go_wp2_with fail
      clear c301 c302
      go_ret
      rw [← some_eq H]
      exact ⟨(by first | rfl | (simp [IntKind.wrap_u32]; done)), (HS.out).keep (l := []) (rest := [])⟩
    · have H := if_no c302 H
      have c302b0 : decide (0 ≤ (IntKind.u64.wrap (a299))) = false := decide_eq_false c302
      exact (none_no H).elim
  · have H := if_no c301 H
    have c301b0 : decide (0 ≤ (IntKind.u64.wrap (a300))) = false := decide_eq_false c301
    exact (none_no H).elim

set_option maxHeartbeats 30000000 in
set_option maxRecDepth 100000 in
theorem pack_Put.calls (a277 : Int) (a278 : Int) (a279 : Int) (a280 : Int) (r : Int × Int) (w : World)  (HGl0 : Aside0 (Gl 0 #[.int .i64 0, .int .i64 0, .int .i64 0, .int .i64 0, .int .i64 0] (fps []) w)) (HGl1 : Aside0 (Gl 1 #[.string (⟨#[102, 114, 101, 101]⟩), .string (⟨#[115, 109, 97, 108, 108]⟩), .string (⟨#[115, 112, 105, 110, 101]⟩), .string (⟨#[108, 101, 97, 102]⟩)] (fps []) w)) (HS : Aside0 (Sep (fps []) w [] w)) (H : Aside0 (pack_Put.f a277 a278 a279 a280 = some r)) :
    Calls Tryd.prog 40 #[.int .u32 a277, .int .i64 a278, .int .i64 a279, .int .u32 a280] w fun e w' => e = .returned (.tuple #[.int .u32 r.1, .int .i64 r.2]) ∧ Sep (fps []) w [] w' := by
  unfold pack_Put.f at H
  go_enter Tryd.func40, Tryd.ntmps40
  go_wp2_with fail
  obtain ⟨t286, HA287, H⟩ := bind_some H
  refine (pack_isPiece.calls a278 a279 t286 _ ⟨Gl.pass (l := []) (rest := []) HGl0.out HS.out⟩ ⟨Gl.pass (l := []) (rest := []) HGl1.out HS.out⟩ ⟨HS.out.begin (l := []) (rest := [])⟩ HA287).mono ?_
  rintro e_ w288 ⟨rfl, hS⟩
  replace HS : Aside0 (Sep (fps []) w [] w288) := ⟨HS.out.call (l := []) (rest := []) hS⟩
  clear hS
  by_cases c289 : t286 = true
  · have H := if_yes c289 H
    have c289b0 : t286 = true := c289
    have c289b1 : (!t286) = false := by rw [c289b0]; rfl
    try rw [c289b1]
    clear c289
    go_wp2_with fail
    obtain ⟨t295, HA296, H⟩ := bind_some H
    refine (pack_Fits.calls a280 a279 t295 _ ⟨Gl.pass (l := []) (rest := []) HGl0.out HS.out⟩ ⟨Gl.pass (l := []) (rest := []) HGl1.out HS.out⟩ ⟨HS.out.begin (l := []) (rest := [])⟩ HA296).mono ?_
    rintro e_ w297 ⟨rfl, hS⟩
    replace HS : Aside0 (Sep (fps []) w [] w297) := ⟨HS.out.call (l := []) (rest := []) hS⟩
    clear hS
    by_cases c298 : t295 = true
    · have H := if_yes c298 H
      have c298b0 : t295 = true := c298
      have c298b1 : (!t295) = false := by rw [c298b0]; rfl
      try rw [c298b1]
      clear c298
      go_wp2_with fail
      obtain ⟨t303, HA304, H⟩ := bind_some H
      refine (pack_mask.calls a278 a279 t303 _ ⟨Gl.pass (l := []) (rest := []) HGl0.out HS.out⟩ ⟨Gl.pass (l := []) (rest := []) HGl1.out HS.out⟩ ⟨HS.out.begin (l := []) (rest := [])⟩ HA304).mono ?_
      rintro e_ w305 ⟨rfl, hS⟩
      replace HS : Aside0 (Sep (fps []) w [] w305) := ⟨HS.out.call (l := []) (rest := []) hS⟩
      clear hS
      by_cases c306 : 0 ≤ (IntKind.u64.wrap (a278))
      · have H := if_yes c306 H
        have c306b0 : decide (0 ≤ (IntKind.u64.wrap (a278))) = true := decide_eq_true c306
        skip
        go_wp2_with fail
        clear c306
        go_ret2
        rw [← some_eq H]
        exact ⟨(by first | rfl | (simp [IntKind.wrap_u32]; done)), (HS.out).keep (l := []) (rest := [])⟩
      · have H := if_no c306 H
        have c306b0 : decide (0 ≤ (IntKind.u64.wrap (a278))) = false := decide_eq_false c306
        exact (none_no H).elim
    · have H := if_no c298 H
      have c298b0 : t295 = false := by simpa using c298
      have c298b1 : (!t295) = true := by rw [c298b0]; rfl
      try rw [c298b1]
      clear c298
      go_wp2_with fail
      go_ret2
      rw [← some_eq H]
      exact ⟨(by first | rfl | (simp [IntKind.wrap_u32]; done)), (HS.out).keep (l := []) (rest := [])⟩
  · have H := if_no c289 H
    have c289b0 : t286 = false := by simpa using c289
    have c289b1 : (!t286) = true := by rw [c289b0]; rfl
    try rw [c289b1]
    clear c289
    go_wp2_with fail
    go_ret2
    rw [← some_eq H]
    exact ⟨(by first | rfl | (simp [IntKind.wrap_u32]; done)), (HS.out).keep (l := []) (rest := [])⟩

set_option maxHeartbeats 30000000 in
set_option maxRecDepth 100000 in
theorem pack_Join.calls (k : Nat) (l221 : List Int) (l225 : List Int) (A222 : Option Addr) (n223 : Nat) (A226 : Option Addr) (n227 : Nat) (r : Int × Int) (w : World) (HR224 : Aside0 (Rd (Kd.int .u32) (fps []) w A222 l221.length l221)) (HR228 : Aside0 (Rd (Kd.int .i64) (fps []) w A226 l225.length l225)) (HGl0 : Aside0 (Gl 0 #[.int .i64 0, .int .i64 0, .int .i64 0, .int .i64 0, .int .i64 0] (fps []) w)) (HGl1 : Aside0 (Gl 1 #[.string (⟨#[102, 114, 101, 101]⟩), .string (⟨#[115, 109, 97, 108, 108]⟩), .string (⟨#[115, 112, 105, 110, 101]⟩), .string (⟨#[108, 101, 97, 102]⟩)] (fps []) w)) (HS : Aside0 (Sep (fps []) w [] w)) (H : Aside0 (pack_Join.f k l221 l225 = some r)) :
    Calls Tryd.prog 24 #[.slice A222 l221.length n223, .slice A226 l225.length n227] w fun e w' => e = .returned (.tuple #[.int .u32 r.1, .int .i64 r.2]) ∧ Sep (fps []) w [] w' := by
  unfold pack_Join.f at H
  go_enter Tryd.func24, Tryd.ntmps24
  go_wp2_with fail
  obtain ⟨t258, HA259, H⟩ := bind_some H
  refine (pack_total.calls _ l225 A226 n227 t258 _ ⟨Rd.pass (l := []) (rest := []) (by decide) (fun _ _ _ _ h => h) HR228.out HS.out⟩ ⟨Gl.pass (l := []) (rest := []) HGl0.out HS.out⟩ ⟨Gl.pass (l := []) (rest := []) HGl1.out HS.out⟩ ⟨HS.out.begin (l := []) (rest := [])⟩ HA259).mono ?_
  rintro e_ w260 ⟨rfl, hS⟩
  replace HS : Aside0 (Sep (fps []) w [] w260) := ⟨HS.out.call (l := []) (rest := []) hS⟩
  clear hS
  by_cases c261 : t258 < 0
  · have H := if_yes c261 H
    have c261b0 : decide (t258 < 0) = true := decide_eq_true c261
    clear c261
    go_wp2_with fail
    go_ret2
    rw [← some_eq H]
    exact ⟨(by first | rfl | (simp [IntKind.wrap_u32]; done)), (HS.out).keep (l := []) (rest := [])⟩
  · have H := if_no c261 H
    have c261b0 : decide (t258 < 0) = false := decide_eq_false c261
    clear c261
    by_cases c262 : (l221.length : Int) = (l225.length : Int)
    · have H := if_yes c262 H
      have c262b0 : ((l221.length : Int) == (l225.length : Int)) = true := beq_iff_eq.mpr c262
      have c262b1 : ((l221.length : Int) != (l225.length : Int)) = false := bne_eq_false_iff_eq.mpr c262
      clear c262
      go_wp2_with fail
      obtain ⟨o311, AL312, H⟩ := bind_some H
      go_loopg [6, 7, 24] k (fun kq v6 v7 v24 wc => ∃ (x315 : Int) (x316 : Int) (x317 : Int), v6 = .int .u32 x315 ∧ v7 = .int .i64 x316 ∧ v24 = .int .i64 x317 ∧ Aside0 (pack_Join.lo0 kq l221 l225 x315 x316 x317 = some o311) ∧ Aside0 (Sep (fps []) w [] wc))
      case atStart => exact ⟨(0), (0), (0), (by first | rfl | (simp [IntKind.wrap_u32]; done)), (by first | rfl | (simp [IntKind.wrap_u32]; done)), (by first | rfl | (simp [IntKind.wrap_u32]; done)), AL312, ⟨HS.out⟩⟩
      case round =>
        clear AL312 HS
        obtain ⟨x315, x316, x317, rfl, rfl, rfl, AL312, HS⟩ := hrel
        obtain ⟨w313, rfl⟩ : ∃ x : World, x = wr := ⟨_, rfl⟩
        cases gk with
        | zero => exact absurd AL312.out (by simp [pack_Join.lo0])
        | succ k314 =>
          have AL0 := AL312.out
          rw [pack_Join.lo0] at AL0
          clear AL312
          have AL312 := Aside0.mk AL0
          clear AL0
          by_cases c318 : x317 < (l225.length : Int)
          · have AL312 := if_yes c318 AL312
            have c318b0 : decide (x317 < (l225.length : Int)) = true := decide_eq_true c318
            clear c318
            by_cases c319 : 0 ≤ x317
            · have AL312 := if_yes c319 AL312
              have c319b0 : decide (0 ≤ x317) = true := decide_eq_true c319
              have c319p : (0 ≤ x317) = True := eq_true c319
              clear c319
              have ip320 : (x317 < (l225.length : Int)) = True := eq_true (of_decide_eq_true c318b0)
              by_cases c322 : x317 < (l221.length : Int)
              · have AL312 := if_yes c322 AL312
                have c322b0 : decide (x317 < (l221.length : Int)) = true := decide_eq_true c322
                have c322p : (x317 < (l221.length : Int)) = True := eq_true c322
                clear c322
                obtain ⟨hx321a, hx321e, hx321⟩ := Kd.at_int (Rd.read (fun _ _ _ _ h => h) HR228.out HS.out.fr) x317 (of_decide_eq_true c319b0) (of_decide_eq_true c318b0); cases hx321e
                obtain ⟨hx323a, hx323e, hx323⟩ := Kd.at_int (Rd.read (fun _ _ _ _ h => h) HR224.out HS.out.fr) x317 (of_decide_eq_true c319b0) (of_decide_eq_true c322b0); cases hx323e
                go_wp2_with fail
                clear hx321 hx323
                obtain ⟨t307, HA324, AL312⟩ := bind_some AL312
                refine (pack_Put.calls x315 x316 (rd l225 x317) (rd l221 x317) t307 _ ⟨Gl.pass (l := []) (rest := []) HGl0.out HS.out⟩ ⟨Gl.pass (l := []) (rest := []) HGl1.out HS.out⟩ ⟨HS.out.begin (l := []) (rest := [])⟩ HA324).mono ?_
                rintro e_ w325 ⟨rfl, hS⟩
                replace HS : Aside0 (Sep (fps []) w [] w325) := ⟨HS.out.call (l := []) (rest := []) hS⟩
                clear hS
                by_cases c326 : t307.2 = 0
                · have AL312 := if_yes c326 AL312
                  have c326b0 : (t307.2 == 0) = true := beq_iff_eq.mpr c326
                  have c326b1 : (t307.2 != 0) = false := bne_eq_false_iff_eq.mpr c326
                  clear c326
                  go_wp2_with fail
                  go_roundg k314
                  case measure => exact Nat.lt_succ_self _
                  case rel => exact ⟨(t307.1), (wrap64 (x316 + (rd l225 x317))), (wrap64 (x317 + 1)), (by first | rfl | (simp [IntKind.wrap_u32]; done)), (by first | rfl | (simp [IntKind.wrap_u32]; done)), (by first | rfl | (simp [IntKind.wrap_u32]; done)), Aside0.mk AL312.out, ⟨(HS.out).keep (l := []) (rest := [])⟩⟩
                · have AL312 := if_no c326 AL312
                  have c326b0 : (t307.2 == 0) = false := beq_eq_false_iff_ne.mpr c326
                  have c326b1 : (t307.2 != 0) = true := bne_iff_ne.mpr c326
                  clear c326
                  go_wp2_with fail
                  have ho := some_eq AL312
                  subst ho
                  have H := lp_ret H
                  go_ret2
                  rw [← some_eq H]
                  exact ⟨(by first | rfl | (simp [IntKind.wrap_u32]; done)), (HS.out).keep (l := []) (rest := [])⟩
              · have AL312 := if_no c322 AL312
                have c322b0 : decide (x317 < (l221.length : Int)) = false := decide_eq_false c322
                clear c322
                exact (none_no AL312).elim
            · have AL312 := if_no c319 AL312
              have c319b0 : decide (0 ≤ x317) = false := decide_eq_false c319
              clear c319
              exact (none_no AL312).elim
          · have AL312 := if_no c318 AL312
            have c318b0 : decide (x317 < (l225.length : Int)) = false := decide_eq_false c318
            clear c318
            have ho := some_eq AL312
            subst ho
            clear AL312
            have H := lp_out H
            go_wp2_with fail
            go_ret2
            rw [← some_eq H]
            exact ⟨(by first | rfl | (simp [IntKind.wrap_u32]; done)), (HS.out).keep (l := []) (rest := [])⟩
    · have H := if_no c262 H
      have c262b0 : ((l221.length : Int) == (l225.length : Int)) = false := beq_eq_false_iff_ne.mpr c262
      have c262b1 : ((l221.length : Int) != (l225.length : Int)) = true := bne_iff_ne.mpr c262
      clear c262
      go_wp2_with fail
      go_ret2
      rw [← some_eq H]
      exact ⟨(by first | rfl | (simp [IntKind.wrap_u32]; done)), (HS.out).keep (l := []) (rest := [])⟩

set_option maxHeartbeats 30000000 in
set_option maxRecDepth 100000 in
theorem tag_Pack.calls (k : Nat) (a18 : Int) (a19 : Int) (a20 : Int) (a21 : Int) (a22 : Int) (a23 : Int) (a24 : Int) (r : Int × Int) (w : World)  (HGl0 : Aside0 (Gl 0 #[.int .i64 0, .int .i64 0, .int .i64 0, .int .i64 0, .int .i64 0] (fps []) w)) (HGl1 : Aside0 (Gl 1 #[.string (⟨#[102, 114, 101, 101]⟩), .string (⟨#[115, 109, 97, 108, 108]⟩), .string (⟨#[115, 112, 105, 110, 101]⟩), .string (⟨#[108, 101, 97, 102]⟩)] (fps []) w)) (HS : Aside0 (Sep (fps []) w [] w)) (H : Aside0 (tag_Pack.f k a18 a19 a20 a21 a22 a23 a24 = some r)) :
    Calls Tryd.prog 8 #[.agg #[.int .i64 a18, .int .i64 a19, .int .i64 a20, .int .i64 a21, .int .i64 a22, .int .i64 a23, .int .i64 a24]] w fun e w' => e = .returned (.tuple #[.int .u32 r.1, .int .i64 r.2]) ∧ Sep (fps []) w [] w' := by
  unfold tag_Pack.f at H
  go_enter Tryd.func8, Tryd.ntmps8
  go_wp2_with (first | ((with_reducible refine gate_dst (N := 1) rfl ?_); refine box_on ?hg (N := 1) ?hd (cs := #[.int .i64 a18, .int .i64 a19, .int .i64 a20, .int .i64 a21, .int .i64 a22, .int .i64 a23, .int .i64 a24]) (t := 23) ?hr ?_; (case hd => rfl); (case hg => rfl); (case hr => first | (go_simp; done) | (go_simp; rfl)); intro g25 hg w26 hbox hb; replace HS : Aside0 (Sep (fps []) w [b1 g25 a18 a19 a20 a21 a22 a23 a24] w26) := ⟨HS.out.box hg hbox hb⟩; clear hg hbox hb; have hc28 : w26.cell? ⟨g25, 0, none⟩ = some (.int .i64 a18) := blk_cellv (HS.out.at0) 0 rfl; have hc29 : w26.cell? ⟨g25, 1, none⟩ = some (.int .i64 a19) := blk_cellv (HS.out.at0) 1 rfl; have hc30 : w26.cell? ⟨g25, 2, none⟩ = some (.int .i64 a20) := blk_cellv (HS.out.at0) 2 rfl; have hc31 : w26.cell? ⟨g25, 3, none⟩ = some (.int .i64 a21) := blk_cellv (HS.out.at0) 3 rfl; have hc32 : w26.cell? ⟨g25, 4, none⟩ = some (.int .i64 a22) := blk_cellv (HS.out.at0) 4 rfl; have hc33 : w26.cell? ⟨g25, 5, none⟩ = some (.int .i64 a23) := blk_cellv (HS.out.at0) 5 rfl; have hc34 : w26.cell? ⟨g25, 6, none⟩ = some (.int .i64 a24) := blk_cellv (HS.out.at0) 6 rfl))
  clear hc28 hc29 hc30 hc31 hc32 hc33 hc34
  obtain ⟨t167, HA168, H⟩ := bind_some H
  refine (tag_Right.calls _ a18 a19 a20 a21 a22 a23 a24 t167 _ ⟨Gl.pass (l := []) (rest := [b1 g25 a18 a19 a20 a21 a22 a23 a24]) HGl0.out HS.out⟩ ⟨Gl.pass (l := []) (rest := [b1 g25 a18 a19 a20 a21 a22 a23 a24]) HGl1.out HS.out⟩ ⟨HS.out.begin (l := []) (rest := [b1 g25 a18 a19 a20 a21 a22 a23 a24])⟩ HA168).mono ?_
  rintro e_ w169 ⟨rfl, hS⟩
  replace HS : Aside0 (Sep (fps []) w [b1 g25 a18 a19 a20 a21 a22 a23 a24] w169) := ⟨HS.out.call (l := []) (rest := [b1 g25 a18 a19 a20 a21 a22 a23 a24]) hS⟩
  clear hS
  by_cases c170 : t167 = true
  · have H := if_yes c170 H
    have c170b0 : t167 = true := c170
    have c170b1 : (!t167) = false := by rw [c170b0]; rfl
    try rw [c170b1]
    clear c170
    have hc171 : w169.cell? ⟨g25, 0, none⟩ = some (.int .i64 a18) := blk_cellv (HS.out.at0) 0 rfl
    go_wp2_with (first | ((with_reducible refine gate_dst (N := 13) rfl ?_); refine slice_on (n := 1) ?hg (N := 13) ?hd (cs := #[.int .u32 ((a18) % 4294967296)]) (t := 24) ?hr ?_; (case hd => rfl); (case hg => rfl); (case hr => first | (go_simp; done) | (go_simp; rfl)); intro g172 hg w173 hbox hb; clear hc171; replace HS : Aside0 (Sep (fps []) w [b1 g25 a18 a19 a20 a21 a22 a23 a24, b3 g172 ((a18) % 4294967296)] w173) := ⟨HS.out.box hg hbox hb⟩; clear hg hbox hb; have hc175 : w173.cell? ⟨g25, 0, none⟩ = some (.int .i64 a18) := blk_cellv (HS.out.at0) 0 rfl; have hc176 : w173.cell? ⟨g25, 1, none⟩ = some (.int .i64 a19) := blk_cellv (HS.out.at0) 1 rfl; have hc177 : w173.cell? ⟨g25, 2, none⟩ = some (.int .i64 a20) := blk_cellv (HS.out.at0) 2 rfl; have hc178 : w173.cell? ⟨g25, 3, none⟩ = some (.int .i64 a21) := blk_cellv (HS.out.at0) 3 rfl; have hc179 : w173.cell? ⟨g25, 4, none⟩ = some (.int .i64 a22) := blk_cellv (HS.out.at0) 4 rfl; have hc180 : w173.cell? ⟨g25, 5, none⟩ = some (.int .i64 a23) := blk_cellv (HS.out.at0) 5 rfl; have hc181 : w173.cell? ⟨g25, 6, none⟩ = some (.int .i64 a24) := blk_cellv (HS.out.at0) 6 rfl))
    clear hc175 hc176 hc177 hc178 hc179 hc180 hc181
    obtain ⟨t182, HA183, H⟩ := bind_some H
    refine (tag_marks.calls a18 a19 a20 a21 a22 a23 a24 t182 _ ⟨Gl.pass (l := []) (rest := [b1 g25 a18 a19 a20 a21 a22 a23 a24, b3 g172 ((a18) % 4294967296)]) HGl0.out HS.out⟩ ⟨Gl.pass (l := []) (rest := [b1 g25 a18 a19 a20 a21 a22 a23 a24, b3 g172 ((a18) % 4294967296)]) HGl1.out HS.out⟩ ⟨HS.out.begin (l := []) (rest := [b1 g25 a18 a19 a20 a21 a22 a23 a24, b3 g172 ((a18) % 4294967296)])⟩ HA183).mono ?_
    rintro e_ w184 ⟨rfl, hS⟩
    replace HS : Aside0 (Sep (fps []) w [b1 g25 a18 a19 a20 a21 a22 a23 a24, b3 g172 ((a18) % 4294967296)] w184) := ⟨HS.out.call (l := []) (rest := [b1 g25 a18 a19 a20 a21 a22 a23 a24, b3 g172 ((a18) % 4294967296)]) hS⟩
    clear hS
    go_wp2_with fail
    replace HS : Aside0 (Sep (fps []) w [b1 g25 a18 a19 a20 a21 a22 a23 a24, r4 (some ⟨g172, 0, none⟩) 1 1 [(a18) % 4294967296]] w184) := ⟨Sep.litrow (l1 := [b1 g25 a18 a19 a20 a21 a22 a23 a24]) (l2 := []) (enc := Value.int .u32) (xs := [(a18) % 4294967296]) (n := 1) HS.out rfl (by decide)⟩
    obtain ⟨o186, AL187, H⟩ := bind_some H
    go_loopg [4, 16] k (fun kq v4 v16 wc => ∃ (x190 : Int) (x191 : List Int) (A192 : Option Addr) (m193 : Nat) (n194 : Nat), v4 = .slice A192 m193 n194 ∧ v16 = .int .i64 x190 ∧ Aside0 (tag_Pack.lo0 kq t182 x190 x191 = some o186) ∧ Aside0 (Sep (fps []) w [b1 g25 a18 a19 a20 a21 a22 a23 a24, r4 A192 m193 n194 x191] wc))
    case atStart => exact ⟨(0), ([(a18) % 4294967296]), ((some ⟨g172, 0, none⟩)), (1), (1), (by first | rfl | (simp [IntKind.wrap_u32]; done)), (by first | rfl | (simp [IntKind.wrap_u32]; done)), AL187, ⟨HS.out⟩⟩
    case round =>
      clear AL187 HS
      obtain ⟨x190, x191, A192, m193, n194, rfl, rfl, AL187, HS⟩ := hrel
      obtain ⟨w188, rfl⟩ : ∃ x : World, x = wr := ⟨_, rfl⟩
      obtain rfl := (row_len (HS.out.at1)).symm
      cases gk with
      | zero => exact absurd AL187.out (by simp [tag_Pack.lo0])
      | succ k189 =>
        have AL0 := AL187.out
        rw [tag_Pack.lo0] at AL0
        clear AL187
        have AL187 := Aside0.mk AL0
        clear AL0
        by_cases c195 : x190 < 5
        · have AL187 := if_yes c195 AL187
          have c195b0 : decide (x190 < 5) = true := decide_eq_true c195
          clear c195
          by_cases c196 : 0 ≤ x190
          · have AL187 := if_yes c196 AL187
            have c196b0 : decide (0 ≤ x190) = true := decide_eq_true c196
            have c196p : (0 ≤ x190) = True := eq_true c196
            clear c196
            have ip197 : (x190 < 5) = True := eq_true (of_decide_eq_true c195b0)
            have ix198 : ∀ w, (Instr.index 51 (.agg #[.int .i64 t182.1, .int .i64 t182.2.1, .int .i64 t182.2.2.1, .int .i64 t182.2.2.2.1, .int .i64 t182.2.2.2.2]) (.int .i64 x190)).run Tryd.prog w = .ok (.int .i64 (rd [t182.1, t182.2.1, t182.2.2.1, t182.2.2.2.1, t182.2.2.2.2] x190)) w := run_index_ints 51 3 5 .i64 .i64 [t182.1, t182.2.1, t182.2.2.1, t182.2.2.2.1, t182.2.2.2.2] x190 Tryd.underlying51 (fun _ => by kernel_rfl) (fun _ => by kernel_rfl) rfl (of_decide_eq_true c196b0) (of_decide_eq_true c195b0)
            by_cases c202 : x191.length < 35184372088832
            · have AL187 := if_yes c202 AL187
              have c202b0 : decide (x191.length < 35184372088832) = true := decide_eq_true c202
              clear c202
              obtain ⟨y206, HA207, AL187⟩ := bind_some AL187
              go_wp2_with (first | ((with_reducible refine gate_dst (N := 22) rfl ?_); refine slice_on (n := 1) ?hg (N := 22) ?hd (cs := #[.int .u32 ((rd [t182.1, t182.2.1, t182.2.2.1, t182.2.2.2.1, t182.2.2.2.2] x190) % 4294967296)]) (t := 24) ?hr ?_; (case hd => rfl); (case hg => rfl); (case hr => first | (go_simp; done) | (go_simp; rfl)); intro g199 hg w200 hbox hb; replace HS : Aside0 (Sep (fps []) w [b1 g25 a18 a19 a20 a21 a22 a23 a24, r4 A192 x191.length n194 x191, b3 g199 ((rd [t182.1, t182.2.1, t182.2.2.1, t182.2.2.2.1, t182.2.2.2.2] x190) % 4294967296)] w200) := ⟨HS.out.box hg hbox hb⟩; clear hg hbox hb) | ((with_reducible refine gate_dst (N := 23) rfl ?_); refine append_event (l1 := [b1 g25 a18 a19 a20 a21 a22 a23 a24]) (l2 := [b3 g199 ((rd [t182.1, t182.2.1, t182.2.2.1, t182.2.2.2.1, t182.2.2.2.2] x190) % 4294967296)]) rfl (.tmp 19) (.tmp 22) 50 24 (.int .u32 0) 4 rfl Tryd.underlying50 (by kernel_rfl) rfl (by decide) (Value.int .u32) (fun _ => rfl) (.slice A192 x191.length n194) (x191 : List Int) [(rd [t182.1, t182.2.1, t182.2.2.1, t182.2.2.2.1, t182.2.2.2.2] x190) % 4294967296] ⟨g199, 0, none⟩ 1 rfl rfl (blk_news (xs := [(rd [t182.1, t182.2.1, t182.2.2.1, t182.2.2.2.1, t182.2.2.2.2] x190) % 4294967296]) (HS.out.at2)) HS.out (by have := of_decide_eq_true c202b0; simp only [List.length_cons, List.length_nil]; omega) HA207 ?_; intro A203 n204 w205 HS1; replace HS : Aside0 (Sep (fps []) w [b1 g25 a18 a19 a20 a21 a22 a23 a24, r4 A203 y206.length n204 y206, b3 g199 ((rd [t182.1, t182.2.1, t182.2.2.1, t182.2.2.2.1, t182.2.2.2.2] x190) % 4294967296)] w205) := ⟨HS1⟩; clear HS1; replace HS : Aside0 (Sep (fps []) w [b1 g25 a18 a19 a20 a21 a22 a23 a24, r4 A203 y206.length n204 y206] w205) := ⟨HS.out.sub (.cons_cons _ (.cons_cons _ (.cons _ .slnil)))⟩))
              go_roundg k189
              case measure => exact Nat.lt_succ_self _
              case rel => exact ⟨(wrap64 (x190 + 1)), (y206), (A203), (y206.length), (n204), (by first | rfl | (simp [IntKind.wrap_u32]; done)), (by first | rfl | (simp [IntKind.wrap_u32]; done)), Aside0.mk AL187.out, ⟨(((HS.out).front 1 (by simp)).front 1 (by simp)).keep (l := [b1 g25 a18 a19 a20 a21 a22 a23 a24, r4 A203 y206.length n204 y206]) (rest := [])⟩⟩
            · have AL187 := if_no c202 AL187
              have c202b0 : decide (x191.length < 35184372088832) = false := decide_eq_false c202
              clear c202
              exact (none_no AL187).elim
          · have AL187 := if_no c196 AL187
            have c196b0 : decide (0 ≤ x190) = false := decide_eq_false c196
            clear c196
            exact (none_no AL187).elim
        · have AL187 := if_no c195 AL187
          have c195b0 : decide (x190 < 5) = false := decide_eq_false c195
          clear c195
          have ho := some_eq AL187
          subst ho
          clear AL187
          by_cases c212 : x191.length < 35184372088831
          · have H := if_yes c212 H
            have c212b0 : decide (x191.length < 35184372088831) = true := decide_eq_true c212
            clear c212
            obtain ⟨y216, HA217, H⟩ := bind_some H
            have hc208 : w188.cell? ⟨g25, 6, none⟩ = some (.int .i64 a24) := blk_cellv (HS.out.at0) 6 rfl
            go_wp2_with (first | ((with_reducible refine gate_dst (N := 29) rfl ?_); refine slice_on (n := 2) ?hg (N := 29) ?hd (cs := #[.int .u32 0, .int .u32 ((a24) % 4294967296)]) (t := 24) ?hr ?_; (case hd => rfl); (case hg => rfl); (case hr => first | (go_simp; done) | (go_simp; rfl)); intro g209 hg w210 hbox hb; clear hc208; replace HS : Aside0 (Sep (fps []) w [b1 g25 a18 a19 a20 a21 a22 a23 a24, r4 A192 x191.length n194 x191, b5 g209 0 ((a24) % 4294967296)] w210) := ⟨HS.out.box hg hbox hb⟩; clear hg hbox hb) | ((with_reducible refine gate_dst (N := 30) rfl ?_); refine append_event (l1 := [b1 g25 a18 a19 a20 a21 a22 a23 a24]) (l2 := [b5 g209 0 ((a24) % 4294967296)]) rfl (.tmp 25) (.tmp 29) 50 24 (.int .u32 0) 4 rfl Tryd.underlying50 (by kernel_rfl) rfl (by decide) (Value.int .u32) (fun _ => rfl) (.slice A192 x191.length n194) (x191 : List Int) [0, (a24) % 4294967296] ⟨g209, 0, none⟩ 2 rfl rfl (blk_news (xs := [0, (a24) % 4294967296]) (HS.out.at2)) HS.out (by have := of_decide_eq_true c212b0; simp only [List.length_cons, List.length_nil]; omega) HA217 ?_; intro A213 n214 w215 HS1; replace HS : Aside0 (Sep (fps []) w [b1 g25 a18 a19 a20 a21 a22 a23 a24, r4 A213 y216.length n214 y216, b5 g209 0 ((a24) % 4294967296)] w215) := ⟨HS1⟩; clear HS1) | ((with_reducible refine gate_dst (N := 31) rfl ?_); refine slice_on (n := 8) ?hg (N := 31) ?hd (cs := #[.int .i64 2, .int .i64 1, .int .i64 1, .int .i64 1, .int .i64 1, .int .i64 1, .int .i64 1, .int .i64 24]) (t := 3) ?hr ?_; (case hd => rfl); (case hg => rfl); (case hr => first | (go_simp; done) | (go_simp; rfl)); intro g218 hg w219 hbox hb; replace HS : Aside0 (Sep (fps []) w [b1 g25 a18 a19 a20 a21 a22 a23 a24, r4 A213 y216.length n214 y216, b5 g209 0 ((a24) % 4294967296), b6 g218 2 1 1 1 1 1 1 24] w219) := ⟨HS.out.box hg hbox hb⟩; clear hg hbox hb))
            obtain ⟨t328, HA329, H⟩ := bind_some H
            refine (pack_Join.calls _ y216 [2, 1, 1, 1, 1, 1, 1, 24] A213 n214 (some ⟨g218, 0, none⟩) 8 t328 _ ⟨Rd.ownI (l := []) (rest := [b1 g25 a18 a19 a20 a21 a22 a23 a24, r4 A213 y216.length n214 y216, b5 g209 0 ((a24) % 4294967296), b6 g218 2 1 1 1 1 1 1 24]) HS.out 1 rfl⟩ ⟨Rd.lit (l := []) (rest := [b1 g25 a18 a19 a20 a21 a22 a23 a24, r4 A213 y216.length n214 y216, b5 g209 0 ((a24) % 4294967296), b6 g218 2 1 1 1 1 1 1 24]) (xs := [2, 1, 1, 1, 1, 1, 1, 24]) HS.out 3 rfl (by simp)⟩ ⟨Gl.pass (l := []) (rest := [b1 g25 a18 a19 a20 a21 a22 a23 a24, r4 A213 y216.length n214 y216, b5 g209 0 ((a24) % 4294967296), b6 g218 2 1 1 1 1 1 1 24]) HGl0.out HS.out⟩ ⟨Gl.pass (l := []) (rest := [b1 g25 a18 a19 a20 a21 a22 a23 a24, r4 A213 y216.length n214 y216, b5 g209 0 ((a24) % 4294967296), b6 g218 2 1 1 1 1 1 1 24]) HGl1.out HS.out⟩ ⟨HS.out.begin (l := []) (rest := [b1 g25 a18 a19 a20 a21 a22 a23 a24, r4 A213 y216.length n214 y216, b5 g209 0 ((a24) % 4294967296), b6 g218 2 1 1 1 1 1 1 24])⟩ HA329).mono ?_
            rintro e_ w330 ⟨rfl, hS⟩
            replace HS : Aside0 (Sep (fps []) w [b1 g25 a18 a19 a20 a21 a22 a23 a24, r4 A213 y216.length n214 y216, b5 g209 0 ((a24) % 4294967296), b6 g218 2 1 1 1 1 1 1 24] w330) := ⟨HS.out.call (l := []) (rest := [b1 g25 a18 a19 a20 a21 a22 a23 a24, r4 A213 y216.length n214 y216, b5 g209 0 ((a24) % 4294967296), b6 g218 2 1 1 1 1 1 1 24]) hS⟩
            clear hS
            replace HS : Aside0 (Sep (fps []) w [] w330) := ⟨HS.out.sub (.cons _ (.cons _ (.cons _ (.cons _ .slnil))))⟩
            go_wp2_with fail
            go_ret2
            rw [← some_eq H]
            exact ⟨(by first | rfl | (simp [IntKind.wrap_u32]; done)), (HS.out).keep (l := []) (rest := [])⟩
          · have H := if_no c212 H
            have c212b0 : decide (x191.length < 35184372088831) = false := decide_eq_false c212
            clear c212
            exact (none_no H).elim
  · have H := if_no c170 H
    have c170b0 : t167 = false := by simpa using c170
    have c170b1 : (!t167) = true := by rw [c170b0]; rfl
    try rw [c170b1]
    clear c170
    replace HS : Aside0 (Sep (fps []) w [] w169) := ⟨HS.out.sub (.cons _ .slnil)⟩
    go_wp2_with fail
    go_ret2
    rw [← some_eq H]
    exact ⟨(by first | rfl | (simp [IntKind.wrap_u32]; done)), (HS.out).keep (l := []) (rest := [])⟩

set_option maxHeartbeats 30000000 in
set_option maxRecDepth 100000 in
theorem quitrentref06_mark.calls (a372 : Int) (r : Bool) (w : World)  (HGl0 : Aside0 (Gl 0 #[.int .i64 0, .int .i64 0, .int .i64 0, .int .i64 0, .int .i64 0] (fps []) w)) (HGl1 : Aside0 (Gl 1 #[.string (⟨#[102, 114, 101, 101]⟩), .string (⟨#[115, 109, 97, 108, 108]⟩), .string (⟨#[115, 112, 105, 110, 101]⟩), .string (⟨#[108, 101, 97, 102]⟩)] (fps []) w)) (HS : Aside0 (Sep (fps []) w [] w)) (H : Aside0 (quitrentref06_mark.f a372 = some r)) :
    Calls Tryd.prog 25 #[.int .i64 a372] w fun e w' => e = .returned (.bool r) ∧ Sep (fps []) w [] w' := by
  unfold quitrentref06_mark.f at H
  go_enter Tryd.func25, Tryd.ntmps25
  by_cases c373 : a372 = 0
  · have H := if_yes c373 H
    have c373b0 : (a372 == 0) = true := beq_iff_eq.mpr c373
    have c373b1 : (a372 != 0) = false := bne_eq_false_iff_eq.mpr c373
    clear c373
    go_wp2_with fail
    go_ret
    rw [← some_eq H]
    exact ⟨(by first | rfl | (simp [IntKind.wrap_u32]; done)), (HS.out).keep (l := []) (rest := [])⟩
  · have H := if_no c373 H
    have c373b0 : (a372 == 0) = false := beq_eq_false_iff_ne.mpr c373
    have c373b1 : (a372 != 0) = true := bne_iff_ne.mpr c373
    clear c373
    go_wp2_with fail
    go_ret
    rw [← some_eq H]
    exact ⟨(by first | rfl | (simp [IntKind.wrap_u32]; done)), (HS.out).keep (l := []) (rest := [])⟩

set_option maxHeartbeats 30000000 in
set_option maxRecDepth 100000 in
theorem quitrentref06_Right.calls (a358 : Int) (a359 : Int) (a360 : Int) (a361 : Int) (a362 : Int) (a363 : Int) (a364 : Int) (r : Bool) (w : World)  (HGl0 : Aside0 (Gl 0 #[.int .i64 0, .int .i64 0, .int .i64 0, .int .i64 0, .int .i64 0] (fps []) w)) (HGl1 : Aside0 (Gl 1 #[.string (⟨#[102, 114, 101, 101]⟩), .string (⟨#[115, 109, 97, 108, 108]⟩), .string (⟨#[115, 112, 105, 110, 101]⟩), .string (⟨#[108, 101, 97, 102]⟩)] (fps []) w)) (HS : Aside0 (Sep (fps []) w [] w)) (H : Aside0 (quitrentref06_Right.f a358 a359 a360 a361 a362 a363 a364 = some r)) :
    Calls Tryd.prog 9 #[.agg #[.int .i64 a358, .int .i64 a359, .int .i64 a360, .int .i64 a361, .int .i64 a362, .int .i64 a363, .int .i64 a364]] w fun e w' => e = .returned (.bool r) ∧ Sep (fps []) w [] w' := by
  unfold quitrentref06_Right.f at H
  go_enter Tryd.func9, Tryd.ntmps9
  by_cases c369 : a358 < 0
  · have H := if_yes c369 H
    have c369b0 : decide (a358 < 0) = true := decide_eq_true c369
    clear c369
    go_wp2_with (first | ((with_reducible refine gate_dst (N := 1) rfl ?_); refine box_on ?hg (N := 1) ?hd (cs := #[.int .i64 a358, .int .i64 a359, .int .i64 a360, .int .i64 a361, .int .i64 a362, .int .i64 a363, .int .i64 a364]) (t := 23) ?hr ?_; (case hd => rfl); (case hg => rfl); (case hr => first | (go_simp; done) | (go_simp; rfl)); intro g365 hg w366 hbox hb; replace HS : Aside0 (Sep (fps []) w [b1 g365 a358 a359 a360 a361 a362 a363 a364] w366) := ⟨HS.out.box hg hbox hb⟩; clear hg hbox hb; have hc368 : w366.cell? ⟨g365, 0, none⟩ = some (.int .i64 a358) := blk_cellv (HS.out.at0) 0 rfl; replace HS : Aside0 (Sep (fps []) w [] w366) := ⟨HS.out.sub (.cons _ .slnil)⟩))
    clear hc368
    go_ret
    rw [← some_eq H]
    exact ⟨(by first | rfl | (simp [IntKind.wrap_u32]; done)), (HS.out).keep (l := []) (rest := [])⟩
  · have H := if_no c369 H
    have c369b0 : decide (a358 < 0) = false := decide_eq_false c369
    clear c369
    by_cases c370 : a358 > 3
    · have H := if_yes c370 H
      have c370b0 : decide (3 < a358) = true := decide_eq_true c370
      clear c370
      go_wp2_with (first | ((with_reducible refine gate_dst (N := 1) rfl ?_); refine box_on ?hg (N := 1) ?hd (cs := #[.int .i64 a358, .int .i64 a359, .int .i64 a360, .int .i64 a361, .int .i64 a362, .int .i64 a363, .int .i64 a364]) (t := 23) ?hr ?_; (case hd => rfl); (case hg => rfl); (case hr => first | (go_simp; done) | (go_simp; rfl)); intro g365 hg w366 hbox hb; replace HS : Aside0 (Sep (fps []) w [b1 g365 a358 a359 a360 a361 a362 a363 a364] w366) := ⟨HS.out.box hg hbox hb⟩; clear hg hbox hb; have hc368 : w366.cell? ⟨g365, 0, none⟩ = some (.int .i64 a358) := blk_cellv (HS.out.at0) 0 rfl; replace HS : Aside0 (Sep (fps []) w [] w366) := ⟨HS.out.sub (.cons _ .slnil)⟩))
      clear hc368
      go_ret
      rw [← some_eq H]
      exact ⟨(by first | rfl | (simp [IntKind.wrap_u32]; done)), (HS.out).keep (l := []) (rest := [])⟩
    · have H := if_no c370 H
      have c370b0 : decide (3 < a358) = false := decide_eq_false c370
      clear c370
      go_wp2_with (first | ((with_reducible refine gate_dst (N := 1) rfl ?_); refine box_on ?hg (N := 1) ?hd (cs := #[.int .i64 a358, .int .i64 a359, .int .i64 a360, .int .i64 a361, .int .i64 a362, .int .i64 a363, .int .i64 a364]) (t := 23) ?hr ?_; (case hd => rfl); (case hg => rfl); (case hr => first | (go_simp; done) | (go_simp; rfl)); intro g365 hg w366 hbox hb; replace HS : Aside0 (Sep (fps []) w [b1 g365 a358 a359 a360 a361 a362 a363 a364] w366) := ⟨HS.out.box hg hbox hb⟩; clear hg hbox hb; have hc368 : w366.cell? ⟨g365, 0, none⟩ = some (.int .i64 a358) := blk_cellv (HS.out.at0) 0 rfl; have hc371 : w366.cell? ⟨g365, 1, none⟩ = some (.int .i64 a359) := blk_cellv (HS.out.at0) 1 rfl))
      clear hc368 hc371
      obtain ⟨t374, HA375, H⟩ := bind_some H
      refine (quitrentref06_mark.calls a359 t374 _ ⟨Gl.pass (l := []) (rest := [b1 g365 a358 a359 a360 a361 a362 a363 a364]) HGl0.out HS.out⟩ ⟨Gl.pass (l := []) (rest := [b1 g365 a358 a359 a360 a361 a362 a363 a364]) HGl1.out HS.out⟩ ⟨HS.out.begin (l := []) (rest := [b1 g365 a358 a359 a360 a361 a362 a363 a364])⟩ HA375).mono ?_
      rintro e_ w376 ⟨rfl, hS⟩
      replace HS : Aside0 (Sep (fps []) w [b1 g365 a358 a359 a360 a361 a362 a363 a364] w376) := ⟨HS.out.call (l := []) (rest := [b1 g365 a358 a359 a360 a361 a362 a363 a364]) hS⟩
      clear hS
      by_cases c377 : t374 = true
      · have H := if_yes c377 H
        have c377b0 : t374 = true := c377
        have c377b1 : (!t374) = false := by rw [c377b0]; rfl
        try rw [c377b1]
        clear c377
        have hc378 : w376.cell? ⟨g365, 2, none⟩ = some (.int .i64 a360) := blk_cellv (HS.out.at0) 2 rfl
        go_wp2_with fail
        clear hc378
        obtain ⟨t379, HA380, H⟩ := bind_some H
        refine (quitrentref06_mark.calls a360 t379 _ ⟨Gl.pass (l := []) (rest := [b1 g365 a358 a359 a360 a361 a362 a363 a364]) HGl0.out HS.out⟩ ⟨Gl.pass (l := []) (rest := [b1 g365 a358 a359 a360 a361 a362 a363 a364]) HGl1.out HS.out⟩ ⟨HS.out.begin (l := []) (rest := [b1 g365 a358 a359 a360 a361 a362 a363 a364])⟩ HA380).mono ?_
        rintro e_ w381 ⟨rfl, hS⟩
        replace HS : Aside0 (Sep (fps []) w [b1 g365 a358 a359 a360 a361 a362 a363 a364] w381) := ⟨HS.out.call (l := []) (rest := [b1 g365 a358 a359 a360 a361 a362 a363 a364]) hS⟩
        clear hS
        by_cases c382 : t379 = true
        · have H := if_yes c382 H
          have c382b0 : t379 = true := c382
          have c382b1 : (!t379) = false := by rw [c382b0]; rfl
          try rw [c382b1]
          clear c382
          have hc383 : w381.cell? ⟨g365, 3, none⟩ = some (.int .i64 a361) := blk_cellv (HS.out.at0) 3 rfl
          go_wp2_with fail
          clear hc383
          obtain ⟨t384, HA385, H⟩ := bind_some H
          refine (quitrentref06_mark.calls a361 t384 _ ⟨Gl.pass (l := []) (rest := [b1 g365 a358 a359 a360 a361 a362 a363 a364]) HGl0.out HS.out⟩ ⟨Gl.pass (l := []) (rest := [b1 g365 a358 a359 a360 a361 a362 a363 a364]) HGl1.out HS.out⟩ ⟨HS.out.begin (l := []) (rest := [b1 g365 a358 a359 a360 a361 a362 a363 a364])⟩ HA385).mono ?_
          rintro e_ w386 ⟨rfl, hS⟩
          replace HS : Aside0 (Sep (fps []) w [b1 g365 a358 a359 a360 a361 a362 a363 a364] w386) := ⟨HS.out.call (l := []) (rest := [b1 g365 a358 a359 a360 a361 a362 a363 a364]) hS⟩
          clear hS
          by_cases c387 : t384 = true
          · have H := if_yes c387 H
            have c387b0 : t384 = true := c387
            have c387b1 : (!t384) = false := by rw [c387b0]; rfl
            try rw [c387b1]
            clear c387
            have hc388 : w386.cell? ⟨g365, 4, none⟩ = some (.int .i64 a362) := blk_cellv (HS.out.at0) 4 rfl
            go_wp2_with fail
            clear hc388
            obtain ⟨t389, HA390, H⟩ := bind_some H
            refine (quitrentref06_mark.calls a362 t389 _ ⟨Gl.pass (l := []) (rest := [b1 g365 a358 a359 a360 a361 a362 a363 a364]) HGl0.out HS.out⟩ ⟨Gl.pass (l := []) (rest := [b1 g365 a358 a359 a360 a361 a362 a363 a364]) HGl1.out HS.out⟩ ⟨HS.out.begin (l := []) (rest := [b1 g365 a358 a359 a360 a361 a362 a363 a364])⟩ HA390).mono ?_
            rintro e_ w391 ⟨rfl, hS⟩
            replace HS : Aside0 (Sep (fps []) w [b1 g365 a358 a359 a360 a361 a362 a363 a364] w391) := ⟨HS.out.call (l := []) (rest := [b1 g365 a358 a359 a360 a361 a362 a363 a364]) hS⟩
            clear hS
            by_cases c392 : t389 = true
            · have H := if_yes c392 H
              have c392b0 : t389 = true := c392
              have c392b1 : (!t389) = false := by rw [c392b0]; rfl
              try rw [c392b1]
              clear c392
              have hc393 : w391.cell? ⟨g365, 5, none⟩ = some (.int .i64 a363) := blk_cellv (HS.out.at0) 5 rfl
              go_wp2_with fail
              clear hc393
              obtain ⟨t394, HA395, H⟩ := bind_some H
              refine (quitrentref06_mark.calls a363 t394 _ ⟨Gl.pass (l := []) (rest := [b1 g365 a358 a359 a360 a361 a362 a363 a364]) HGl0.out HS.out⟩ ⟨Gl.pass (l := []) (rest := [b1 g365 a358 a359 a360 a361 a362 a363 a364]) HGl1.out HS.out⟩ ⟨HS.out.begin (l := []) (rest := [b1 g365 a358 a359 a360 a361 a362 a363 a364])⟩ HA395).mono ?_
              rintro e_ w396 ⟨rfl, hS⟩
              replace HS : Aside0 (Sep (fps []) w [b1 g365 a358 a359 a360 a361 a362 a363 a364] w396) := ⟨HS.out.call (l := []) (rest := [b1 g365 a358 a359 a360 a361 a362 a363 a364]) hS⟩
              clear hS
              by_cases c397 : t394 = true
              · have H := if_yes c397 H
                have c397b0 : t394 = true := c397
                have c397b1 : (!t394) = false := by rw [c397b0]; rfl
                try rw [c397b1]
                clear c397
                by_cases c399 : a364 < 0
                · have H := if_yes c399 H
                  have c399b0 : decide (a364 < 0) = true := decide_eq_true c399
                  clear c399
                  have hc398 : w396.cell? ⟨g365, 6, none⟩ = some (.int .i64 a364) := blk_cellv (HS.out.at0) 6 rfl
                  replace HS : Aside0 (Sep (fps []) w [] w396) := ⟨HS.out.sub (.cons _ .slnil)⟩
                  go_wp2_with fail
                  clear hc398
                  go_ret
                  rw [← some_eq H]
                  exact ⟨(by first | rfl | (simp [IntKind.wrap_u32]; done)), (HS.out).keep (l := []) (rest := [])⟩
                · have H := if_no c399 H
                  have c399b0 : decide (a364 < 0) = false := decide_eq_false c399
                  clear c399
                  by_cases c400 : a364 > 1048575
                  · have H := if_yes c400 H
                    have c400b0 : decide (1048575 < a364) = true := decide_eq_true c400
                    clear c400
                    have hc398 : w396.cell? ⟨g365, 6, none⟩ = some (.int .i64 a364) := blk_cellv (HS.out.at0) 6 rfl
                    replace HS : Aside0 (Sep (fps []) w [] w396) := ⟨HS.out.sub (.cons _ .slnil)⟩
                    go_wp2_with fail
                    clear hc398
                    go_ret
                    rw [← some_eq H]
                    exact ⟨(by first | rfl | (simp [IntKind.wrap_u32]; done)), (HS.out).keep (l := []) (rest := [])⟩
                  · have H := if_no c400 H
                    have c400b0 : decide (1048575 < a364) = false := decide_eq_false c400
                    clear c400
                    by_cases c407 : a358 = 0
                    · have H := if_yes c407 H
                      have c407b0 : (a358 == 0) = true := beq_iff_eq.mpr c407
                      have c407b1 : (a358 != 0) = false := bne_eq_false_iff_eq.mpr c407
                      clear c407
                      by_cases c408 : (wrap64 ((wrap64 ((wrap64 ((wrap64 (a359 + a360)) + a361)) + a362)) + a363)) > 0
                      · have H := if_yes c408 H
                        have c408b0 : decide (0 < (wrap64 ((wrap64 ((wrap64 ((wrap64 (a359 + a360)) + a361)) + a362)) + a363))) = true := decide_eq_true c408
                        clear c408
                        have hc398 : w396.cell? ⟨g365, 6, none⟩ = some (.int .i64 a364) := blk_cellv (HS.out.at0) 6 rfl
                        have hc401 : w396.cell? ⟨g365, 1, none⟩ = some (.int .i64 a359) := blk_cellv (HS.out.at0) 1 rfl
                        have hc402 : w396.cell? ⟨g365, 2, none⟩ = some (.int .i64 a360) := blk_cellv (HS.out.at0) 2 rfl
                        have hc403 : w396.cell? ⟨g365, 3, none⟩ = some (.int .i64 a361) := blk_cellv (HS.out.at0) 3 rfl
                        have hc404 : w396.cell? ⟨g365, 4, none⟩ = some (.int .i64 a362) := blk_cellv (HS.out.at0) 4 rfl
                        have hc405 : w396.cell? ⟨g365, 5, none⟩ = some (.int .i64 a363) := blk_cellv (HS.out.at0) 5 rfl
                        have hc406 : w396.cell? ⟨g365, 0, none⟩ = some (.int .i64 a358) := blk_cellv (HS.out.at0) 0 rfl
                        replace HS : Aside0 (Sep (fps []) w [] w396) := ⟨HS.out.sub (.cons _ .slnil)⟩
                        go_wp2_with fail
                        clear hc398 hc401 hc402 hc403 hc404 hc405 hc406
                        go_ret
                        rw [← some_eq H]
                        exact ⟨(by first | rfl | (simp [IntKind.wrap_u32]; done)), (HS.out).keep (l := []) (rest := [])⟩
                      · have H := if_no c408 H
                        have c408b0 : decide (0 < (wrap64 ((wrap64 ((wrap64 ((wrap64 (a359 + a360)) + a361)) + a362)) + a363))) = false := decide_eq_false c408
                        clear c408
                        by_cases c409 : a358 = 3
                        · have H := if_yes c409 H
                          have c409b0 : (a358 == 3) = true := beq_iff_eq.mpr c409
                          have c409b1 : (a358 != 3) = false := bne_eq_false_iff_eq.mpr c409
                          clear c409
                          have hc398 : w396.cell? ⟨g365, 6, none⟩ = some (.int .i64 a364) := blk_cellv (HS.out.at0) 6 rfl
                          have hc401 : w396.cell? ⟨g365, 1, none⟩ = some (.int .i64 a359) := blk_cellv (HS.out.at0) 1 rfl
                          have hc402 : w396.cell? ⟨g365, 2, none⟩ = some (.int .i64 a360) := blk_cellv (HS.out.at0) 2 rfl
                          have hc403 : w396.cell? ⟨g365, 3, none⟩ = some (.int .i64 a361) := blk_cellv (HS.out.at0) 3 rfl
                          have hc404 : w396.cell? ⟨g365, 4, none⟩ = some (.int .i64 a362) := blk_cellv (HS.out.at0) 4 rfl
                          have hc405 : w396.cell? ⟨g365, 5, none⟩ = some (.int .i64 a363) := blk_cellv (HS.out.at0) 5 rfl
                          have hc406 : w396.cell? ⟨g365, 0, none⟩ = some (.int .i64 a358) := blk_cellv (HS.out.at0) 0 rfl
                          replace HS : Aside0 (Sep (fps []) w [] w396) := ⟨HS.out.sub (.cons _ .slnil)⟩
                          go_wp2_with fail
                          clear hc398 hc401 hc402 hc403 hc404 hc405 hc406
                          go_ret
                          rw [← some_eq H]
                          exact ⟨(by first | rfl | (simp [IntKind.wrap_u32]; done)), (HS.out).keep (l := []) (rest := [])⟩
                        · have H := if_no c409 H
                          have c409b0 : (a358 == 3) = false := beq_eq_false_iff_ne.mpr c409
                          have c409b1 : (a358 != 3) = true := bne_iff_ne.mpr c409
                          clear c409
                          have hc398 : w396.cell? ⟨g365, 6, none⟩ = some (.int .i64 a364) := blk_cellv (HS.out.at0) 6 rfl
                          have hc401 : w396.cell? ⟨g365, 1, none⟩ = some (.int .i64 a359) := blk_cellv (HS.out.at0) 1 rfl
                          have hc402 : w396.cell? ⟨g365, 2, none⟩ = some (.int .i64 a360) := blk_cellv (HS.out.at0) 2 rfl
                          have hc403 : w396.cell? ⟨g365, 3, none⟩ = some (.int .i64 a361) := blk_cellv (HS.out.at0) 3 rfl
                          have hc404 : w396.cell? ⟨g365, 4, none⟩ = some (.int .i64 a362) := blk_cellv (HS.out.at0) 4 rfl
                          have hc405 : w396.cell? ⟨g365, 5, none⟩ = some (.int .i64 a363) := blk_cellv (HS.out.at0) 5 rfl
                          have hc406 : w396.cell? ⟨g365, 0, none⟩ = some (.int .i64 a358) := blk_cellv (HS.out.at0) 0 rfl
                          replace HS : Aside0 (Sep (fps []) w [] w396) := ⟨HS.out.sub (.cons _ .slnil)⟩
                          go_wp2_with fail
                          clear hc398 hc401 hc402 hc403 hc404 hc405 hc406
                          go_ret
                          rw [← some_eq H]
                          exact ⟨(by first | rfl | (simp [IntKind.wrap_u32]; done)), (HS.out).keep (l := []) (rest := [])⟩
                    · have H := if_no c407 H
                      have c407b0 : (a358 == 0) = false := beq_eq_false_iff_ne.mpr c407
                      have c407b1 : (a358 != 0) = true := bne_iff_ne.mpr c407
                      clear c407
                      by_cases c410 : a358 = 3
                      · have H := if_yes c410 H
                        have c410b0 : (a358 == 3) = true := beq_iff_eq.mpr c410
                        have c410b1 : (a358 != 3) = false := bne_eq_false_iff_eq.mpr c410
                        clear c410
                        by_cases c411 : (wrap64 ((wrap64 ((wrap64 ((wrap64 (a359 + a360)) + a361)) + a362)) + a363)) > 0
                        · have H := if_yes c411 H
                          have c411b0 : decide (0 < (wrap64 ((wrap64 ((wrap64 ((wrap64 (a359 + a360)) + a361)) + a362)) + a363))) = true := decide_eq_true c411
                          clear c411
                          have hc398 : w396.cell? ⟨g365, 6, none⟩ = some (.int .i64 a364) := blk_cellv (HS.out.at0) 6 rfl
                          have hc401 : w396.cell? ⟨g365, 1, none⟩ = some (.int .i64 a359) := blk_cellv (HS.out.at0) 1 rfl
                          have hc402 : w396.cell? ⟨g365, 2, none⟩ = some (.int .i64 a360) := blk_cellv (HS.out.at0) 2 rfl
                          have hc403 : w396.cell? ⟨g365, 3, none⟩ = some (.int .i64 a361) := blk_cellv (HS.out.at0) 3 rfl
                          have hc404 : w396.cell? ⟨g365, 4, none⟩ = some (.int .i64 a362) := blk_cellv (HS.out.at0) 4 rfl
                          have hc405 : w396.cell? ⟨g365, 5, none⟩ = some (.int .i64 a363) := blk_cellv (HS.out.at0) 5 rfl
                          have hc406 : w396.cell? ⟨g365, 0, none⟩ = some (.int .i64 a358) := blk_cellv (HS.out.at0) 0 rfl
                          replace HS : Aside0 (Sep (fps []) w [] w396) := ⟨HS.out.sub (.cons _ .slnil)⟩
                          go_wp2_with fail
                          clear hc398 hc401 hc402 hc403 hc404 hc405 hc406
                          go_ret
                          rw [← some_eq H]
                          exact ⟨(by first | rfl | (simp [IntKind.wrap_u32]; done)), (HS.out).keep (l := []) (rest := [])⟩
                        · have H := if_no c411 H
                          have c411b0 : decide (0 < (wrap64 ((wrap64 ((wrap64 ((wrap64 (a359 + a360)) + a361)) + a362)) + a363))) = false := decide_eq_false c411
                          clear c411
                          have hc398 : w396.cell? ⟨g365, 6, none⟩ = some (.int .i64 a364) := blk_cellv (HS.out.at0) 6 rfl
                          have hc401 : w396.cell? ⟨g365, 1, none⟩ = some (.int .i64 a359) := blk_cellv (HS.out.at0) 1 rfl
                          have hc402 : w396.cell? ⟨g365, 2, none⟩ = some (.int .i64 a360) := blk_cellv (HS.out.at0) 2 rfl
                          have hc403 : w396.cell? ⟨g365, 3, none⟩ = some (.int .i64 a361) := blk_cellv (HS.out.at0) 3 rfl
                          have hc404 : w396.cell? ⟨g365, 4, none⟩ = some (.int .i64 a362) := blk_cellv (HS.out.at0) 4 rfl
                          have hc405 : w396.cell? ⟨g365, 5, none⟩ = some (.int .i64 a363) := blk_cellv (HS.out.at0) 5 rfl
                          have hc406 : w396.cell? ⟨g365, 0, none⟩ = some (.int .i64 a358) := blk_cellv (HS.out.at0) 0 rfl
                          replace HS : Aside0 (Sep (fps []) w [] w396) := ⟨HS.out.sub (.cons _ .slnil)⟩
                          go_wp2_with fail
                          clear hc398 hc401 hc402 hc403 hc404 hc405 hc406
                          go_ret
                          rw [← some_eq H]
                          exact ⟨(by first | rfl | (simp [IntKind.wrap_u32]; done)), (HS.out).keep (l := []) (rest := [])⟩
                      · have H := if_no c410 H
                        have c410b0 : (a358 == 3) = false := beq_eq_false_iff_ne.mpr c410
                        have c410b1 : (a358 != 3) = true := bne_iff_ne.mpr c410
                        clear c410
                        have hc398 : w396.cell? ⟨g365, 6, none⟩ = some (.int .i64 a364) := blk_cellv (HS.out.at0) 6 rfl
                        have hc401 : w396.cell? ⟨g365, 1, none⟩ = some (.int .i64 a359) := blk_cellv (HS.out.at0) 1 rfl
                        have hc402 : w396.cell? ⟨g365, 2, none⟩ = some (.int .i64 a360) := blk_cellv (HS.out.at0) 2 rfl
                        have hc403 : w396.cell? ⟨g365, 3, none⟩ = some (.int .i64 a361) := blk_cellv (HS.out.at0) 3 rfl
                        have hc404 : w396.cell? ⟨g365, 4, none⟩ = some (.int .i64 a362) := blk_cellv (HS.out.at0) 4 rfl
                        have hc405 : w396.cell? ⟨g365, 5, none⟩ = some (.int .i64 a363) := blk_cellv (HS.out.at0) 5 rfl
                        have hc406 : w396.cell? ⟨g365, 0, none⟩ = some (.int .i64 a358) := blk_cellv (HS.out.at0) 0 rfl
                        replace HS : Aside0 (Sep (fps []) w [] w396) := ⟨HS.out.sub (.cons _ .slnil)⟩
                        go_wp2_with fail
                        clear hc398 hc401 hc402 hc403 hc404 hc405 hc406
                        go_ret
                        rw [← some_eq H]
                        exact ⟨(by first | rfl | (simp [IntKind.wrap_u32]; done)), (HS.out).keep (l := []) (rest := [])⟩
              · have H := if_no c397 H
                have c397b0 : t394 = false := by simpa using c397
                have c397b1 : (!t394) = true := by rw [c397b0]; rfl
                try rw [c397b1]
                clear c397
                replace HS : Aside0 (Sep (fps []) w [] w396) := ⟨HS.out.sub (.cons _ .slnil)⟩
                go_wp2_with fail
                go_ret
                rw [← some_eq H]
                exact ⟨(by first | rfl | (simp [IntKind.wrap_u32]; done)), (HS.out).keep (l := []) (rest := [])⟩
            · have H := if_no c392 H
              have c392b0 : t389 = false := by simpa using c392
              have c392b1 : (!t389) = true := by rw [c392b0]; rfl
              try rw [c392b1]
              clear c392
              replace HS : Aside0 (Sep (fps []) w [] w391) := ⟨HS.out.sub (.cons _ .slnil)⟩
              go_wp2_with fail
              go_ret
              rw [← some_eq H]
              exact ⟨(by first | rfl | (simp [IntKind.wrap_u32]; done)), (HS.out).keep (l := []) (rest := [])⟩
          · have H := if_no c387 H
            have c387b0 : t384 = false := by simpa using c387
            have c387b1 : (!t384) = true := by rw [c387b0]; rfl
            try rw [c387b1]
            clear c387
            replace HS : Aside0 (Sep (fps []) w [] w386) := ⟨HS.out.sub (.cons _ .slnil)⟩
            go_wp2_with fail
            go_ret
            rw [← some_eq H]
            exact ⟨(by first | rfl | (simp [IntKind.wrap_u32]; done)), (HS.out).keep (l := []) (rest := [])⟩
        · have H := if_no c382 H
          have c382b0 : t379 = false := by simpa using c382
          have c382b1 : (!t379) = true := by rw [c382b0]; rfl
          try rw [c382b1]
          clear c382
          replace HS : Aside0 (Sep (fps []) w [] w381) := ⟨HS.out.sub (.cons _ .slnil)⟩
          go_wp2_with fail
          go_ret
          rw [← some_eq H]
          exact ⟨(by first | rfl | (simp [IntKind.wrap_u32]; done)), (HS.out).keep (l := []) (rest := [])⟩
      · have H := if_no c377 H
        have c377b0 : t374 = false := by simpa using c377
        have c377b1 : (!t374) = true := by rw [c377b0]; rfl
        try rw [c377b1]
        clear c377
        replace HS : Aside0 (Sep (fps []) w [] w376) := ⟨HS.out.sub (.cons _ .slnil)⟩
        go_wp2_with fail
        go_ret
        rw [← some_eq H]
        exact ⟨(by first | rfl | (simp [IntKind.wrap_u32]; done)), (HS.out).keep (l := []) (rest := [])⟩

set_option maxHeartbeats 30000000 in
set_option maxRecDepth 100000 in
theorem quitrentref06_Pack.calls (a434 : Int) (a435 : Int) (a436 : Int) (a437 : Int) (a438 : Int) (a439 : Int) (a440 : Int) (r : Int) (w : World)  (HGl0 : Aside0 (Gl 0 #[.int .i64 0, .int .i64 0, .int .i64 0, .int .i64 0, .int .i64 0] (fps []) w)) (HGl1 : Aside0 (Gl 1 #[.string (⟨#[102, 114, 101, 101]⟩), .string (⟨#[115, 109, 97, 108, 108]⟩), .string (⟨#[115, 112, 105, 110, 101]⟩), .string (⟨#[108, 101, 97, 102]⟩)] (fps []) w)) (HS : Aside0 (Sep (fps []) w [] w)) (H : Aside0 (quitrentref06_Pack.f a434 a435 a436 a437 a438 a439 a440 = some r)) :
    Calls Tryd.prog 12 #[.agg #[.int .i64 a434, .int .i64 a435, .int .i64 a436, .int .i64 a437, .int .i64 a438, .int .i64 a439, .int .i64 a440]] w fun e w' => e = .returned (.int .u32 r) ∧ Sep (fps []) w [] w' := by
  unfold quitrentref06_Pack.f at H
  go_enter Tryd.func12, Tryd.ntmps12
  go_wp2_with (first | ((with_reducible refine gate_dst (N := 1) rfl ?_); refine box_on ?hg (N := 1) ?hd (cs := #[.int .i64 a434, .int .i64 a435, .int .i64 a436, .int .i64 a437, .int .i64 a438, .int .i64 a439, .int .i64 a440]) (t := 23) ?hr ?_; (case hd => rfl); (case hg => rfl); (case hr => first | (go_simp; done) | (go_simp; rfl)); intro g441 hg w442 hbox hb; replace HS : Aside0 (Sep (fps []) w [b1 g441 a434 a435 a436 a437 a438 a439 a440] w442) := ⟨HS.out.box hg hbox hb⟩; clear hg hbox hb; have hc444 : w442.cell? ⟨g441, 0, none⟩ = some (.int .i64 a434) := blk_cellv (HS.out.at0) 0 rfl; have hc445 : w442.cell? ⟨g441, 1, none⟩ = some (.int .i64 a435) := blk_cellv (HS.out.at0) 1 rfl; have hc446 : w442.cell? ⟨g441, 2, none⟩ = some (.int .i64 a436) := blk_cellv (HS.out.at0) 2 rfl; have hc447 : w442.cell? ⟨g441, 3, none⟩ = some (.int .i64 a437) := blk_cellv (HS.out.at0) 3 rfl; have hc448 : w442.cell? ⟨g441, 4, none⟩ = some (.int .i64 a438) := blk_cellv (HS.out.at0) 4 rfl; have hc449 : w442.cell? ⟨g441, 5, none⟩ = some (.int .i64 a439) := blk_cellv (HS.out.at0) 5 rfl; have hc450 : w442.cell? ⟨g441, 6, none⟩ = some (.int .i64 a440) := blk_cellv (HS.out.at0) 6 rfl; replace HS : Aside0 (Sep (fps []) w [] w442) := ⟨HS.out.sub (.cons _ .slnil)⟩))
  clear hc444 hc445 hc446 hc447 hc448 hc449 hc450
  go_ret
  rw [← some_eq H]
  exact ⟨(by first | rfl | (simp [IntKind.wrap_u32]; done)), (HS.out).keep (l := []) (rest := [])⟩

set_option maxHeartbeats 30000000 in
set_option maxRecDepth 100000 in
theorem tag_Name.calls (a466 : Int) (r : Unit ⊕ (Unit ⊕ (Unit ⊕ (Unit ⊕ Unit)))) (w : World)  (HGl0 : Aside0 (Gl 0 #[.int .i64 0, .int .i64 0, .int .i64 0, .int .i64 0, .int .i64 0] (fps []) w)) (HGl1 : Aside0 (Gl 1 #[.string (⟨#[102, 114, 101, 101]⟩), .string (⟨#[115, 109, 97, 108, 108]⟩), .string (⟨#[115, 112, 105, 110, 101]⟩), .string (⟨#[108, 101, 97, 102]⟩)] (fps []) w)) (HS : Aside0 (Sep (fps []) w [] w)) (H : Aside0 (tag_Name.f a466 = some r)) :
    Calls Tryd.prog 13 #[.int .i64 a466] w fun e w' => Sum.elim (fun (r : Unit) => e = .returned (.string (⟨#[]⟩)) ∧ Sep (fps []) w [] w') (fun (r_ : Unit ⊕ (Unit ⊕ (Unit ⊕ Unit))) => Sum.elim (fun (r : Unit) => e = .returned (.string (⟨#[102, 114, 101, 101]⟩)) ∧ Sep (fps []) w [] w') (fun (r_ : Unit ⊕ (Unit ⊕ Unit)) => Sum.elim (fun (r : Unit) => e = .returned (.string (⟨#[115, 109, 97, 108, 108]⟩)) ∧ Sep (fps []) w [] w') (fun (r_ : Unit ⊕ Unit) => Sum.elim (fun (r : Unit) => e = .returned (.string (⟨#[115, 112, 105, 110, 101]⟩)) ∧ Sep (fps []) w [] w') (fun (r : Unit) => e = .returned (.string (⟨#[108, 101, 97, 102]⟩)) ∧ Sep (fps []) w [] w') r_) r_) r_) r := by
  unfold tag_Name.f at H
  go_enter Tryd.func13, Tryd.ntmps13
  by_cases c512 : a466 < 0
  · have H := if_yes c512 H
    have c512b0 : decide (a466 < 0) = true := decide_eq_true c512
    clear c512
    go_wp2_with fail
    go_ret
    rw [← some_eq H]
    exact ⟨(by first | rfl | (simp [IntKind.wrap_u32]; done)), (HS.out).keep (l := []) (rest := [])⟩
  · have H := if_no c512 H
    have c512b0 : decide (a466 < 0) = false := decide_eq_false c512
    clear c512
    by_cases c513 : a466 ≥ 4
    · have H := if_yes c513 H
      have c513b0 : decide (4 ≤ a466) = true := decide_eq_true c513
      clear c513
      go_wp2_with fail
      go_ret
      rw [← some_eq H]
      exact ⟨(by first | rfl | (simp [IntKind.wrap_u32]; done)), (HS.out).keep (l := []) (rest := [])⟩
    · have H := if_no c513 H
      have c513b0 : decide (4 ≤ a466) = false := decide_eq_false c513
      clear c513
      by_cases c514 : 0 ≤ a466
      · have H := if_yes c514 H
        have c514b0 : decide (0 ≤ a466) = true := decide_eq_true c514
        have c514p : (0 ≤ a466) = True := eq_true c514
        clear c514
        by_cases c515 : a466 < 4
        · have H := if_yes c515 H
          have c515b0 : decide (a466 < 4) = true := decide_eq_true c515
          have c515p : (a466 < 4) = True := eq_true c515
          clear c515
          by_cases c516 : a466 = 0
          · have H := if_yes c516 H
            have c516b0 : (a466 == 0) = true := beq_iff_eq.mpr c516
            have c516b1 : (a466 != 0) = false := bne_eq_false_iff_eq.mpr c516
            have ix517 : ∀ w, (Instr.indexAt 55 (.pointer (some ⟨1, 0, none⟩)) (.int .i64 a466)).run Tryd.prog w = .ok (.pointer (some ⟨1, 0, none⟩)) w := run_indexAt_arr 55 9 4 1 0 1 .i64 a466 0 (by have := (of_decide_eq_true c514b0); have := (of_decide_eq_true c515b0); omega) (by decide) Tryd.underlying55 (fun _ => by kernel_rfl)
            skip
            have hc518 : w.cell? ⟨1, 0, none⟩ = some (.string (⟨#[102, 114, 101, 101]⟩)) := Gl.cell HGl1.out HS.out.fr 0 rfl
            go_wp2_with fail
            clear c516 hc518
            go_ret
            rw [← some_eq H]
            exact ⟨(by first | rfl | (simp [IntKind.wrap_u32]; done)), (HS.out).keep (l := []) (rest := [])⟩
          · have H := if_no c516 H
            have c516b0 : (a466 == 0) = false := beq_eq_false_iff_ne.mpr c516
            have c516b1 : (a466 != 0) = true := bne_iff_ne.mpr c516
            by_cases c519 : a466 = 1
            · have H := if_yes c519 H
              have c519b0 : (a466 == 1) = true := beq_iff_eq.mpr c519
              have c519b1 : (a466 != 1) = false := bne_eq_false_iff_eq.mpr c519
              have ix520 : ∀ w, (Instr.indexAt 55 (.pointer (some ⟨1, 0, none⟩)) (.int .i64 a466)).run Tryd.prog w = .ok (.pointer (some ⟨1, 1, none⟩)) w := run_indexAt_arr 55 9 4 1 0 1 .i64 a466 1 (by have := (of_decide_eq_true c514b0); have := (of_decide_eq_true c515b0); omega) (by decide) Tryd.underlying55 (fun _ => by kernel_rfl)
              skip
              skip
              have hc521 : w.cell? ⟨1, 1, none⟩ = some (.string (⟨#[115, 109, 97, 108, 108]⟩)) := Gl.cell HGl1.out HS.out.fr 1 rfl
              go_wp2_with fail
              clear c516 c519 hc521
              go_ret
              rw [← some_eq H]
              exact ⟨(by first | rfl | (simp [IntKind.wrap_u32]; done)), (HS.out).keep (l := []) (rest := [])⟩
            · have H := if_no c519 H
              have c519b0 : (a466 == 1) = false := beq_eq_false_iff_ne.mpr c519
              have c519b1 : (a466 != 1) = true := bne_iff_ne.mpr c519
              by_cases c522 : a466 = 2
              · have H := if_yes c522 H
                have c522b0 : (a466 == 2) = true := beq_iff_eq.mpr c522
                have c522b1 : (a466 != 2) = false := bne_eq_false_iff_eq.mpr c522
                have ix523 : ∀ w, (Instr.indexAt 55 (.pointer (some ⟨1, 0, none⟩)) (.int .i64 a466)).run Tryd.prog w = .ok (.pointer (some ⟨1, 2, none⟩)) w := run_indexAt_arr 55 9 4 1 0 1 .i64 a466 2 (by have := (of_decide_eq_true c514b0); have := (of_decide_eq_true c515b0); omega) (by decide) Tryd.underlying55 (fun _ => by kernel_rfl)
                skip
                skip
                skip
                have hc524 : w.cell? ⟨1, 2, none⟩ = some (.string (⟨#[115, 112, 105, 110, 101]⟩)) := Gl.cell HGl1.out HS.out.fr 2 rfl
                go_wp2_with fail
                clear c516 c519 c522 hc524
                go_ret
                rw [← some_eq H]
                exact ⟨(by first | rfl | (simp [IntKind.wrap_u32]; done)), (HS.out).keep (l := []) (rest := [])⟩
              · have H := if_no c522 H
                have c522b0 : (a466 == 2) = false := beq_eq_false_iff_ne.mpr c522
                have c522b1 : (a466 != 2) = true := bne_iff_ne.mpr c522
                have ix525 : ∀ w, (Instr.indexAt 55 (.pointer (some ⟨1, 0, none⟩)) (.int .i64 a466)).run Tryd.prog w = .ok (.pointer (some ⟨1, 3, none⟩)) w := run_indexAt_arr 55 9 4 1 0 1 .i64 a466 3 (by have := (of_decide_eq_true c514b0); have := (of_decide_eq_true c515b0); omega) (by decide) Tryd.underlying55 (fun _ => by kernel_rfl)
                skip
                skip
                skip
                have hc526 : w.cell? ⟨1, 3, none⟩ = some (.string (⟨#[108, 101, 97, 102]⟩)) := Gl.cell HGl1.out HS.out.fr 3 rfl
                go_wp2_with fail
                clear c516 c519 c522 hc526
                go_ret
                rw [← some_eq H]
                exact ⟨(by first | rfl | (simp [IntKind.wrap_u32]; done)), (HS.out).keep (l := []) (rest := [])⟩
        · have H := if_no c515 H
          have c515b0 : decide (a466 < 4) = false := decide_eq_false c515
          clear c515
          exact (none_no H).elim
      · have H := if_no c514 H
        have c514b0 : decide (0 ≤ a466) = false := decide_eq_false c514
        clear c514
        exact (none_no H).elim

set_option maxHeartbeats 30000000 in
set_option maxRecDepth 100000 in
theorem quitrentlaw06_begun.calls (k : Nat)  (r : Bool) (w : World)  (HGl0 : Aside0 (Gl 0 #[.int .i64 0, .int .i64 0, .int .i64 0, .int .i64 0, .int .i64 0] (fps []) w)) (HGl1 : Aside0 (Gl 1 #[.string (⟨#[102, 114, 101, 101]⟩), .string (⟨#[115, 109, 97, 108, 108]⟩), .string (⟨#[115, 112, 105, 110, 101]⟩), .string (⟨#[108, 101, 97, 102]⟩)] (fps []) w)) (HS : Aside0 (Sep (fps []) w [] w)) (H : Aside0 (quitrentlaw06_begun.f k = some r)) :
    Calls Tryd.prog 11 #[] w fun e w' => e = .returned (.bool r) ∧ Sep (fps []) w [] w' := by
  unfold quitrentlaw06_begun.f at H
  go_enter Tryd.func11, Tryd.ntmps11
  go_wp2_with fail
  obtain ⟨t456, HA457, H⟩ := bind_some H
  refine (tag_Pack.calls _ 3 0 0 0 0 0 3 t456 _ ⟨Gl.pass (l := []) (rest := []) HGl0.out HS.out⟩ ⟨Gl.pass (l := []) (rest := []) HGl1.out HS.out⟩ ⟨HS.out.begin (l := []) (rest := [])⟩ HA457).mono ?_
  rintro e_ w458 ⟨rfl, hS⟩
  replace HS : Aside0 (Sep (fps []) w [] w458) := ⟨HS.out.call (l := []) (rest := []) hS⟩
  clear hS
  go_wp2_with fail
  obtain ⟨t459, HA460, H⟩ := bind_some H
  refine (tag_Pack.calls _ 2 1 0 0 0 1 0 t459 _ ⟨Gl.pass (l := []) (rest := []) HGl0.out HS.out⟩ ⟨Gl.pass (l := []) (rest := []) HGl1.out HS.out⟩ ⟨HS.out.begin (l := []) (rest := [])⟩ HA460).mono ?_
  rintro e_ w461 ⟨rfl, hS⟩
  replace HS : Aside0 (Sep (fps []) w [] w461) := ⟨HS.out.call (l := []) (rest := []) hS⟩
  clear hS
  by_cases c462 : t456.1 = 771
  · have H := if_yes c462 H
    have c462b0 : (t456.1 == 771) = true := beq_iff_eq.mpr c462
    have c462b1 : (t456.1 != 771) = false := bne_eq_false_iff_eq.mpr c462
    clear c462
    by_cases c463 : t456.2 = 0
    · have H := if_yes c463 H
      have c463b0 : (t456.2 == 0) = true := beq_iff_eq.mpr c463
      have c463b1 : (t456.2 != 0) = false := bne_eq_false_iff_eq.mpr c463
      clear c463
      by_cases c464 : t459.1 = 70
      · have H := if_yes c464 H
        have c464b0 : (t459.1 == 70) = true := beq_iff_eq.mpr c464
        have c464b1 : (t459.1 != 70) = false := bne_eq_false_iff_eq.mpr c464
        clear c464
        by_cases c465 : t459.2 = 0
        · have H := if_yes c465 H
          have c465b0 : (t459.2 == 0) = true := beq_iff_eq.mpr c465
          have c465b1 : (t459.2 != 0) = false := bne_eq_false_iff_eq.mpr c465
          clear c465
          go_wp2_with fail
          obtain ⟨t527, HA528, H⟩ := bind_some H
          rcases t527 with t529 | (t530 | (t531 | (t532 | t533)))
          · have H := sum_l H
            refine (tag_Name.calls 3 (.inl t529) _ ⟨Gl.pass (l := []) (rest := []) HGl0.out HS.out⟩ ⟨Gl.pass (l := []) (rest := []) HGl1.out HS.out⟩ ⟨HS.out.begin (l := []) (rest := [])⟩ HA528).mono ?_
            rintro e_ w534 ⟨rfl, hS⟩
            replace HS : Aside0 (Sep (fps []) w [] w534) := ⟨HS.out.call (l := []) (rest := []) hS⟩
            clear hS
            go_wp2_with fail
            go_ret
            rw [← some_eq H]
            exact ⟨(by first | rfl | (simp [IntKind.wrap_u32]; done)), (HS.out).keep (l := []) (rest := [])⟩
          · have H := sum_r H
            have H := sum_l H
            refine (tag_Name.calls 3 (.inr (.inl t530)) _ ⟨Gl.pass (l := []) (rest := []) HGl0.out HS.out⟩ ⟨Gl.pass (l := []) (rest := []) HGl1.out HS.out⟩ ⟨HS.out.begin (l := []) (rest := [])⟩ HA528).mono ?_
            rintro e_ w535 ⟨rfl, hS⟩
            replace HS : Aside0 (Sep (fps []) w [] w535) := ⟨HS.out.call (l := []) (rest := []) hS⟩
            clear hS
            go_wp2_with fail
            go_ret
            rw [← some_eq H]
            exact ⟨(by first | rfl | (simp [IntKind.wrap_u32]; done)), (HS.out).keep (l := []) (rest := [])⟩
          · have H := sum_r H
            have H := sum_r H
            have H := sum_l H
            refine (tag_Name.calls 3 (.inr (.inr (.inl t531))) _ ⟨Gl.pass (l := []) (rest := []) HGl0.out HS.out⟩ ⟨Gl.pass (l := []) (rest := []) HGl1.out HS.out⟩ ⟨HS.out.begin (l := []) (rest := [])⟩ HA528).mono ?_
            rintro e_ w536 ⟨rfl, hS⟩
            replace HS : Aside0 (Sep (fps []) w [] w536) := ⟨HS.out.call (l := []) (rest := []) hS⟩
            clear hS
            go_wp2_with fail
            go_ret
            rw [← some_eq H]
            exact ⟨(by first | rfl | (simp [IntKind.wrap_u32]; done)), (HS.out).keep (l := []) (rest := [])⟩
          · have H := sum_r H
            have H := sum_r H
            have H := sum_r H
            have H := sum_l H
            refine (tag_Name.calls 3 (.inr (.inr (.inr (.inl t532)))) _ ⟨Gl.pass (l := []) (rest := []) HGl0.out HS.out⟩ ⟨Gl.pass (l := []) (rest := []) HGl1.out HS.out⟩ ⟨HS.out.begin (l := []) (rest := [])⟩ HA528).mono ?_
            rintro e_ w537 ⟨rfl, hS⟩
            replace HS : Aside0 (Sep (fps []) w [] w537) := ⟨HS.out.call (l := []) (rest := []) hS⟩
            clear hS
            go_wp2_with fail
            go_ret
            rw [← some_eq H]
            exact ⟨(by first | rfl | (simp [IntKind.wrap_u32]; done)), (HS.out).keep (l := []) (rest := [])⟩
          · have H := sum_r H
            have H := sum_r H
            have H := sum_r H
            have H := sum_r H
            refine (tag_Name.calls 3 (.inr (.inr (.inr (.inr t533)))) _ ⟨Gl.pass (l := []) (rest := []) HGl0.out HS.out⟩ ⟨Gl.pass (l := []) (rest := []) HGl1.out HS.out⟩ ⟨HS.out.begin (l := []) (rest := [])⟩ HA528).mono ?_
            rintro e_ w538 ⟨rfl, hS⟩
            replace HS : Aside0 (Sep (fps []) w [] w538) := ⟨HS.out.call (l := []) (rest := []) hS⟩
            clear hS
            go_wp2_with fail
            go_ret
            rw [← some_eq H]
            exact ⟨(by first | rfl | (simp [IntKind.wrap_u32]; done)), (HS.out).keep (l := []) (rest := [])⟩
        · have H := if_no c465 H
          have c465b0 : (t459.2 == 0) = false := beq_eq_false_iff_ne.mpr c465
          have c465b1 : (t459.2 != 0) = true := bne_iff_ne.mpr c465
          clear c465
          go_wp2_with fail
          go_ret
          rw [← some_eq H]
          exact ⟨(by first | rfl | (simp [IntKind.wrap_u32]; done)), (HS.out).keep (l := []) (rest := [])⟩
      · have H := if_no c464 H
        have c464b0 : (t459.1 == 70) = false := beq_eq_false_iff_ne.mpr c464
        have c464b1 : (t459.1 != 70) = true := bne_iff_ne.mpr c464
        clear c464
        go_wp2_with fail
        go_ret
        rw [← some_eq H]
        exact ⟨(by first | rfl | (simp [IntKind.wrap_u32]; done)), (HS.out).keep (l := []) (rest := [])⟩
    · have H := if_no c463 H
      have c463b0 : (t456.2 == 0) = false := beq_eq_false_iff_ne.mpr c463
      have c463b1 : (t456.2 != 0) = true := bne_iff_ne.mpr c463
      clear c463
      go_wp2_with fail
      go_ret
      rw [← some_eq H]
      exact ⟨(by first | rfl | (simp [IntKind.wrap_u32]; done)), (HS.out).keep (l := []) (rest := [])⟩
  · have H := if_no c462 H
    have c462b0 : (t456.1 == 771) = false := beq_eq_false_iff_ne.mpr c462
    have c462b1 : (t456.1 != 771) = true := bne_iff_ne.mpr c462
    clear c462
    go_wp2_with fail
    go_ret
    rw [← some_eq H]
    exact ⟨(by first | rfl | (simp [IntKind.wrap_u32]; done)), (HS.out).keep (l := []) (rest := [])⟩

set_option maxHeartbeats 30000000 in
set_option maxRecDepth 100000 in
theorem quitrentlaw06_TagPacks.calls (k : Nat) (a1 : Int) (a2 : Int) (a3 : Int) (a4 : Int) (a5 : Int) (a6 : Int) (a7 : Int) (r : Bool) (w : World)  (HGl0 : Aside0 (Gl 0 #[.int .i64 0, .int .i64 0, .int .i64 0, .int .i64 0, .int .i64 0] (fps []) w)) (HGl1 : Aside0 (Gl 1 #[.string (⟨#[102, 114, 101, 101]⟩), .string (⟨#[115, 109, 97, 108, 108]⟩), .string (⟨#[115, 112, 105, 110, 101]⟩), .string (⟨#[108, 101, 97, 102]⟩)] (fps []) w)) (HS : Aside0 (Sep (fps []) w [] w)) (H : Aside0 (quitrentlaw06_TagPacks.f k a1 a2 a3 a4 a5 a6 a7 = some r)) :
    Calls Tryd.prog 3 #[.agg #[.int .i64 a1, .int .i64 a2, .int .i64 a3, .int .i64 a4, .int .i64 a5, .int .i64 a6, .int .i64 a7]] w fun e w' => e = .returned (.bool r) ∧ Sep (fps []) w [] w' := by
  unfold quitrentlaw06_TagPacks.f at H
  go_enter Tryd.func3, Tryd.ntmps3
  go_wp2_with (first | ((with_reducible refine gate_dst (N := 1) rfl ?_); refine box_on ?hg (N := 1) ?hd (cs := #[.int .i64 a1, .int .i64 a2, .int .i64 a3, .int .i64 a4, .int .i64 a5, .int .i64 a6, .int .i64 a7]) (t := 23) ?hr ?_; (case hd => rfl); (case hg => rfl); (case hr => first | (go_simp; done) | (go_simp; rfl)); intro g8 hg w9 hbox hb; replace HS : Aside0 (Sep (fps []) w [b1 g8 a1 a2 a3 a4 a5 a6 a7] w9) := ⟨HS.out.box hg hbox hb⟩; clear hg hbox hb; have hc11 : w9.cell? ⟨g8, 0, none⟩ = some (.int .i64 a1) := blk_cellv (HS.out.at0) 0 rfl; have hc12 : w9.cell? ⟨g8, 1, none⟩ = some (.int .i64 a2) := blk_cellv (HS.out.at0) 1 rfl; have hc13 : w9.cell? ⟨g8, 2, none⟩ = some (.int .i64 a3) := blk_cellv (HS.out.at0) 2 rfl; have hc14 : w9.cell? ⟨g8, 3, none⟩ = some (.int .i64 a4) := blk_cellv (HS.out.at0) 3 rfl; have hc15 : w9.cell? ⟨g8, 4, none⟩ = some (.int .i64 a5) := blk_cellv (HS.out.at0) 4 rfl; have hc16 : w9.cell? ⟨g8, 5, none⟩ = some (.int .i64 a6) := blk_cellv (HS.out.at0) 5 rfl; have hc17 : w9.cell? ⟨g8, 6, none⟩ = some (.int .i64 a7) := blk_cellv (HS.out.at0) 6 rfl))
  clear hc11 hc12 hc13 hc14 hc15 hc16 hc17
  obtain ⟨t348, HA349, H⟩ := bind_some H
  refine (tag_Pack.calls _ a1 a2 a3 a4 a5 a6 a7 t348 _ ⟨Gl.pass (l := []) (rest := [b1 g8 a1 a2 a3 a4 a5 a6 a7]) HGl0.out HS.out⟩ ⟨Gl.pass (l := []) (rest := [b1 g8 a1 a2 a3 a4 a5 a6 a7]) HGl1.out HS.out⟩ ⟨HS.out.begin (l := []) (rest := [b1 g8 a1 a2 a3 a4 a5 a6 a7])⟩ HA349).mono ?_
  rintro e_ w350 ⟨rfl, hS⟩
  replace HS : Aside0 (Sep (fps []) w [b1 g8 a1 a2 a3 a4 a5 a6 a7] w350) := ⟨HS.out.call (l := []) (rest := [b1 g8 a1 a2 a3 a4 a5 a6 a7]) hS⟩
  clear hS
  have hc351 : w350.cell? ⟨g8, 0, none⟩ = some (.int .i64 a1) := blk_cellv (HS.out.at0) 0 rfl
  have hc352 : w350.cell? ⟨g8, 1, none⟩ = some (.int .i64 a2) := blk_cellv (HS.out.at0) 1 rfl
  have hc353 : w350.cell? ⟨g8, 2, none⟩ = some (.int .i64 a3) := blk_cellv (HS.out.at0) 2 rfl
  have hc354 : w350.cell? ⟨g8, 3, none⟩ = some (.int .i64 a4) := blk_cellv (HS.out.at0) 3 rfl
  have hc355 : w350.cell? ⟨g8, 4, none⟩ = some (.int .i64 a5) := blk_cellv (HS.out.at0) 4 rfl
  have hc356 : w350.cell? ⟨g8, 5, none⟩ = some (.int .i64 a6) := blk_cellv (HS.out.at0) 5 rfl
  have hc357 : w350.cell? ⟨g8, 6, none⟩ = some (.int .i64 a7) := blk_cellv (HS.out.at0) 6 rfl
  go_wp2_with fail
  clear hc351 hc352 hc353 hc354 hc355 hc356 hc357
  obtain ⟨t412, HA413, H⟩ := bind_some H
  refine (quitrentref06_Right.calls a1 a2 a3 a4 a5 a6 a7 t412 _ ⟨Gl.pass (l := []) (rest := [b1 g8 a1 a2 a3 a4 a5 a6 a7]) HGl0.out HS.out⟩ ⟨Gl.pass (l := []) (rest := [b1 g8 a1 a2 a3 a4 a5 a6 a7]) HGl1.out HS.out⟩ ⟨HS.out.begin (l := []) (rest := [b1 g8 a1 a2 a3 a4 a5 a6 a7])⟩ HA413).mono ?_
  rintro e_ w414 ⟨rfl, hS⟩
  replace HS : Aside0 (Sep (fps []) w [b1 g8 a1 a2 a3 a4 a5 a6 a7] w414) := ⟨HS.out.call (l := []) (rest := [b1 g8 a1 a2 a3 a4 a5 a6 a7]) hS⟩
  clear hS
  by_cases c415 : t412 = true
  · have H := if_yes c415 H
    have c415b0 : t412 = true := c415
    have c415b1 : (!t412) = false := by rw [c415b0]; rfl
    try rw [c415b1]
    clear c415
    have hc416 : w414.cell? ⟨g8, 0, none⟩ = some (.int .i64 a1) := blk_cellv (HS.out.at0) 0 rfl
    have hc417 : w414.cell? ⟨g8, 1, none⟩ = some (.int .i64 a2) := blk_cellv (HS.out.at0) 1 rfl
    have hc418 : w414.cell? ⟨g8, 2, none⟩ = some (.int .i64 a3) := blk_cellv (HS.out.at0) 2 rfl
    have hc419 : w414.cell? ⟨g8, 3, none⟩ = some (.int .i64 a4) := blk_cellv (HS.out.at0) 3 rfl
    have hc420 : w414.cell? ⟨g8, 4, none⟩ = some (.int .i64 a5) := blk_cellv (HS.out.at0) 4 rfl
    have hc421 : w414.cell? ⟨g8, 5, none⟩ = some (.int .i64 a6) := blk_cellv (HS.out.at0) 5 rfl
    have hc422 : w414.cell? ⟨g8, 6, none⟩ = some (.int .i64 a7) := blk_cellv (HS.out.at0) 6 rfl
    go_wp2_with fail
    clear hc416 hc417 hc418 hc419 hc420 hc421 hc422
    obtain ⟨t423, HA424, H⟩ := bind_some H
    refine (tag_Right.calls _ a1 a2 a3 a4 a5 a6 a7 t423 _ ⟨Gl.pass (l := []) (rest := [b1 g8 a1 a2 a3 a4 a5 a6 a7]) HGl0.out HS.out⟩ ⟨Gl.pass (l := []) (rest := [b1 g8 a1 a2 a3 a4 a5 a6 a7]) HGl1.out HS.out⟩ ⟨HS.out.begin (l := []) (rest := [b1 g8 a1 a2 a3 a4 a5 a6 a7])⟩ HA424).mono ?_
    rintro e_ w425 ⟨rfl, hS⟩
    replace HS : Aside0 (Sep (fps []) w [b1 g8 a1 a2 a3 a4 a5 a6 a7] w425) := ⟨HS.out.call (l := []) (rest := [b1 g8 a1 a2 a3 a4 a5 a6 a7]) hS⟩
    clear hS
    by_cases c426 : t423 = true
    · have H := if_yes c426 H
      have c426b0 : t423 = true := c426
      have c426b1 : (!t423) = false := by rw [c426b0]; rfl
      clear c426
      have hc427 : w425.cell? ⟨g8, 0, none⟩ = some (.int .i64 a1) := blk_cellv (HS.out.at0) 0 rfl
      have hc428 : w425.cell? ⟨g8, 1, none⟩ = some (.int .i64 a2) := blk_cellv (HS.out.at0) 1 rfl
      have hc429 : w425.cell? ⟨g8, 2, none⟩ = some (.int .i64 a3) := blk_cellv (HS.out.at0) 2 rfl
      have hc430 : w425.cell? ⟨g8, 3, none⟩ = some (.int .i64 a4) := blk_cellv (HS.out.at0) 3 rfl
      have hc431 : w425.cell? ⟨g8, 4, none⟩ = some (.int .i64 a5) := blk_cellv (HS.out.at0) 4 rfl
      have hc432 : w425.cell? ⟨g8, 5, none⟩ = some (.int .i64 a6) := blk_cellv (HS.out.at0) 5 rfl
      have hc433 : w425.cell? ⟨g8, 6, none⟩ = some (.int .i64 a7) := blk_cellv (HS.out.at0) 6 rfl
      go_wp2_with fail
      clear hc427 hc428 hc429 hc430 hc431 hc432 hc433
      obtain ⟨t451, HA452, H⟩ := bind_some H
      refine (quitrentref06_Pack.calls a1 a2 a3 a4 a5 a6 a7 t451 _ ⟨Gl.pass (l := []) (rest := [b1 g8 a1 a2 a3 a4 a5 a6 a7]) HGl0.out HS.out⟩ ⟨Gl.pass (l := []) (rest := [b1 g8 a1 a2 a3 a4 a5 a6 a7]) HGl1.out HS.out⟩ ⟨HS.out.begin (l := []) (rest := [b1 g8 a1 a2 a3 a4 a5 a6 a7])⟩ HA452).mono ?_
      rintro e_ w453 ⟨rfl, hS⟩
      replace HS : Aside0 (Sep (fps []) w [b1 g8 a1 a2 a3 a4 a5 a6 a7] w453) := ⟨HS.out.call (l := []) (rest := [b1 g8 a1 a2 a3 a4 a5 a6 a7]) hS⟩
      clear hS
      by_cases c454 : t348.1 = t451
      · have H := if_yes c454 H
        have c454b0 : (t348.1 == t451) = true := beq_iff_eq.mpr c454
        have c454b1 : (t348.1 != t451) = false := bne_eq_false_iff_eq.mpr c454
        clear c454
        by_cases c455 : t348.2 = 0
        · have H := if_yes c455 H
          have c455b0 : (t348.2 == 0) = true := beq_iff_eq.mpr c455
          have c455b1 : (t348.2 != 0) = false := bne_eq_false_iff_eq.mpr c455
          clear c455
          go_wp2_with fail
          obtain ⟨t539, HA540, H⟩ := bind_some H
          refine (quitrentlaw06_begun.calls _ t539 _ ⟨Gl.pass (l := []) (rest := [b1 g8 a1 a2 a3 a4 a5 a6 a7]) HGl0.out HS.out⟩ ⟨Gl.pass (l := []) (rest := [b1 g8 a1 a2 a3 a4 a5 a6 a7]) HGl1.out HS.out⟩ ⟨HS.out.begin (l := []) (rest := [b1 g8 a1 a2 a3 a4 a5 a6 a7])⟩ HA540).mono ?_
          rintro e_ w541 ⟨rfl, hS⟩
          replace HS : Aside0 (Sep (fps []) w [b1 g8 a1 a2 a3 a4 a5 a6 a7] w541) := ⟨HS.out.call (l := []) (rest := [b1 g8 a1 a2 a3 a4 a5 a6 a7]) hS⟩
          clear hS
          replace HS : Aside0 (Sep (fps []) w [] w541) := ⟨HS.out.sub (.cons _ .slnil)⟩
          go_wp2_with fail
          go_ret
          rw [← some_eq H]
          exact ⟨(by first | rfl | (simp [IntKind.wrap_u32]; done)), (HS.out).keep (l := []) (rest := [])⟩
        · have H := if_no c455 H
          have c455b0 : (t348.2 == 0) = false := beq_eq_false_iff_ne.mpr c455
          have c455b1 : (t348.2 != 0) = true := bne_iff_ne.mpr c455
          clear c455
          replace HS : Aside0 (Sep (fps []) w [] w453) := ⟨HS.out.sub (.cons _ .slnil)⟩
          go_wp2_with fail
          go_ret
          rw [← some_eq H]
          exact ⟨(by first | rfl | (simp [IntKind.wrap_u32]; done)), (HS.out).keep (l := []) (rest := [])⟩
      · have H := if_no c454 H
        have c454b0 : (t348.1 == t451) = false := beq_eq_false_iff_ne.mpr c454
        have c454b1 : (t348.1 != t451) = true := bne_iff_ne.mpr c454
        clear c454
        replace HS : Aside0 (Sep (fps []) w [] w453) := ⟨HS.out.sub (.cons _ .slnil)⟩
        go_wp2_with fail
        go_ret
        rw [← some_eq H]
        exact ⟨(by first | rfl | (simp [IntKind.wrap_u32]; done)), (HS.out).keep (l := []) (rest := [])⟩
    · have H := if_no c426 H
      have c426b0 : t423 = false := by simpa using c426
      have c426b1 : (!t423) = true := by rw [c426b0]; rfl
      clear c426
      replace HS : Aside0 (Sep (fps []) w [] w425) := ⟨HS.out.sub (.cons _ .slnil)⟩
      go_wp2_with fail
      go_ret
      rw [← some_eq H]
      exact ⟨(by first | rfl | (simp [IntKind.wrap_u32]; done)), (HS.out).keep (l := []) (rest := [])⟩
  · have H := if_no c415 H
    have c415b0 : t412 = false := by simpa using c415
    have c415b1 : (!t412) = true := by rw [c415b0]; rfl
    try rw [c415b1]
    clear c415
    have hc542 : w414.cell? ⟨g8, 0, none⟩ = some (.int .i64 a1) := blk_cellv (HS.out.at0) 0 rfl
    have hc543 : w414.cell? ⟨g8, 1, none⟩ = some (.int .i64 a2) := blk_cellv (HS.out.at0) 1 rfl
    have hc544 : w414.cell? ⟨g8, 2, none⟩ = some (.int .i64 a3) := blk_cellv (HS.out.at0) 2 rfl
    have hc545 : w414.cell? ⟨g8, 3, none⟩ = some (.int .i64 a4) := blk_cellv (HS.out.at0) 3 rfl
    have hc546 : w414.cell? ⟨g8, 4, none⟩ = some (.int .i64 a5) := blk_cellv (HS.out.at0) 4 rfl
    have hc547 : w414.cell? ⟨g8, 5, none⟩ = some (.int .i64 a6) := blk_cellv (HS.out.at0) 5 rfl
    have hc548 : w414.cell? ⟨g8, 6, none⟩ = some (.int .i64 a7) := blk_cellv (HS.out.at0) 6 rfl
    go_wp2_with fail
    clear hc542 hc543 hc544 hc545 hc546 hc547 hc548
    obtain ⟨t549, HA550, H⟩ := bind_some H
    refine (tag_Right.calls _ a1 a2 a3 a4 a5 a6 a7 t549 _ ⟨Gl.pass (l := []) (rest := [b1 g8 a1 a2 a3 a4 a5 a6 a7]) HGl0.out HS.out⟩ ⟨Gl.pass (l := []) (rest := [b1 g8 a1 a2 a3 a4 a5 a6 a7]) HGl1.out HS.out⟩ ⟨HS.out.begin (l := []) (rest := [b1 g8 a1 a2 a3 a4 a5 a6 a7])⟩ HA550).mono ?_
    rintro e_ w551 ⟨rfl, hS⟩
    replace HS : Aside0 (Sep (fps []) w [b1 g8 a1 a2 a3 a4 a5 a6 a7] w551) := ⟨HS.out.call (l := []) (rest := [b1 g8 a1 a2 a3 a4 a5 a6 a7]) hS⟩
    clear hS
    by_cases c552 : t549 = true
    · have H := if_yes c552 H
      have c552b0 : t549 = true := c552
      have c552b1 : (!t549) = false := by rw [c552b0]; rfl
      try rw [c552b1]
      clear c552
      replace HS : Aside0 (Sep (fps []) w [] w551) := ⟨HS.out.sub (.cons _ .slnil)⟩
      go_wp2_with fail
      go_ret
      rw [← some_eq H]
      exact ⟨(by first | rfl | (simp [IntKind.wrap_u32]; done)), (HS.out).keep (l := []) (rest := [])⟩
    · have H := if_no c552 H
      have c552b0 : t549 = false := by simpa using c552
      have c552b1 : (!t549) = true := by rw [c552b0]; rfl
      try rw [c552b1]
      clear c552
      by_cases c553 : t348.1 = 0
      · have H := if_yes c553 H
        have c553b0 : (t348.1 == 0) = true := beq_iff_eq.mpr c553
        have c553b1 : (t348.1 != 0) = false := bne_eq_false_iff_eq.mpr c553
        clear c553
        by_cases c554 : t348.2 = 2
        · have H := if_yes c554 H
          have c554b0 : (t348.2 == 2) = true := beq_iff_eq.mpr c554
          have c554b1 : (t348.2 != 2) = false := bne_eq_false_iff_eq.mpr c554
          clear c554
          go_wp2_with fail
          obtain ⟨t555, HA556, H⟩ := bind_some H
          refine (quitrentlaw06_begun.calls _ t555 _ ⟨Gl.pass (l := []) (rest := [b1 g8 a1 a2 a3 a4 a5 a6 a7]) HGl0.out HS.out⟩ ⟨Gl.pass (l := []) (rest := [b1 g8 a1 a2 a3 a4 a5 a6 a7]) HGl1.out HS.out⟩ ⟨HS.out.begin (l := []) (rest := [b1 g8 a1 a2 a3 a4 a5 a6 a7])⟩ HA556).mono ?_
          rintro e_ w557 ⟨rfl, hS⟩
          replace HS : Aside0 (Sep (fps []) w [b1 g8 a1 a2 a3 a4 a5 a6 a7] w557) := ⟨HS.out.call (l := []) (rest := [b1 g8 a1 a2 a3 a4 a5 a6 a7]) hS⟩
          clear hS
          replace HS : Aside0 (Sep (fps []) w [] w557) := ⟨HS.out.sub (.cons _ .slnil)⟩
          go_wp2_with fail
          go_ret
          rw [← some_eq H]
          exact ⟨(by first | rfl | (simp [IntKind.wrap_u32]; done)), (HS.out).keep (l := []) (rest := [])⟩
        · have H := if_no c554 H
          have c554b0 : (t348.2 == 2) = false := beq_eq_false_iff_ne.mpr c554
          have c554b1 : (t348.2 != 2) = true := bne_iff_ne.mpr c554
          clear c554
          replace HS : Aside0 (Sep (fps []) w [] w551) := ⟨HS.out.sub (.cons _ .slnil)⟩
          go_wp2_with fail
          go_ret
          rw [← some_eq H]
          exact ⟨(by first | rfl | (simp [IntKind.wrap_u32]; done)), (HS.out).keep (l := []) (rest := [])⟩
      · have H := if_no c553 H
        have c553b0 : (t348.1 == 0) = false := beq_eq_false_iff_ne.mpr c553
        have c553b1 : (t348.1 != 0) = true := bne_iff_ne.mpr c553
        clear c553
        replace HS : Aside0 (Sep (fps []) w [] w551) := ⟨HS.out.sub (.cons _ .slnil)⟩
        go_wp2_with fail
        go_ret
        rw [← some_eq H]
        exact ⟨(by first | rfl | (simp [IntKind.wrap_u32]; done)), (HS.out).keep (l := []) (rest := [])⟩

set_option maxHeartbeats 30000000 in
set_option maxRecDepth 100000 in
theorem pack_Get.calls (a595 : Int) (a596 : Int) (a597 : Int) (r : Int) (w : World)  (HGl0 : Aside0 (Gl 0 #[.int .i64 0, .int .i64 0, .int .i64 0, .int .i64 0, .int .i64 0] (fps []) w)) (HGl1 : Aside0 (Gl 1 #[.string (⟨#[102, 114, 101, 101]⟩), .string (⟨#[115, 109, 97, 108, 108]⟩), .string (⟨#[115, 112, 105, 110, 101]⟩), .string (⟨#[108, 101, 97, 102]⟩)] (fps []) w)) (HS : Aside0 (Sep (fps []) w [] w)) (H : Aside0 (pack_Get.f a595 a596 a597 = some r)) :
    Calls Tryd.prog 30 #[.int .u32 a595, .int .i64 a596, .int .i64 a597] w fun e w' => e = .returned (.int .u32 r) ∧ Sep (fps []) w [] w' := by
  unfold pack_Get.f at H
  go_enter Tryd.func30, Tryd.ntmps30
  go_wp2_with fail
  obtain ⟨t598, HA599, H⟩ := bind_some H
  refine (pack_isPiece.calls a596 a597 t598 _ ⟨Gl.pass (l := []) (rest := []) HGl0.out HS.out⟩ ⟨Gl.pass (l := []) (rest := []) HGl1.out HS.out⟩ ⟨HS.out.begin (l := []) (rest := [])⟩ HA599).mono ?_
  rintro e_ w600 ⟨rfl, hS⟩
  replace HS : Aside0 (Sep (fps []) w [] w600) := ⟨HS.out.call (l := []) (rest := []) hS⟩
  clear hS
  by_cases c601 : t598 = true
  · have H := if_yes c601 H
    have c601b0 : t598 = true := c601
    have c601b1 : (!t598) = false := by rw [c601b0]; rfl
    try rw [c601b1]
    clear c601
    go_wp2_with fail
    obtain ⟨t602, HA603, H⟩ := bind_some H
    refine (pack_mask.calls a596 a597 t602 _ ⟨Gl.pass (l := []) (rest := []) HGl0.out HS.out⟩ ⟨Gl.pass (l := []) (rest := []) HGl1.out HS.out⟩ ⟨HS.out.begin (l := []) (rest := [])⟩ HA603).mono ?_
    rintro e_ w604 ⟨rfl, hS⟩
    replace HS : Aside0 (Sep (fps []) w [] w604) := ⟨HS.out.call (l := []) (rest := []) hS⟩
    clear hS
    by_cases c605 : 0 ≤ (IntKind.u64.wrap (a596))
    · have H := if_yes c605 H
      have c605b0 : decide (0 ≤ (IntKind.u64.wrap (a596))) = true := decide_eq_true c605
      skip
      go_wp2_with fail
      clear c605
      go_ret
      rw [← some_eq H]
      exact ⟨(by first | rfl | (simp [IntKind.wrap_u32]; done)), (HS.out).keep (l := []) (rest := [])⟩
    · have H := if_no c605 H
      have c605b0 : decide (0 ≤ (IntKind.u64.wrap (a596))) = false := decide_eq_false c605
      exact (none_no H).elim
  · have H := if_no c601 H
    have c601b0 : t598 = false := by simpa using c601
    have c601b1 : (!t598) = true := by rw [c601b0]; rfl
    try rw [c601b1]
    clear c601
    go_wp2_with fail
    go_ret
    rw [← some_eq H]
    exact ⟨(by first | rfl | (simp [IntKind.wrap_u32]; done)), (HS.out).keep (l := []) (rest := [])⟩

set_option maxHeartbeats 30000000 in
set_option maxRecDepth 100000 in
theorem tag_Unpack_1.calls (a589 : Int) (a590 : Int) (a593 : Int) (g592 : Nat) (r : Int) (w : World)  (HGl0 : Aside0 (Gl 0 #[.int .i64 0, .int .i64 0, .int .i64 0, .int .i64 0, .int .i64 0] (fps [b3 g592 a593]) w)) (HGl1 : Aside0 (Gl 1 #[.string (⟨#[102, 114, 101, 101]⟩), .string (⟨#[115, 109, 97, 108, 108]⟩), .string (⟨#[115, 112, 105, 110, 101]⟩), .string (⟨#[108, 101, 97, 102]⟩)] (fps [b3 g592 a593]) w)) (HS : Aside0 (Sep (fps [b3 g592 a593]) w [b3 g592 a593] w)) (H : Aside0 (tag_Unpack_1.f a589 a590 a593 = some r)) :
    Calls Tryd.prog 38 #[.int .i64 a589, .int .i64 a590, .pointer (some ⟨g592, 0, none⟩)] w fun e w' => e = .returned (.int .i64 r) ∧ Sep (fps [b3 g592 a593]) w [b3 g592 a593] w' := by
  generalize (fps [b3 g592 a593]) = FF at HS HGl0 HGl1 ⊢
  unfold tag_Unpack_1.f at H
  go_enter Tryd.func38, Tryd.ntmps38
  have hc594 : w.cell? ⟨g592, 0, none⟩ = some (.int .u32 a593) := blk_cellv (HS.out.at0) 0 rfl
  go_wp2_with fail
  clear hc594
  obtain ⟨t606, HA607, H⟩ := bind_some H
  refine (pack_Get.calls a593 a589 a590 t606 _ ⟨Gl.pass (l := []) (rest := [b3 g592 a593]) HGl0.out HS.out⟩ ⟨Gl.pass (l := []) (rest := [b3 g592 a593]) HGl1.out HS.out⟩ ⟨HS.out.begin (l := []) (rest := [b3 g592 a593])⟩ HA607).mono ?_
  rintro e_ w608 ⟨rfl, hS⟩
  replace HS : Aside0 (Sep FF w [b3 g592 a593] w608) := ⟨HS.out.call (l := []) (rest := [b3 g592 a593]) hS⟩
  clear hS
  go_wp2_with fail
  go_ret
  rw [← some_eq H]
  exact ⟨(by first | rfl | (simp [IntKind.wrap_u32]; done)), (HS.out).keep (l := [b3 g592 a593]) (rest := [])⟩

set_option maxHeartbeats 30000000 in
set_option maxRecDepth 100000 in
theorem tag_Unpack.calls (a582 : Int) (r : Int × Int × Int × Int × Int × Int × Int) (w : World)  (HGl0 : Aside0 (Gl 0 #[.int .i64 0, .int .i64 0, .int .i64 0, .int .i64 0, .int .i64 0] (fps []) w)) (HGl1 : Aside0 (Gl 1 #[.string (⟨#[102, 114, 101, 101]⟩), .string (⟨#[115, 109, 97, 108, 108]⟩), .string (⟨#[115, 112, 105, 110, 101]⟩), .string (⟨#[108, 101, 97, 102]⟩)] (fps []) w)) (HS : Aside0 (Sep (fps []) w [] w)) (H : Aside0 (tag_Unpack.f a582 = some r)) :
    Calls Tryd.prog 21 #[.int .u32 a582] w fun e w' => e = .returned (.agg #[.int .i64 r.1, .int .i64 r.2.1, .int .i64 r.2.2.1, .int .i64 r.2.2.2.1, .int .i64 r.2.2.2.2.1, .int .i64 r.2.2.2.2.2.1, .int .i64 r.2.2.2.2.2.2]) ∧ Sep (fps []) w [] w' := by
  unfold tag_Unpack.f at H
  go_enter Tryd.func21, Tryd.ntmps21
  go_wp2_with (first | ((with_reducible refine gate_dst (N := 1) rfl ?_); refine box_on ?hg (N := 1) ?hd (cs := #[.int .u32 a582]) (t := 24) ?hr ?_; (case hd => rfl); (case hg => rfl); (case hr => first | (go_simp; done) | (go_simp; rfl)); intro g583 hg w584 hbox hb; replace HS : Aside0 (Sep (fps []) w [b3 g583 a582] w584) := ⟨HS.out.box hg hbox hb⟩; clear hg hbox hb) | ((with_reducible refine gate_dst (N := 2) rfl ?_); refine box_on ?hg (N := 2) ?hd (cs := #[.int .i64 0, .int .i64 0, .int .i64 0, .int .i64 0, .int .i64 0, .int .i64 0, .int .i64 0]) (t := 23) ?hr ?_; (case hd => rfl); (case hg => rfl); (case hr => first | (go_simp; done) | (go_simp; rfl)); intro g586 hg w587 hbox hb; replace HS : Aside0 (Sep (fps []) w [b3 g583 a582, b1 g586 0 0 0 0 0 0 0] w587) := ⟨HS.out.box hg hbox hb⟩; clear hg hbox hb))
  obtain ⟨t609, HA610, H⟩ := bind_some H
  refine (tag_Unpack_1.calls 0 2 a582 g583 t609 _ ⟨Gl.pass (l := [b3 g583 a582]) (rest := [b1 g586 0 0 0 0 0 0 0]) HGl0.out HS.out⟩ ⟨Gl.pass (l := [b3 g583 a582]) (rest := [b1 g586 0 0 0 0 0 0 0]) HGl1.out HS.out⟩ ⟨HS.out.begin (l := [b3 g583 a582]) (rest := [b1 g586 0 0 0 0 0 0 0])⟩ HA610).mono ?_
  rintro e_ w611 ⟨rfl, hS⟩
  replace HS : Aside0 (Sep (fps []) w [b3 g583 a582, b1 g586 0 0 0 0 0 0 0] w611) := ⟨HS.out.call (l := [b3 g583 a582]) (rest := [b1 g586 0 0 0 0 0 0 0]) hS⟩
  clear hS
  go_wp2_with fail
  obtain ⟨t612, HA613, H⟩ := bind_some H
  refine (tag_Unpack_1.calls 2 1 a582 g583 t612 _ ⟨Gl.pass (l := [b3 g583 a582]) (rest := [b1 g586 0 0 0 0 0 0 0]) HGl0.out HS.out⟩ ⟨Gl.pass (l := [b3 g583 a582]) (rest := [b1 g586 0 0 0 0 0 0 0]) HGl1.out HS.out⟩ ⟨HS.out.begin (l := [b3 g583 a582]) (rest := [b1 g586 0 0 0 0 0 0 0])⟩ HA613).mono ?_
  rintro e_ w614 ⟨rfl, hS⟩
  replace HS : Aside0 (Sep (fps []) w [b3 g583 a582, b1 g586 0 0 0 0 0 0 0] w614) := ⟨HS.out.call (l := [b3 g583 a582]) (rest := [b1 g586 0 0 0 0 0 0 0]) hS⟩
  clear hS
  go_wp2_with fail
  obtain ⟨t615, HA616, H⟩ := bind_some H
  refine (tag_Unpack_1.calls 3 1 a582 g583 t615 _ ⟨Gl.pass (l := [b3 g583 a582]) (rest := [b1 g586 0 0 0 0 0 0 0]) HGl0.out HS.out⟩ ⟨Gl.pass (l := [b3 g583 a582]) (rest := [b1 g586 0 0 0 0 0 0 0]) HGl1.out HS.out⟩ ⟨HS.out.begin (l := [b3 g583 a582]) (rest := [b1 g586 0 0 0 0 0 0 0])⟩ HA616).mono ?_
  rintro e_ w617 ⟨rfl, hS⟩
  replace HS : Aside0 (Sep (fps []) w [b3 g583 a582, b1 g586 0 0 0 0 0 0 0] w617) := ⟨HS.out.call (l := [b3 g583 a582]) (rest := [b1 g586 0 0 0 0 0 0 0]) hS⟩
  clear hS
  go_wp2_with fail
  obtain ⟨t618, HA619, H⟩ := bind_some H
  refine (tag_Unpack_1.calls 4 1 a582 g583 t618 _ ⟨Gl.pass (l := [b3 g583 a582]) (rest := [b1 g586 0 0 0 0 0 0 0]) HGl0.out HS.out⟩ ⟨Gl.pass (l := [b3 g583 a582]) (rest := [b1 g586 0 0 0 0 0 0 0]) HGl1.out HS.out⟩ ⟨HS.out.begin (l := [b3 g583 a582]) (rest := [b1 g586 0 0 0 0 0 0 0])⟩ HA619).mono ?_
  rintro e_ w620 ⟨rfl, hS⟩
  replace HS : Aside0 (Sep (fps []) w [b3 g583 a582, b1 g586 0 0 0 0 0 0 0] w620) := ⟨HS.out.call (l := [b3 g583 a582]) (rest := [b1 g586 0 0 0 0 0 0 0]) hS⟩
  clear hS
  go_wp2_with fail
  obtain ⟨t621, HA622, H⟩ := bind_some H
  refine (tag_Unpack_1.calls 5 1 a582 g583 t621 _ ⟨Gl.pass (l := [b3 g583 a582]) (rest := [b1 g586 0 0 0 0 0 0 0]) HGl0.out HS.out⟩ ⟨Gl.pass (l := [b3 g583 a582]) (rest := [b1 g586 0 0 0 0 0 0 0]) HGl1.out HS.out⟩ ⟨HS.out.begin (l := [b3 g583 a582]) (rest := [b1 g586 0 0 0 0 0 0 0])⟩ HA622).mono ?_
  rintro e_ w623 ⟨rfl, hS⟩
  replace HS : Aside0 (Sep (fps []) w [b3 g583 a582, b1 g586 0 0 0 0 0 0 0] w623) := ⟨HS.out.call (l := [b3 g583 a582]) (rest := [b1 g586 0 0 0 0 0 0 0]) hS⟩
  clear hS
  go_wp2_with fail
  obtain ⟨t624, HA625, H⟩ := bind_some H
  refine (tag_Unpack_1.calls 6 1 a582 g583 t624 _ ⟨Gl.pass (l := [b3 g583 a582]) (rest := [b1 g586 0 0 0 0 0 0 0]) HGl0.out HS.out⟩ ⟨Gl.pass (l := [b3 g583 a582]) (rest := [b1 g586 0 0 0 0 0 0 0]) HGl1.out HS.out⟩ ⟨HS.out.begin (l := [b3 g583 a582]) (rest := [b1 g586 0 0 0 0 0 0 0])⟩ HA625).mono ?_
  rintro e_ w626 ⟨rfl, hS⟩
  replace HS : Aside0 (Sep (fps []) w [b3 g583 a582, b1 g586 0 0 0 0 0 0 0] w626) := ⟨HS.out.call (l := [b3 g583 a582]) (rest := [b1 g586 0 0 0 0 0 0 0]) hS⟩
  clear hS
  go_wp2_with fail
  obtain ⟨t627, HA628, H⟩ := bind_some H
  refine (tag_Unpack_1.calls 8 24 a582 g583 t627 _ ⟨Gl.pass (l := [b3 g583 a582]) (rest := [b1 g586 0 0 0 0 0 0 0]) HGl0.out HS.out⟩ ⟨Gl.pass (l := [b3 g583 a582]) (rest := [b1 g586 0 0 0 0 0 0 0]) HGl1.out HS.out⟩ ⟨HS.out.begin (l := [b3 g583 a582]) (rest := [b1 g586 0 0 0 0 0 0 0])⟩ HA628).mono ?_
  rintro e_ w629 ⟨rfl, hS⟩
  replace HS : Aside0 (Sep (fps []) w [b3 g583 a582, b1 g586 0 0 0 0 0 0 0] w629) := ⟨HS.out.call (l := [b3 g583 a582]) (rest := [b1 g586 0 0 0 0 0 0 0]) hS⟩
  clear hS
  have hc630 : w629.cell? ⟨g586, 0, none⟩ = some (.int .i64 0) := blk_cellv (HS.out.at1) 0 rfl
  have hz631 : w629.frozen? ⟨g586, 0, none⟩ = false := blk_fz (HS.out.at1) 0
  have hc632 : w629.cell? ⟨g586, 1, none⟩ = some (.int .i64 0) := blk_cellv (HS.out.at1) 1 rfl
  have hz633 : w629.frozen? ⟨g586, 1, none⟩ = false := blk_fz (HS.out.at1) 1
  have hc634 : w629.cell? ⟨g586, 2, none⟩ = some (.int .i64 0) := blk_cellv (HS.out.at1) 2 rfl
  have hz635 : w629.frozen? ⟨g586, 2, none⟩ = false := blk_fz (HS.out.at1) 2
  have hc636 : w629.cell? ⟨g586, 3, none⟩ = some (.int .i64 0) := blk_cellv (HS.out.at1) 3 rfl
  have hz637 : w629.frozen? ⟨g586, 3, none⟩ = false := blk_fz (HS.out.at1) 3
  have hc638 : w629.cell? ⟨g586, 4, none⟩ = some (.int .i64 0) := blk_cellv (HS.out.at1) 4 rfl
  have hz639 : w629.frozen? ⟨g586, 4, none⟩ = false := blk_fz (HS.out.at1) 4
  have hc640 : w629.cell? ⟨g586, 5, none⟩ = some (.int .i64 0) := blk_cellv (HS.out.at1) 5 rfl
  have hz641 : w629.frozen? ⟨g586, 5, none⟩ = false := blk_fz (HS.out.at1) 5
  have hc642 : w629.cell? ⟨g586, 6, none⟩ = some (.int .i64 0) := blk_cellv (HS.out.at1) 6 rfl
  have hz643 : w629.frozen? ⟨g586, 6, none⟩ = false := blk_fz (HS.out.at1) 6
  go_wp2_with (first | ((with_reducible refine gate_store (t := 23) (p := 2) rfl ?_); refine store_event (w1 := (World.setCell (World.setCell (World.setCell (World.setCell (World.setCell (World.setCell (World.setCell w629 ⟨g586, 0, none⟩ (.int .i64 t609)) ⟨g586, 1, none⟩ (.int .i64 t612)) ⟨g586, 2, none⟩ (.int .i64 t615)) ⟨g586, 3, none⟩ (.int .i64 t618)) ⟨g586, 4, none⟩ (.int .i64 t621)) ⟨g586, 5, none⟩ (.int .i64 t624)) ⟨g586, 6, none⟩ (.int .i64 t627))) rfl (t := 23) (p := 2) rfl rfl ?hr ?_; (case hr => first | (go_simp; done) | (go_simp; rfl)); intro w644 hst; clear hc630 hz631 hc632 hz633 hc634 hz635 hc636 hz637 hc638 hz639 hc640 hz641 hc642 hz643; replace HS : Aside0 (Sep (fps []) w [b3 g583 a582, b1 g586 t609 t612 t615 t618 t621 t624 t627] w644) := ⟨by rw [hst]; exact HS.out.setAll (l1 := [b3 g583 a582]) (l2 := []) [.int .i64 t609, .int .i64 t612, .int .i64 t615, .int .i64 t618, .int .i64 t621, .int .i64 t624, .int .i64 t627] rfl⟩; clear hst; replace HS : Aside0 (Sep (fps []) w [b1 g586 t609 t612 t615 t618 t621 t624 t627] w644) := ⟨HS.out.sub (.cons _ (.cons_cons _ .slnil))⟩))
  have hc645 : w644.cell? ⟨g586, 0, none⟩ = some (.int .i64 t609) := blk_cellv (HS.out.at0) 0 rfl
  have hc646 : w644.cell? ⟨g586, 1, none⟩ = some (.int .i64 t612) := blk_cellv (HS.out.at0) 1 rfl
  have hc647 : w644.cell? ⟨g586, 2, none⟩ = some (.int .i64 t615) := blk_cellv (HS.out.at0) 2 rfl
  have hc648 : w644.cell? ⟨g586, 3, none⟩ = some (.int .i64 t618) := blk_cellv (HS.out.at0) 3 rfl
  have hc649 : w644.cell? ⟨g586, 4, none⟩ = some (.int .i64 t621) := blk_cellv (HS.out.at0) 4 rfl
  have hc650 : w644.cell? ⟨g586, 5, none⟩ = some (.int .i64 t624) := blk_cellv (HS.out.at0) 5 rfl
  have hc651 : w644.cell? ⟨g586, 6, none⟩ = some (.int .i64 t627) := blk_cellv (HS.out.at0) 6 rfl
  refine bodyPost_ret (v := .agg #[.int .i64 t609, .int .i64 t612, .int .i64 t615, .int .i64 t618, .int .i64 t621, .int .i64 t624, .int .i64 t627]) (by simp [results, Tryd.results21, go_sem, hc645, hc646, hc647, hc648, hc649, hc650, hc651]) rfl ?_
  rw [← some_eq H]
  exact ⟨(by first | rfl | (simp [IntKind.wrap_u32]; done)), (HS.out).keep (l := []) (rest := [b1 g586 t609 t612 t615 t618 t621 t624 t627])⟩
end Go.Proofs.YtgkpcboaiaiahabDoor.C

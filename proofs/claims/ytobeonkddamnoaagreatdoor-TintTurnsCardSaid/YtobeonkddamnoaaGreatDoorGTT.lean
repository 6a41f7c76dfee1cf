/- Each function of the group TT does what its plain function says, and changes nothing that was there; proved by walking its code. No condition. -/
import Derived.Test.YtobeonkddamnoaaGreatDoorQw
import Derived.Test.YtobeonkddamnoaaGreatDoorMTT
import Derived.Test.YtobeonkddamnoaaGreatDoorGTT0
import Derived.Test.YtobeonkddamnoaaGreatDoorGTT1
import Derived.Test.YtobeonkddamnoaaGreatDoorGTT2
namespace Go.Proofs.YtobeonkddamnoaaGreatDoor.C
open Go.RowKit Go.Proofs.YtobeonkddamnoaaGreatDoorW.PrintWords Go.Proofs.YtobeonkddamnoaaGreatDoorW.PrintLast Go.Proofs.YtobeonkddamnoaaGreatDoor.Q Go.Proofs.YtobeonkddamnoaaGreatDoor.M
set_option linter.unusedVariables false
set_option linter.unusedSimpArgs false
set_option maxHeartbeats 30000000 in
set_option maxRecDepth 100000 in
theorem ring_mark.calls (k : Nat) (l4516 : List Int) (a4521 : Int) (a4522 : Int) (a4523 : Int) (a4524 : Int) (a4525 : Int) (a4526 : Int) (a4527 : Int) (a4528 : Int) (a4529 : Int) (a4530 : Int) (a4531 : Int) (a4532 : Int) (a4533 : Int) (a4534 : Int) (g4512 : Nat) (g4514 : Nat) (A4517 : Option Addr) (m4518 : Nat) (n4519 : Nat) (r : Int × List Int) (w : World)  (HGl0 : Aside0 (Gl 0 #[.int .i64 0, .int .i64 0, .int .i64 0, .int .i64 0, .int .i64 0] (fps [b7 g4512 g4514 a4522 a4523 a4524 a4525, b6 g4514 A4517 m4518 n4519 a4521, r5 A4517 m4518 n4519 l4516]) w)) (HS : Aside0 (Sep (fps [b7 g4512 g4514 a4522 a4523 a4524 a4525, b6 g4514 A4517 m4518 n4519 a4521, r5 A4517 m4518 n4519 l4516]) w [b7 g4512 g4514 a4522 a4523 a4524 a4525, b6 g4514 A4517 m4518 n4519 a4521, r5 A4517 m4518 n4519 l4516] w)) (H : Aside0 (ring_mark.f k l4516 a4521 a4522 a4523 a4524 a4525 a4526 a4527 a4528 a4529 a4530 a4531 a4532 a4533 a4534 = some r)) :
    Calls Tryz.prog 110 #[.pointer (some ⟨g4512, 0, none⟩), .int .i64 a4526, .agg #[.int .i64 a4527, .int .i64 a4528, .int .i64 a4529, .int .i64 a4530, .int .i64 a4531, .int .i64 a4532, .int .i64 a4533], .int .i64 a4534] w fun e w' => e = .returned (.tuple #[]) ∧ Sep (fps [b7 g4512 g4514 a4522 a4523 a4524 a4525, b6 g4514 A4517 m4518 n4519 a4521, r5 A4517 m4518 n4519 l4516]) w [b7 g4512 g4514 a4522 a4523 a4524 a4525, b6 g4514 A4517 m4518 n4519 r.1, r5 A4517 m4518 n4519 r.2] w' := by
  generalize (fps [b7 g4512 g4514 a4522 a4523 a4524 a4525, b6 g4514 A4517 m4518 n4519 a4521, r5 A4517 m4518 n4519 l4516]) = FF at HS HGl0 ⊢
  obtain rfl := (row_len (HS.out.at2)).symm
  unfold ring_mark.f at H
  go_enter Tryz.func110, Tryz.ntmps110
  go_wp2_with (first | ((with_reducible refine gate_dst (N := 6) rfl ?_); refine box_on ?hg (N := 6) ?hd (cs := #[.int .i64 a4527, .int .i64 a4528, .int .i64 a4529, .int .i64 a4530, .int .i64 a4531, .int .i64 a4532, .int .i64 a4533]) (t := 79) ?hr ?_; (case hd => rfl); (case hg => rfl); (case hr => first | (go_simp; done) | (go_simp; rfl)); intro g4555 hg w4556 hbox hb; replace HS : Aside0 (Sep FF w [b7 g4512 g4514 a4522 a4523 a4524 a4525, b6 g4514 A4517 l4516.length n4519 a4521, r5 A4517 l4516.length n4519 l4516, b16 g4555 a4527 a4528 a4529 a4530 a4531 a4532 a4533] w4556) := ⟨HS.out.box hg hbox hb⟩; clear hg hbox hb; have hc4558 : w4556.cell? ⟨g4555, 5, none⟩ = some (.int .i64 a4532) := blk_cellv (HS.out.at3) 5 rfl; have hz4559 : w4556.frozen? ⟨g4555, 5, none⟩ = false := blk_fz (HS.out.at3) 5) | ((with_reducible refine gate_store (t := 3) (p := 11) rfl ?_); refine store_event (w1 := (World.setCell w4556 ⟨g4555, 5, none⟩ (.int .i64 a4534))) rfl (t := 3) (p := 11) rfl rfl ?hr ?_; (case hr => first | (go_simp; done) | (go_simp; rfl)); intro w4560 hst; clear hc4558 hz4559; have hq0 : Sep FF w [b7 g4512 g4514 a4522 a4523 a4524 a4525, b6 g4514 A4517 l4516.length n4519 a4521, r5 A4517 l4516.length n4519 l4516, b16 g4555 a4527 a4528 a4529 a4530 a4531 a4534 a4533] (World.setCell w4556 ⟨g4555, 5, none⟩ (.int .i64 a4534)) := (HS.out).set1 (l1 := [b7 g4512 g4514 a4522 a4523 a4524 a4525, b6 g4514 A4517 l4516.length n4519 a4521, r5 A4517 l4516.length n4519 l4516]) (l2 := []) 5 (.int .i64 a4534); replace HS : Aside0 (Sep FF w [b7 g4512 g4514 a4522 a4523 a4524 a4525, b6 g4514 A4517 l4516.length n4519 a4521, r5 A4517 l4516.length n4519 l4516, b16 g4555 a4527 a4528 a4529 a4530 a4531 a4534 a4533] w4560) := ⟨by rw [hst]; exact hq0⟩; clear hq0; clear hst; have hc4561 : w4560.cell? ⟨g4555, 0, none⟩ = some (.int .i64 a4527) := blk_cellv (HS.out.at3) 0 rfl; have hc4562 : w4560.cell? ⟨g4555, 1, none⟩ = some (.int .i64 a4528) := blk_cellv (HS.out.at3) 1 rfl; have hc4563 : w4560.cell? ⟨g4555, 2, none⟩ = some (.int .i64 a4529) := blk_cellv (HS.out.at3) 2 rfl; have hc4564 : w4560.cell? ⟨g4555, 3, none⟩ = some (.int .i64 a4530) := blk_cellv (HS.out.at3) 3 rfl; have hc4565 : w4560.cell? ⟨g4555, 4, none⟩ = some (.int .i64 a4531) := blk_cellv (HS.out.at3) 4 rfl; have hc4566 : w4560.cell? ⟨g4555, 5, none⟩ = some (.int .i64 a4534) := blk_cellv (HS.out.at3) 5 rfl; have hc4567 : w4560.cell? ⟨g4555, 6, none⟩ = some (.int .i64 a4533) := blk_cellv (HS.out.at3) 6 rfl))
  clear hc4561 hc4562 hc4563 hc4564 hc4565 hc4566 hc4567
  obtain ⟨t4568, HA4569, H⟩ := bind_some H
  refine (tag_Pack.calls _ a4527 a4528 a4529 a4530 a4531 a4534 a4533 t4568 _ ⟨HGl0.out.pass (l := []) HS.out⟩ ⟨Sep.start _⟩ HA4569).mono ?_
  rintro e_ w4570 ⟨rfl, hS⟩
  replace HS : Aside0 (Sep FF w [b7 g4512 g4514 a4522 a4523 a4524 a4525, b6 g4514 A4517 l4516.length n4519 a4521, r5 A4517 l4516.length n4519 l4516, b16 g4555 a4527 a4528 a4529 a4530 a4531 a4534 a4533] w4570) := ⟨HS.out.call hS⟩
  clear hS
  by_cases c4571 : t4568.2 = 0
  · replace H := if_yes c4571 H
    have c4571b0 : (t4568.2 == 0) = true := beq_iff_eq.mpr c4571
    have c4571b1 : (t4568.2 != 0) = false := bne_eq_false_iff_eq.mpr c4571
    clear c4571
    replace HS : Aside0 (Sep FF w [b7 g4512 g4514 a4522 a4523 a4524 a4525, b6 g4514 A4517 l4516.length n4519 a4521, r5 A4517 l4516.length n4519 l4516] w4570) := ⟨HS.out.sub (.cons_cons _ (.cons_cons _ (.cons_cons _ (.cons _ .slnil))))⟩
    go_wp2_with fail
    obtain ⟨t4572, HA4573, H⟩ := bind_some H
    refine (ground_Ground_SetWord.calls l4516 a4521 a4522 a4523 a4524 a4525 a4526 0 t4568.1 g4512 g4514 A4517 l4516.length n4519 t4572 _ ⟨HGl0.out.pass HS.out⟩ ⟨HS.out.begin⟩ HA4573).mono ?_
    rintro e_ w4574 ⟨rfl, hS⟩
    replace HS : Aside0 (Sep FF w [b7 g4512 g4514 a4522 a4523 a4524 a4525, b6 g4514 A4517 l4516.length n4519 t4572.2.1, r5 A4517 l4516.length n4519 t4572.2.2] w4574) := ⟨HS.out.call hS⟩
    clear hS
    go_wp2_with fail
    first | go_end0 | refine bodyPost_ret (results_none rfl _ _ _) rfl ?_
    rw [← some_eq H]
    exact ⟨rfl, HS.out⟩
  · replace H := if_no c4571 H
    have c4571b0 : (t4568.2 == 0) = false := beq_eq_false_iff_ne.mpr c4571
    have c4571b1 : (t4568.2 != 0) = true := bne_iff_ne.mpr c4571
    clear c4571
    replace HS : Aside0 (Sep FF w [b7 g4512 g4514 a4522 a4523 a4524 a4525, b6 g4514 A4517 l4516.length n4519 a4521, r5 A4517 l4516.length n4519 l4516] w4570) := ⟨HS.out.sub (.cons_cons _ (.cons_cons _ (.cons_cons _ (.cons _ .slnil))))⟩
    go_wp2_with fail
    first | go_end0 | refine bodyPost_ret (results_none rfl _ _ _) rfl ?_
    rw [← some_eq H]
    exact ⟨rfl, HS.out⟩

set_option maxHeartbeats 30000000 in
set_option maxRecDepth 100000 in
theorem ring_link.calls (l4592 : List Int) (a4597 : Int) (a4598 : Int) (a4599 : Int) (a4600 : Int) (a4601 : Int) (a4602 : Int) (a4603 : Int) (a4604 : Int) (a4605 : Int) (g4588 : Nat) (g4590 : Nat) (A4593 : Option Addr) (m4594 : Nat) (n4595 : Nat) (r : Int × List Int) (w : World)  (HGl0 : Aside0 (Gl 0 #[.int .i64 0, .int .i64 0, .int .i64 0, .int .i64 0, .int .i64 0] (fps [b7 g4588 g4590 a4598 a4599 a4600 a4601, b6 g4590 A4593 m4594 n4595 a4597, r5 A4593 m4594 n4595 l4592]) w)) (HS : Aside0 (Sep (fps [b7 g4588 g4590 a4598 a4599 a4600 a4601, b6 g4590 A4593 m4594 n4595 a4597, r5 A4593 m4594 n4595 l4592]) w [b7 g4588 g4590 a4598 a4599 a4600 a4601, b6 g4590 A4593 m4594 n4595 a4597, r5 A4593 m4594 n4595 l4592] w)) (H : Aside0 (ring_link.f l4592 a4597 a4598 a4599 a4600 a4601 a4602 a4603 a4604 a4605 = some r)) :
    Calls Tryz.prog 111 #[.pointer (some ⟨g4588, 0, none⟩), .int .i64 a4602, .int .i64 a4603, .int .i64 a4604, .int .i64 a4605] w fun e w' => e = .returned (.tuple #[]) ∧ Sep (fps [b7 g4588 g4590 a4598 a4599 a4600 a4601, b6 g4590 A4593 m4594 n4595 a4597, r5 A4593 m4594 n4595 l4592]) w [b7 g4588 g4590 a4598 a4599 a4600 a4601, b6 g4590 A4593 m4594 n4595 r.1, r5 A4593 m4594 n4595 r.2] w' := by
  generalize (fps [b7 g4588 g4590 a4598 a4599 a4600 a4601, b6 g4590 A4593 m4594 n4595 a4597, r5 A4593 m4594 n4595 l4592]) = FF at HS HGl0 ⊢
  obtain rfl := (row_len (HS.out.at2)).symm
  unfold ring_link.f at H
  go_enter Tryz.func111, Tryz.ntmps111
  by_cases c4610 : a4602 = 0
  · replace H := if_yes c4610 H
    have c4610b0 : (a4602 == 0) = true := beq_iff_eq.mpr c4610
    have c4610b1 : (a4602 != 0) = false := bne_eq_false_iff_eq.mpr c4610
    clear c4610
    go_wp2_with fail
    obtain ⟨t4611, HA4612, H⟩ := bind_some H
    refine (ground_Ground_SetReg.calls l4592 a4597 a4598 a4599 a4600 a4601 a4604 a4605 g4588 g4590 A4593 l4592.length n4595 t4611 _ ⟨HGl0.out.pass HS.out⟩ ⟨HS.out.begin⟩ HA4612).mono ?_
    rintro e_ w4613 ⟨rfl, hS⟩
    replace HS : Aside0 (Sep FF w [b7 g4588 g4590 a4598 a4599 a4600 a4601, b6 g4590 A4593 l4592.length n4595 t4611.2.1, r5 A4593 l4592.length n4595 t4611.2.2] w4613) := ⟨HS.out.call hS⟩
    clear hS
    go_wp2_with fail
    first | go_end0 | refine bodyPost_ret (results_none rfl _ _ _) rfl ?_
    rw [← some_eq H]
    exact ⟨rfl, HS.out⟩
  · replace H := if_no c4610 H
    have c4610b0 : (a4602 == 0) = false := beq_eq_false_iff_ne.mpr c4610
    have c4610b1 : (a4602 != 0) = true := bne_iff_ne.mpr c4610
    clear c4610
    go_wp2_with fail
    obtain ⟨t4614, HA4615, H⟩ := bind_some H
    refine (ground_Ground_SetWord.calls l4592 a4597 a4598 a4599 a4600 a4601 (wrap64 (a4602 - 1)) a4603 ((a4605) % 4294967296) g4588 g4590 A4593 l4592.length n4595 t4614 _ ⟨HGl0.out.pass HS.out⟩ ⟨HS.out.begin⟩ HA4615).mono ?_
    rintro e_ w4616 ⟨rfl, hS⟩
    replace HS : Aside0 (Sep FF w [b7 g4588 g4590 a4598 a4599 a4600 a4601, b6 g4590 A4593 l4592.length n4595 t4614.2.1, r5 A4593 l4592.length n4595 t4614.2.2] w4616) := ⟨HS.out.call hS⟩
    clear hS
    go_wp2_with fail
    first | go_end0 | refine bodyPost_ret (results_none rfl _ _ _) rfl ?_
    rw [← some_eq H]
    exact ⟨rfl, HS.out⟩

set_option maxHeartbeats 30000000 in
set_option maxRecDepth 100000 in
theorem ring_Add.calls (k : Nat) (l4205 : List Int) (a4210 : Int) (a4211 : Int) (a4212 : Int) (a4213 : Int) (a4214 : Int) (a4215 : Int) (g4201 : Nat) (g4203 : Nat) (A4206 : Option Addr) (m4207 : Nat) (n4208 : Nat) (r : Bool × Int × List Int) (w : World)  (HGl0 : Aside0 (Gl 0 #[.int .i64 0, .int .i64 0, .int .i64 0, .int .i64 0, .int .i64 0] (fps [b7 g4201 g4203 a4211 a4212 a4213 a4214, b6 g4203 A4206 m4207 n4208 a4210, r5 A4206 m4207 n4208 l4205]) w)) (HS : Aside0 (Sep (fps [b7 g4201 g4203 a4211 a4212 a4213 a4214, b6 g4203 A4206 m4207 n4208 a4210, r5 A4206 m4207 n4208 l4205]) w [b7 g4201 g4203 a4211 a4212 a4213 a4214, b6 g4203 A4206 m4207 n4208 a4210, r5 A4206 m4207 n4208 l4205] w)) (H : Aside0 (ring_Add.f k l4205 a4210 a4211 a4212 a4213 a4214 a4215 = some r)) :
    Calls Tryz.prog 56 #[.pointer (some ⟨g4201, 0, none⟩), .int .i64 a4215] w fun e w' => e = .returned (.bool r.1) ∧ Sep (fps [b7 g4201 g4203 a4211 a4212 a4213 a4214, b6 g4203 A4206 m4207 n4208 a4210, r5 A4206 m4207 n4208 l4205]) w [b7 g4201 g4203 a4211 a4212 a4213 a4214, b6 g4203 A4206 m4207 n4208 r.2.1, r5 A4206 m4207 n4208 r.2.2] w' := by
  generalize (fps [b7 g4201 g4203 a4211 a4212 a4213 a4214, b6 g4203 A4206 m4207 n4208 a4210, r5 A4206 m4207 n4208 l4205]) = FF at HS HGl0 ⊢
  obtain rfl := (row_len (HS.out.at2)).symm
  unfold ring_Add.f at H
  go_enter Tryz.func56, Tryz.ntmps56
  go_wp2_with fail
  obtain ⟨t4629, HA4630, H⟩ := bind_some H
  refine (ring_marked.calls l4205 a4210 a4211 a4212 a4213 a4214 a4215 0 g4201 g4203 A4206 l4205.length n4208 t4629 _ ⟨HGl0.out.pass HS.out⟩ ⟨HS.out.begin⟩ HA4630).mono ?_
  rintro e_ w4631 ⟨rfl, hS⟩
  replace HS : Aside0 (Sep FF w [b7 g4201 g4203 a4211 a4212 a4213 a4214, b6 g4203 A4206 l4205.length n4208 t4629.2.2.2.2.2.2.2.2, r5 A4206 l4205.length n4208 l4205] w4631) := ⟨HS.out.call hS⟩
  clear hS
  by_cases c4650 : t4629.2.2.2.2.2.2.2.1 = true
  · replace H := if_yes c4650 H
    have c4650b0 : t4629.2.2.2.2.2.2.2.1 = true := c4650
    have c4650b1 : (!t4629.2.2.2.2.2.2.2.1) = false := by rw [c4650b0]; rfl
    try rw [c4650b1]
    clear c4650
    go_wp2_with (first | ((with_reducible refine gate_dst (N := 5) rfl ?_); refine box_on ?hg (N := 5) ?hd (cs := #[.int .i64 0, .int .i64 0, .int .i64 0, .int .i64 0, .int .i64 0, .int .i64 0, .int .i64 0]) (t := 79) ?hr ?_; (case hd => rfl); (case hg => rfl); (case hr => first | (go_simp; done) | (go_simp; rfl)); intro g4632 hg w4633 hbox hb; replace HS : Aside0 (Sep FF w [b7 g4201 g4203 a4211 a4212 a4213 a4214, b6 g4203 A4206 l4205.length n4208 t4629.2.2.2.2.2.2.2.2, r5 A4206 l4205.length n4208 l4205, b16 g4632 0 0 0 0 0 0 0] w4633) := ⟨HS.out.box hg hbox hb⟩; clear hg hbox hb; have hc4635 : w4633.cell? ⟨g4632, 0, none⟩ = some (.int .i64 0) := blk_cellv (HS.out.at3) 0 rfl; have hz4636 : w4633.frozen? ⟨g4632, 0, none⟩ = false := blk_fz (HS.out.at3) 0; have hc4637 : w4633.cell? ⟨g4632, 1, none⟩ = some (.int .i64 0) := blk_cellv (HS.out.at3) 1 rfl; have hz4638 : w4633.frozen? ⟨g4632, 1, none⟩ = false := blk_fz (HS.out.at3) 1; have hc4639 : w4633.cell? ⟨g4632, 2, none⟩ = some (.int .i64 0) := blk_cellv (HS.out.at3) 2 rfl; have hz4640 : w4633.frozen? ⟨g4632, 2, none⟩ = false := blk_fz (HS.out.at3) 2; have hc4641 : w4633.cell? ⟨g4632, 3, none⟩ = some (.int .i64 0) := blk_cellv (HS.out.at3) 3 rfl; have hz4642 : w4633.frozen? ⟨g4632, 3, none⟩ = false := blk_fz (HS.out.at3) 3; have hc4643 : w4633.cell? ⟨g4632, 4, none⟩ = some (.int .i64 0) := blk_cellv (HS.out.at3) 4 rfl; have hz4644 : w4633.frozen? ⟨g4632, 4, none⟩ = false := blk_fz (HS.out.at3) 4; have hc4645 : w4633.cell? ⟨g4632, 5, none⟩ = some (.int .i64 0) := blk_cellv (HS.out.at3) 5 rfl; have hz4646 : w4633.frozen? ⟨g4632, 5, none⟩ = false := blk_fz (HS.out.at3) 5; have hc4647 : w4633.cell? ⟨g4632, 6, none⟩ = some (.int .i64 0) := blk_cellv (HS.out.at3) 6 rfl; have hz4648 : w4633.frozen? ⟨g4632, 6, none⟩ = false := blk_fz (HS.out.at3) 6) | ((with_reducible refine gate_store (t := 79) (p := 5) rfl ?_); refine store_event (w1 := (World.setCell (World.setCell (World.setCell (World.setCell (World.setCell (World.setCell (World.setCell w4633 ⟨g4632, 0, none⟩ (.int .i64 t4629.1)) ⟨g4632, 1, none⟩ (.int .i64 t4629.2.1)) ⟨g4632, 2, none⟩ (.int .i64 t4629.2.2.1)) ⟨g4632, 3, none⟩ (.int .i64 t4629.2.2.2.1)) ⟨g4632, 4, none⟩ (.int .i64 t4629.2.2.2.2.1)) ⟨g4632, 5, none⟩ (.int .i64 t4629.2.2.2.2.2.1)) ⟨g4632, 6, none⟩ (.int .i64 t4629.2.2.2.2.2.2.1))) rfl (t := 79) (p := 5) rfl rfl ?hr ?_; (case hr => first | (go_simp; done) | (go_simp; rfl)); intro w4649 hst; clear hc4635 hz4636 hc4637 hz4638 hc4639 hz4640 hc4641 hz4642 hc4643 hz4644 hc4645 hz4646 hc4647 hz4648; replace HS : Aside0 (Sep FF w [b7 g4201 g4203 a4211 a4212 a4213 a4214, b6 g4203 A4206 l4205.length n4208 t4629.2.2.2.2.2.2.2.2, r5 A4206 l4205.length n4208 l4205, b16 g4632 t4629.1 t4629.2.1 t4629.2.2.1 t4629.2.2.2.1 t4629.2.2.2.2.1 t4629.2.2.2.2.2.1 t4629.2.2.2.2.2.2.1] w4649) := ⟨by rw [hst]; exact HS.out.setAll (l1 := [b7 g4201 g4203 a4211 a4212 a4213 a4214, b6 g4203 A4206 l4205.length n4208 t4629.2.2.2.2.2.2.2.2, r5 A4206 l4205.length n4208 l4205]) (l2 := []) [.int .i64 t4629.1, .int .i64 t4629.2.1, .int .i64 t4629.2.2.1, .int .i64 t4629.2.2.2.1, .int .i64 t4629.2.2.2.2.1, .int .i64 t4629.2.2.2.2.2.1, .int .i64 t4629.2.2.2.2.2.2.1] rfl⟩; clear hst; have hc4651 : w4649.cell? ⟨g4632, 0, none⟩ = some (.int .i64 t4629.1) := blk_cellv (HS.out.at3) 0 rfl; have hc4652 : w4649.cell? ⟨g4632, 1, none⟩ = some (.int .i64 t4629.2.1) := blk_cellv (HS.out.at3) 1 rfl; have hc4653 : w4649.cell? ⟨g4632, 2, none⟩ = some (.int .i64 t4629.2.2.1) := blk_cellv (HS.out.at3) 2 rfl; have hc4654 : w4649.cell? ⟨g4632, 3, none⟩ = some (.int .i64 t4629.2.2.2.1) := blk_cellv (HS.out.at3) 3 rfl; have hc4655 : w4649.cell? ⟨g4632, 4, none⟩ = some (.int .i64 t4629.2.2.2.2.1) := blk_cellv (HS.out.at3) 4 rfl; have hc4656 : w4649.cell? ⟨g4632, 5, none⟩ = some (.int .i64 t4629.2.2.2.2.2.1) := blk_cellv (HS.out.at3) 5 rfl; have hc4657 : w4649.cell? ⟨g4632, 6, none⟩ = some (.int .i64 t4629.2.2.2.2.2.2.1) := blk_cellv (HS.out.at3) 6 rfl))
    clear hc4651 hc4652 hc4653 hc4654 hc4655 hc4656 hc4657
    obtain ⟨t4658, HA4659, H⟩ := bind_some H
    refine (ring_mark.calls _ l4205 t4629.2.2.2.2.2.2.2.2 a4211 a4212 a4213 a4214 a4215 t4629.1 t4629.2.1 t4629.2.2.1 t4629.2.2.2.1 t4629.2.2.2.2.1 t4629.2.2.2.2.2.1 t4629.2.2.2.2.2.2.1 1 g4201 g4203 A4206 l4205.length n4208 t4658 _ ⟨HGl0.out.pass HS.out⟩ ⟨HS.out.begin⟩ HA4659).mono ?_
    rintro e_ w4660 ⟨rfl, hS⟩
    replace HS : Aside0 (Sep FF w [b7 g4201 g4203 a4211 a4212 a4213 a4214, b6 g4203 A4206 l4205.length n4208 t4658.1, r5 A4206 l4205.length n4208 t4658.2, b16 g4632 t4629.1 t4629.2.1 t4629.2.2.1 t4629.2.2.2.1 t4629.2.2.2.2.1 t4629.2.2.2.2.2.1 t4629.2.2.2.2.2.2.1] w4660) := ⟨HS.out.call hS⟩
    clear hS
    replace HS : Aside0 (Sep FF w [b7 g4201 g4203 a4211 a4212 a4213 a4214, b6 g4203 A4206 l4205.length n4208 t4658.1, r5 A4206 l4205.length n4208 t4658.2] w4660) := ⟨HS.out.sub (.cons_cons _ (.cons_cons _ (.cons_cons _ (.cons _ .slnil))))⟩
    go_wp2_with fail
    obtain ⟨t4661, HA4662, H⟩ := bind_some H
    refine (ground_Ground_Reg.calls t4658.2 t4658.1 a4211 a4212 a4213 a4214 8 g4201 g4203 A4206 l4205.length n4208 t4661 _ ⟨HGl0.out.pass HS.out⟩ ⟨HS.out.begin⟩ HA4662).mono ?_
    rintro e_ w4663 ⟨rfl, hS⟩
    replace HS : Aside0 (Sep FF w [b7 g4201 g4203 a4211 a4212 a4213 a4214, b6 g4203 A4206 l4205.length n4208 t4661.2, r5 A4206 l4205.length n4208 t4658.2] w4663) := ⟨HS.out.call hS⟩
    clear hS
    go_wp2_with fail
    obtain ⟨t4664, HA4665, H⟩ := bind_some H
    refine (ground_Ground_SetWord.calls t4658.2 t4661.2 a4211 a4212 a4213 a4214 a4215 6 ((t4661.1) % 4294967296) g4201 g4203 A4206 l4205.length n4208 t4664 _ ⟨HGl0.out.pass HS.out⟩ ⟨HS.out.begin⟩ HA4665).mono ?_
    rintro e_ w4666 ⟨rfl, hS⟩
    replace HS : Aside0 (Sep FF w [b7 g4201 g4203 a4211 a4212 a4213 a4214, b6 g4203 A4206 l4205.length n4208 t4664.2.1, r5 A4206 l4205.length n4208 t4664.2.2] w4666) := ⟨HS.out.call hS⟩
    clear hS
    go_wp2_with fail
    obtain ⟨t4667, HA4668, H⟩ := bind_some H
    refine (ground_Ground_SetWord.calls t4664.2.2 t4664.2.1 a4211 a4212 a4213 a4214 a4215 7 0 g4201 g4203 A4206 l4205.length n4208 t4667 _ ⟨HGl0.out.pass HS.out⟩ ⟨HS.out.begin⟩ HA4668).mono ?_
    rintro e_ w4669 ⟨rfl, hS⟩
    replace HS : Aside0 (Sep FF w [b7 g4201 g4203 a4211 a4212 a4213 a4214, b6 g4203 A4206 l4205.length n4208 t4667.2.1, r5 A4206 l4205.length n4208 t4667.2.2] w4669) := ⟨HS.out.call hS⟩
    clear hS
    go_wp2_with fail
    obtain ⟨t4670, HA4671, H⟩ := bind_some H
    refine (ring_link.calls t4667.2.2 t4667.2.1 a4211 a4212 a4213 a4214 t4661.1 7 7 (wrap64 (a4215 + 1)) g4201 g4203 A4206 l4205.length n4208 t4670 _ ⟨HGl0.out.pass HS.out⟩ ⟨HS.out.begin⟩ HA4671).mono ?_
    rintro e_ w4672 ⟨rfl, hS⟩
    replace HS : Aside0 (Sep FF w [b7 g4201 g4203 a4211 a4212 a4213 a4214, b6 g4203 A4206 l4205.length n4208 t4670.1, r5 A4206 l4205.length n4208 t4670.2] w4672) := ⟨HS.out.call hS⟩
    clear hS
    go_wp2_with fail
    obtain ⟨t4673, HA4674, H⟩ := bind_some H
    refine (ground_Ground_SetReg.calls t4670.2 t4670.1 a4211 a4212 a4213 a4214 8 (wrap64 (a4215 + 1)) g4201 g4203 A4206 l4205.length n4208 t4673 _ ⟨HGl0.out.pass HS.out⟩ ⟨HS.out.begin⟩ HA4674).mono ?_
    rintro e_ w4675 ⟨rfl, hS⟩
    replace HS : Aside0 (Sep FF w [b7 g4201 g4203 a4211 a4212 a4213 a4214, b6 g4203 A4206 l4205.length n4208 t4673.2.1, r5 A4206 l4205.length n4208 t4673.2.2] w4675) := ⟨HS.out.call hS⟩
    clear hS
    go_wp2_with fail
    obtain ⟨t4676, HA4677, H⟩ := bind_some H
    refine (ground_Ground_Reg.calls t4673.2.2 t4673.2.1 a4211 a4212 a4213 a4214 9 g4201 g4203 A4206 l4205.length n4208 t4676 _ ⟨HGl0.out.pass HS.out⟩ ⟨HS.out.begin⟩ HA4677).mono ?_
    rintro e_ w4678 ⟨rfl, hS⟩
    replace HS : Aside0 (Sep FF w [b7 g4201 g4203 a4211 a4212 a4213 a4214, b6 g4203 A4206 l4205.length n4208 t4676.2, r5 A4206 l4205.length n4208 t4673.2.2] w4678) := ⟨HS.out.call hS⟩
    clear hS
    go_wp2_with fail
    obtain ⟨t4679, HA4680, H⟩ := bind_some H
    refine (ground_Ground_SetReg.calls t4673.2.2 t4676.2 a4211 a4212 a4213 a4214 9 (wrap64 (t4676.1 + 1)) g4201 g4203 A4206 l4205.length n4208 t4679 _ ⟨HGl0.out.pass HS.out⟩ ⟨HS.out.begin⟩ HA4680).mono ?_
    rintro e_ w4681 ⟨rfl, hS⟩
    replace HS : Aside0 (Sep FF w [b7 g4201 g4203 a4211 a4212 a4213 a4214, b6 g4203 A4206 l4205.length n4208 t4679.2.1, r5 A4206 l4205.length n4208 t4679.2.2] w4681) := ⟨HS.out.call hS⟩
    clear hS
    go_wp2_with fail
    go_ret
    rw [← some_eq H]
    exact ⟨(by first | rfl | (simp [IntKind.wrap_u32]; done)), HS.out⟩
  · replace H := if_no c4650 H
    have c4650b0 : t4629.2.2.2.2.2.2.2.1 = false := by simpa using c4650
    have c4650b1 : (!t4629.2.2.2.2.2.2.2.1) = true := by rw [c4650b0]; rfl
    try rw [c4650b1]
    clear c4650
    go_wp2_with (first | ((with_reducible refine gate_dst (N := 5) rfl ?_); refine box_on ?hg (N := 5) ?hd (cs := #[.int .i64 0, .int .i64 0, .int .i64 0, .int .i64 0, .int .i64 0, .int .i64 0, .int .i64 0]) (t := 79) ?hr ?_; (case hd => rfl); (case hg => rfl); (case hr => first | (go_simp; done) | (go_simp; rfl)); intro g4632 hg w4633 hbox hb; replace HS : Aside0 (Sep FF w [b7 g4201 g4203 a4211 a4212 a4213 a4214, b6 g4203 A4206 l4205.length n4208 t4629.2.2.2.2.2.2.2.2, r5 A4206 l4205.length n4208 l4205, b16 g4632 0 0 0 0 0 0 0] w4633) := ⟨HS.out.box hg hbox hb⟩; clear hg hbox hb; have hc4635 : w4633.cell? ⟨g4632, 0, none⟩ = some (.int .i64 0) := blk_cellv (HS.out.at3) 0 rfl; have hz4636 : w4633.frozen? ⟨g4632, 0, none⟩ = false := blk_fz (HS.out.at3) 0; have hc4637 : w4633.cell? ⟨g4632, 1, none⟩ = some (.int .i64 0) := blk_cellv (HS.out.at3) 1 rfl; have hz4638 : w4633.frozen? ⟨g4632, 1, none⟩ = false := blk_fz (HS.out.at3) 1; have hc4639 : w4633.cell? ⟨g4632, 2, none⟩ = some (.int .i64 0) := blk_cellv (HS.out.at3) 2 rfl; have hz4640 : w4633.frozen? ⟨g4632, 2, none⟩ = false := blk_fz (HS.out.at3) 2; have hc4641 : w4633.cell? ⟨g4632, 3, none⟩ = some (.int .i64 0) := blk_cellv (HS.out.at3) 3 rfl; have hz4642 : w4633.frozen? ⟨g4632, 3, none⟩ = false := blk_fz (HS.out.at3) 3; have hc4643 : w4633.cell? ⟨g4632, 4, none⟩ = some (.int .i64 0) := blk_cellv (HS.out.at3) 4 rfl; have hz4644 : w4633.frozen? ⟨g4632, 4, none⟩ = false := blk_fz (HS.out.at3) 4; have hc4645 : w4633.cell? ⟨g4632, 5, none⟩ = some (.int .i64 0) := blk_cellv (HS.out.at3) 5 rfl; have hz4646 : w4633.frozen? ⟨g4632, 5, none⟩ = false := blk_fz (HS.out.at3) 5; have hc4647 : w4633.cell? ⟨g4632, 6, none⟩ = some (.int .i64 0) := blk_cellv (HS.out.at3) 6 rfl; have hz4648 : w4633.frozen? ⟨g4632, 6, none⟩ = false := blk_fz (HS.out.at3) 6) | ((with_reducible refine gate_store (t := 79) (p := 5) rfl ?_); refine store_event (w1 := (World.setCell (World.setCell (World.setCell (World.setCell (World.setCell (World.setCell (World.setCell w4633 ⟨g4632, 0, none⟩ (.int .i64 t4629.1)) ⟨g4632, 1, none⟩ (.int .i64 t4629.2.1)) ⟨g4632, 2, none⟩ (.int .i64 t4629.2.2.1)) ⟨g4632, 3, none⟩ (.int .i64 t4629.2.2.2.1)) ⟨g4632, 4, none⟩ (.int .i64 t4629.2.2.2.2.1)) ⟨g4632, 5, none⟩ (.int .i64 t4629.2.2.2.2.2.1)) ⟨g4632, 6, none⟩ (.int .i64 t4629.2.2.2.2.2.2.1))) rfl (t := 79) (p := 5) rfl rfl ?hr ?_; (case hr => first | (go_simp; done) | (go_simp; rfl)); intro w4649 hst; clear hc4635 hz4636 hc4637 hz4638 hc4639 hz4640 hc4641 hz4642 hc4643 hz4644 hc4645 hz4646 hc4647 hz4648; replace HS : Aside0 (Sep FF w [b7 g4201 g4203 a4211 a4212 a4213 a4214, b6 g4203 A4206 l4205.length n4208 t4629.2.2.2.2.2.2.2.2, r5 A4206 l4205.length n4208 l4205, b16 g4632 t4629.1 t4629.2.1 t4629.2.2.1 t4629.2.2.2.1 t4629.2.2.2.2.1 t4629.2.2.2.2.2.1 t4629.2.2.2.2.2.2.1] w4649) := ⟨by rw [hst]; exact HS.out.setAll (l1 := [b7 g4201 g4203 a4211 a4212 a4213 a4214, b6 g4203 A4206 l4205.length n4208 t4629.2.2.2.2.2.2.2.2, r5 A4206 l4205.length n4208 l4205]) (l2 := []) [.int .i64 t4629.1, .int .i64 t4629.2.1, .int .i64 t4629.2.2.1, .int .i64 t4629.2.2.2.1, .int .i64 t4629.2.2.2.2.1, .int .i64 t4629.2.2.2.2.2.1, .int .i64 t4629.2.2.2.2.2.2.1] rfl⟩; clear hst; replace HS : Aside0 (Sep FF w [b7 g4201 g4203 a4211 a4212 a4213 a4214, b6 g4203 A4206 l4205.length n4208 t4629.2.2.2.2.2.2.2.2, r5 A4206 l4205.length n4208 l4205] w4649) := ⟨HS.out.sub (.cons_cons _ (.cons_cons _ (.cons_cons _ (.cons _ .slnil))))⟩))
    go_ret
    rw [← some_eq H]
    exact ⟨(by first | rfl | (simp [IntKind.wrap_u32]; done)), HS.out⟩

set_option maxHeartbeats 30000000 in
set_option maxRecDepth 100000 in
theorem tint_Touch.calls (k : Nat) (l3986 : List Int) (a3991 : Int) (a3992 : Int) (a3993 : Int) (a3994 : Int) (a3995 : Int) (a3996 : Int) (g3982 : Nat) (g3984 : Nat) (A3987 : Option Addr) (m3988 : Nat) (n3989 : Nat) (r : Bool × Int × List Int) (w : World)  (HGl0 : Aside0 (Gl 0 #[.int .i64 0, .int .i64 0, .int .i64 0, .int .i64 0, .int .i64 0] (fps [b7 g3982 g3984 a3992 a3993 a3994 a3995, b6 g3984 A3987 m3988 n3989 a3991, r5 A3987 m3988 n3989 l3986]) w)) (HS : Aside0 (Sep (fps [b7 g3982 g3984 a3992 a3993 a3994 a3995, b6 g3984 A3987 m3988 n3989 a3991, r5 A3987 m3988 n3989 l3986]) w [b7 g3982 g3984 a3992 a3993 a3994 a3995, b6 g3984 A3987 m3988 n3989 a3991, r5 A3987 m3988 n3989 l3986] w)) (H : Aside0 (tint_Touch.f k l3986 a3991 a3992 a3993 a3994 a3995 a3996 = some r)) :
    Calls Tryz.prog 18 #[.pointer (some ⟨g3982, 0, none⟩), .int .i64 a3996] w fun e w' => e = .returned (.bool r.1) ∧ Sep (fps [b7 g3982 g3984 a3992 a3993 a3994 a3995, b6 g3984 A3987 m3988 n3989 a3991, r5 A3987 m3988 n3989 l3986]) w [b7 g3982 g3984 a3992 a3993 a3994 a3995, b6 g3984 A3987 m3988 n3989 r.2.1, r5 A3987 m3988 n3989 r.2.2] w' := by
  generalize (fps [b7 g3982 g3984 a3992 a3993 a3994 a3995, b6 g3984 A3987 m3988 n3989 a3991, r5 A3987 m3988 n3989 l3986]) = FF at HS HGl0 ⊢
  obtain rfl := (row_len (HS.out.at2)).symm
  unfold tint_Touch.f at H
  go_enter Tryz.func18, Tryz.ntmps18
  go_wp2_with fail
  obtain ⟨t4685, HA4686, H⟩ := bind_some H
  refine (tint_of.calls l3986 a3991 a3992 a3993 a3994 a3995 a3996 g3982 g3984 A3987 l3986.length n3989 t4685 _ ⟨HGl0.out.pass HS.out⟩ ⟨HS.out.begin⟩ HA4686).mono ?_
  rintro e_ w4687 ⟨rfl, hS⟩
  replace HS : Aside0 (Sep FF w [b7 g3982 g3984 a3992 a3993 a3994 a3995, b6 g3984 A3987 l3986.length n3989 t4685.2.2.2.2.2.2.2.2, r5 A3987 l3986.length n3989 l3986] w4687) := ⟨HS.out.call hS⟩
  clear hS
  go_wp2_with (first | ((with_reducible refine gate_dst (N := 5) rfl ?_); refine box_on ?hg (N := 5) ?hd (cs := #[.int .i64 0, .int .i64 0, .int .i64 0, .int .i64 0, .int .i64 0, .int .i64 0, .int .i64 0]) (t := 79) ?hr ?_; (case hd => rfl); (case hg => rfl); (case hr => first | (go_simp; done) | (go_simp; rfl)); intro g4688 hg w4689 hbox hb; replace HS : Aside0 (Sep FF w [b7 g3982 g3984 a3992 a3993 a3994 a3995, b6 g3984 A3987 l3986.length n3989 t4685.2.2.2.2.2.2.2.2, r5 A3987 l3986.length n3989 l3986, b16 g4688 0 0 0 0 0 0 0] w4689) := ⟨HS.out.box hg hbox hb⟩; clear hg hbox hb; have hc4691 : w4689.cell? ⟨g4688, 0, none⟩ = some (.int .i64 0) := blk_cellv (HS.out.at3) 0 rfl; have hz4692 : w4689.frozen? ⟨g4688, 0, none⟩ = false := blk_fz (HS.out.at3) 0; have hc4693 : w4689.cell? ⟨g4688, 1, none⟩ = some (.int .i64 0) := blk_cellv (HS.out.at3) 1 rfl; have hz4694 : w4689.frozen? ⟨g4688, 1, none⟩ = false := blk_fz (HS.out.at3) 1; have hc4695 : w4689.cell? ⟨g4688, 2, none⟩ = some (.int .i64 0) := blk_cellv (HS.out.at3) 2 rfl; have hz4696 : w4689.frozen? ⟨g4688, 2, none⟩ = false := blk_fz (HS.out.at3) 2; have hc4697 : w4689.cell? ⟨g4688, 3, none⟩ = some (.int .i64 0) := blk_cellv (HS.out.at3) 3 rfl; have hz4698 : w4689.frozen? ⟨g4688, 3, none⟩ = false := blk_fz (HS.out.at3) 3; have hc4699 : w4689.cell? ⟨g4688, 4, none⟩ = some (.int .i64 0) := blk_cellv (HS.out.at3) 4 rfl; have hz4700 : w4689.frozen? ⟨g4688, 4, none⟩ = false := blk_fz (HS.out.at3) 4; have hc4701 : w4689.cell? ⟨g4688, 5, none⟩ = some (.int .i64 0) := blk_cellv (HS.out.at3) 5 rfl; have hz4702 : w4689.frozen? ⟨g4688, 5, none⟩ = false := blk_fz (HS.out.at3) 5; have hc4703 : w4689.cell? ⟨g4688, 6, none⟩ = some (.int .i64 0) := blk_cellv (HS.out.at3) 6 rfl; have hz4704 : w4689.frozen? ⟨g4688, 6, none⟩ = false := blk_fz (HS.out.at3) 6) | ((with_reducible refine gate_store (t := 79) (p := 5) rfl ?_); refine store_event (w1 := (World.setCell (World.setCell (World.setCell (World.setCell (World.setCell (World.setCell (World.setCell w4689 ⟨g4688, 0, none⟩ (.int .i64 t4685.1)) ⟨g4688, 1, none⟩ (.int .i64 t4685.2.1)) ⟨g4688, 2, none⟩ (.int .i64 t4685.2.2.1)) ⟨g4688, 3, none⟩ (.int .i64 t4685.2.2.2.1)) ⟨g4688, 4, none⟩ (.int .i64 t4685.2.2.2.2.1)) ⟨g4688, 5, none⟩ (.int .i64 t4685.2.2.2.2.2.1)) ⟨g4688, 6, none⟩ (.int .i64 t4685.2.2.2.2.2.2.1))) rfl (t := 79) (p := 5) rfl rfl ?hr ?_; (case hr => first | (go_simp; done) | (go_simp; rfl)); intro w4705 hst; clear hc4691 hz4692 hc4693 hz4694 hc4695 hz4696 hc4697 hz4698 hc4699 hz4700 hc4701 hz4702 hc4703 hz4704; replace HS : Aside0 (Sep FF w [b7 g3982 g3984 a3992 a3993 a3994 a3995, b6 g3984 A3987 l3986.length n3989 t4685.2.2.2.2.2.2.2.2, r5 A3987 l3986.length n3989 l3986, b16 g4688 t4685.1 t4685.2.1 t4685.2.2.1 t4685.2.2.2.1 t4685.2.2.2.2.1 t4685.2.2.2.2.2.1 t4685.2.2.2.2.2.2.1] w4705) := ⟨by rw [hst]; exact HS.out.setAll (l1 := [b7 g3982 g3984 a3992 a3993 a3994 a3995, b6 g3984 A3987 l3986.length n3989 t4685.2.2.2.2.2.2.2.2, r5 A3987 l3986.length n3989 l3986]) (l2 := []) [.int .i64 t4685.1, .int .i64 t4685.2.1, .int .i64 t4685.2.2.1, .int .i64 t4685.2.2.2.1, .int .i64 t4685.2.2.2.2.1, .int .i64 t4685.2.2.2.2.2.1, .int .i64 t4685.2.2.2.2.2.2.1] rfl⟩; clear hst))
  refine start_ (n := 25) (S := (fun w' => w'.cell? ⟨g4688, 4, none⟩ = some (.int .i64 t4685.2.2.2.2.1) ∧ w'.cell? ⟨g4688, 1, none⟩ = some (.int .i64 t4685.2.1))) (ds := []) #[false, false, false, false, false, false, false, false, false, false, false, false, false, false, false, false, false, false, false, false, false, false, false, false, false] (by kernel_rfl) rfl rfl (⟨blk_cellv ((HS.out.drew).at3) 4 rfl, blk_cellv ((HS.out.drew).at3) 1 rfl⟩) (fun hHeld => ?_)
  have HS_ := Aside0.mk HS.out.drew
  clear HS
  generalize World.drew _ = w4707 at HS_ hHeld ⊢
  have HS := HS_
  clear HS_
  refine pure_ (i := 0) (N := some 13) (v := ?_) (a' := ?_) #[true, false, false, false, false, false, false, false, false, false, false, false, false, false, false, false, false, false, false, false, false, false, false, false, false] rfl rfl (by kernel_rfl) (fun _ _ _ h => h) (Or.inl ⟨by rfl, ?_⟩) ?_ ?_
  rotate_left
  · intro w'
    go_simp
    with_reducible rfl
  rotate_left
  · simp only [Act.put, List.setIfInBounds_toArray, List.set_cons_zero, List.set_cons_succ, i64_w, i32_w]
    rfl
  refine pure_ (i := 1) (N := some 14) (v := ?_) (a' := ?_) #[true, true, false, false, false, false, false, false, false, false, false, false, false, false, false, false, false, false, false, false, false, false, false, false, false] rfl rfl (by kernel_rfl) (fun _ _ _ h => h) (Or.inl ⟨by rfl, ?_⟩) ?_ ?_
  rotate_left
  · intro w'
    go_simp
    with_reducible rfl
  rotate_left
  · simp only [Act.put, List.setIfInBounds_toArray, List.set_cons_zero, List.set_cons_succ, i64_w, i32_w]
    rfl
  refine pure_ (i := 2) (N := some 15) (v := ?_) (a' := ?_) #[true, true, true, false, false, false, false, false, false, false, false, false, false, false, false, false, false, false, false, false, false, false, false, false, false] rfl rfl (by kernel_rfl) (fun _ _ _ h => h) (Or.inl ⟨by rfl, ?_⟩) ?_ ?_
  rotate_left
  · intro w'
    go_simp
    with_reducible rfl
  rotate_left
  · simp only [Act.put, List.setIfInBounds_toArray, List.set_cons_zero, List.set_cons_succ, i64_w, i32_w]
    rfl
  by_cases c4708 : t4685.2.2.2.2.2.2.2.1 = true
  · replace H := if_yes c4708 H
    have c4708b0 : t4685.2.2.2.2.2.2.2.1 = true := c4708
    have c4708b1 : (!t4685.2.2.2.2.2.2.2.1) = false := by rw [c4708b0]; rfl
    try rw [c4708b1]
    clear c4708
    try simp only [c4708b0, Bool.not_true, Bool.not_false]
    refine pure_ (i := 3) (N := some 16) (v := ?_) (a' := ?_) #[true, true, true, true, false, false, false, false, false, false, false, false, false, false, false, false, false, false, false, false, false, false, false, false, false] rfl rfl (by kernel_rfl) (fun _ _ _ h => h) (Or.inl ⟨by rfl, ?_⟩) ?_ ?_
    rotate_left
    · intro w'
      go_simp
      with_reducible rfl
    rotate_left
    · simp only [Act.put, List.setIfInBounds_toArray, List.set_cons_zero, List.set_cons_succ, i64_w, i32_w]
      rfl
    try simp only [c4708b0, Bool.not_true, Bool.not_false]
    refine one_ (i := 4) (N := some 17) #[true, true, true, true, true, false, false, false, false, false, false, false, false, false, false, false, false, false, false, false, false, false, false, false, false] rfl rfl (by kernel_rfl) (by decide) (fun K hK => ?_)
    obtain ⟨t4709, HA4710, H⟩ := bind_some H
    refine goes_ Tryz.func22 (by kernel_rfl) rfl #[.pointer (some ⟨g3982, 0, none⟩)] (by rfl) rfl rfl (by (try simp only [List.map_toArray, List.map_cons, List.map_nil]); first | done | rfl) ?_
    refine (tint_Phase.calls l3986 t4685.2.2.2.2.2.2.2.2 a3992 a3993 a3994 a3995 g3982 g3984 A3987 l3986.length n3989 t4709 _ ⟨HGl0.out.pass HS.out⟩ ⟨HS.out.begin⟩ HA4710).mono ?_
    rintro e_ w4711 ⟨rfl, hS⟩
    replace HS : Aside0 (Sep FF w [b7 g3982 g3984 a3992 a3993 a3994 a3995, b6 g3984 A3987 l3986.length n3989 t4709.2, r5 A3987 l3986.length n3989 l3986, b16 g4688 t4685.1 t4685.2.1 t4685.2.2.1 t4685.2.2.2.1 t4685.2.2.2.2.1 t4685.2.2.2.2.2.1 t4685.2.2.2.2.2.2.1] w4711) := ⟨HS.out.call hS⟩
    clear hS
    refine ⟨_, rfl, ?_⟩
    refine hK.out _ _ (⟨blk_cellv (HS.out.at3) 4 rfl, blk_cellv (HS.out.at3) 1 rfl⟩) (fun hHeld => ?_)
    clear hK K
    refine norm_ (a' := ?_) ?_ ?_
    rotate_left
    · show Act.put _ (some 17) _ = _
      simp only [Act.put, List.setIfInBounds_toArray, List.set_cons_zero, List.set_cons_succ, i64_w, i32_w]
      rfl
    try simp only [c4708b0, Bool.not_true, Bool.not_false]
    refine pure_ (i := 5) (N := some 18) (v := ?_) (a' := ?_) #[true, true, true, true, true, true, false, false, false, false, false, false, false, false, false, false, false, false, false, false, false, false, false, false, false] rfl rfl (by kernel_rfl) (fun _ _ _ h => h) (Or.inl ⟨by rfl, ?_⟩) ?_ ?_
    rotate_left
    · intro w'
      go_simp
      with_reducible rfl
    rotate_left
    · simp only [Act.put, List.setIfInBounds_toArray, List.set_cons_zero, List.set_cons_succ, i64_w, i32_w]
      rfl
    refine pure_ (i := 6) (N := some 19) (v := ?_) (a' := ?_) #[true, true, true, true, true, true, true, false, false, false, false, false, false, false, false, false, false, false, false, false, false, false, false, false, false] rfl rfl (by kernel_rfl) (fun _ _ _ h => h) (Or.inl ⟨by rfl, ?_⟩) ?_ ?_
    rotate_left
    · intro w'
      go_simp
      with_reducible rfl
    rotate_left
    · simp only [Act.put, List.setIfInBounds_toArray, List.set_cons_zero, List.set_cons_succ, i64_w, i32_w]
      rfl
    refine pure_ (i := 7) (N := some 20) (v := ?_) (a' := ?_) #[true, true, true, true, true, true, true, true, false, false, false, false, false, false, false, false, false, false, false, false, false, false, false, false, false] rfl rfl (by kernel_rfl) (fun _ _ _ h => h) (Or.inl ⟨by rfl, ?_⟩) ?_ ?_
    rotate_left
    · intro w'
      go_simp
      with_reducible rfl
    rotate_left
    · simp only [Act.put, List.setIfInBounds_toArray, List.set_cons_zero, List.set_cons_succ, i64_w, i32_w]
      rfl
    by_cases c4712 : t4709.1 = 0
    · replace H := if_yes c4712 H
      have c4712b0 : (t4709.1 == 0) = true := beq_iff_eq.mpr c4712
      have c4712b1 : (t4709.1 != 0) = false := bne_eq_false_iff_eq.mpr c4712
      clear c4712
      try simp only [c4712b0, Bool.not_true, Bool.not_false]
      refine pure_ (i := 8) (N := some 21) (v := undef) (a' := ?_) #[true, true, true, true, true, true, true, true, true, false, false, false, false, false, false, false, false, false, false, false, false, false, false, false, false] rfl rfl (by kernel_rfl) (fun _ _ _ h => h) (Or.inr ⟨by rfl, rfl⟩) ?_ ?_
      rotate_left
      · simp only [Act.put, List.setIfInBounds_toArray, List.set_cons_zero, List.set_cons_succ, i64_w, i32_w]
        rfl
      try simp only [c4712b0, Bool.not_true, Bool.not_false]
      refine pure_ (i := 9) (N := some 22) (v := undef) (a' := ?_) #[true, true, true, true, true, true, true, true, true, true, false, false, false, false, false, false, false, false, false, false, false, false, false, false, false] rfl rfl (by kernel_rfl) (fun _ _ _ h => h) (Or.inr ⟨by rfl, rfl⟩) ?_ ?_
      rotate_left
      · simp only [Act.put, List.setIfInBounds_toArray, List.set_cons_zero, List.set_cons_succ, i64_w, i32_w]
        rfl
      try simp only [c4712b0, Bool.not_true, Bool.not_false]
      refine pure_ (i := 10) (N := some 23) (v := undef) (a' := ?_) #[true, true, true, true, true, true, true, true, true, true, true, false, false, false, false, false, false, false, false, false, false, false, false, false, false] rfl rfl (by kernel_rfl) (fun _ _ _ h => h) (Or.inr ⟨by rfl, rfl⟩) ?_ ?_
      rotate_left
      · simp only [Act.put, List.setIfInBounds_toArray, List.set_cons_zero, List.set_cons_succ, i64_w, i32_w]
        rfl
      refine pure_ (i := 11) (N := some 24) (v := ?_) (a' := ?_) #[true, true, true, true, true, true, true, true, true, true, true, true, false, false, false, false, false, false, false, false, false, false, false, false, false] rfl rfl (by kernel_rfl) (fun _ _ _ h => h) (Or.inl ⟨by rfl, ?_⟩) ?_ ?_
      rotate_left
      · intro w'
        go_simp
        with_reducible rfl
      rotate_left
      · simp only [Act.put, List.setIfInBounds_toArray, List.set_cons_zero, List.set_cons_succ, i64_w, i32_w]
        rfl
      refine pure_ (i := 12) (N := some 25) (v := ?_) (a' := ?_) #[true, true, true, true, true, true, true, true, true, true, true, true, true, false, false, false, false, false, false, false, false, false, false, false, false] rfl rfl (by kernel_rfl) (fun _ _ _ h => h) (Or.inl ⟨by rfl, ?_⟩) ?_ ?_
      rotate_left
      · intro w'
        go_simp
        with_reducible rfl
      rotate_left
      · simp only [Act.put, List.setIfInBounds_toArray, List.set_cons_zero, List.set_cons_succ, i64_w, i32_w]
        rfl
      refine pure_ (i := 13) (N := some 26) (v := undef) (a' := ?_) #[true, true, true, true, true, true, true, true, true, true, true, true, true, true, false, false, false, false, false, false, false, false, false, false, false] rfl rfl (by kernel_rfl) (fun _ _ _ h => h) (Or.inr ⟨by rfl, rfl⟩) ?_ ?_
      rotate_left
      · simp only [Act.put, List.setIfInBounds_toArray, List.set_cons_zero, List.set_cons_succ, i64_w, i32_w]
        rfl
      refine pure_ (i := 14) (N := some 27) (v := undef) (a' := ?_) #[true, true, true, true, true, true, true, true, true, true, true, true, true, true, true, false, false, false, false, false, false, false, false, false, false] rfl rfl (by kernel_rfl) (fun _ _ _ h => h) (Or.inr ⟨by rfl, rfl⟩) ?_ ?_
      rotate_left
      · simp only [Act.put, List.setIfInBounds_toArray, List.set_cons_zero, List.set_cons_succ, i64_w, i32_w]
        rfl
      refine pure_ (i := 15) (N := some 28) (v := undef) (a' := ?_) #[true, true, true, true, true, true, true, true, true, true, true, true, true, true, true, true, false, false, false, false, false, false, false, false, false] rfl rfl (by kernel_rfl) (fun _ _ _ h => h) (Or.inr ⟨by rfl, rfl⟩) ?_ ?_
      rotate_left
      · simp only [Act.put, List.setIfInBounds_toArray, List.set_cons_zero, List.set_cons_succ, i64_w, i32_w]
        rfl
      refine pure_ (i := 16) (N := some 29) (v := undef) (a' := ?_) #[true, true, true, true, true, true, true, true, true, true, true, true, true, true, true, true, true, false, false, false, false, false, false, false, false] rfl rfl (by kernel_rfl) (fun _ _ _ h => h) (Or.inr ⟨by rfl, rfl⟩) ?_ ?_
      rotate_left
      · simp only [Act.put, List.setIfInBounds_toArray, List.set_cons_zero, List.set_cons_succ, i64_w, i32_w]
        rfl
      refine pure_ (i := 17) (N := some 30) (v := undef) (a' := ?_) #[true, true, true, true, true, true, true, true, true, true, true, true, true, true, true, true, true, true, false, false, false, false, false, false, false] rfl rfl (by kernel_rfl) (fun _ _ _ h => h) (Or.inr ⟨by rfl, rfl⟩) ?_ ?_
      rotate_left
      · simp only [Act.put, List.setIfInBounds_toArray, List.set_cons_zero, List.set_cons_succ, i64_w, i32_w]
        rfl
      refine pure_ (i := 18) (N := some 31) (v := ?_) (a' := ?_) #[true, true, true, true, true, true, true, true, true, true, true, true, true, true, true, true, true, true, true, false, false, false, false, false, false] rfl rfl (by kernel_rfl) (fun _ _ _ h => h) (Or.inl ⟨by rfl, ?_⟩) ?_ ?_
      rotate_left
      · intro w'
        go_simp
        with_reducible rfl
      rotate_left
      · simp only [Act.put, List.setIfInBounds_toArray, List.set_cons_zero, List.set_cons_succ, i64_w, i32_w]
        rfl
      refine pure_ (i := 19) (N := some 32) (v := ?_) (a' := ?_) #[true, true, true, true, true, true, true, true, true, true, true, true, true, true, true, true, true, true, true, true, false, false, false, false, false] rfl rfl (by kernel_rfl) (fun _ _ _ h => h) (Or.inl ⟨by rfl, ?_⟩) ?_ ?_
      rotate_left
      · intro w'
        go_simp
        with_reducible rfl
      rotate_left
      · simp only [Act.put, List.setIfInBounds_toArray, List.set_cons_zero, List.set_cons_succ, i64_w, i32_w]
        rfl
      refine pure_ (i := 20) (N := some 33) (v := undef) (a' := ?_) #[true, true, true, true, true, true, true, true, true, true, true, true, true, true, true, true, true, true, true, true, true, false, false, false, false] rfl rfl (by kernel_rfl) (fun _ _ _ h => h) (Or.inr ⟨by rfl, rfl⟩) ?_ ?_
      rotate_left
      · simp only [Act.put, List.setIfInBounds_toArray, List.set_cons_zero, List.set_cons_succ, i64_w, i32_w]
        rfl
      refine pure_ (i := 21) (N := some 34) (v := undef) (a' := ?_) #[true, true, true, true, true, true, true, true, true, true, true, true, true, true, true, true, true, true, true, true, true, true, false, false, false] rfl rfl (by kernel_rfl) (fun _ _ _ h => h) (Or.inr ⟨by rfl, rfl⟩) ?_ ?_
      rotate_left
      · simp only [Act.put, List.setIfInBounds_toArray, List.set_cons_zero, List.set_cons_succ, i64_w, i32_w]
        rfl
      refine pure_ (i := 22) (N := some 35) (v := undef) (a' := ?_) #[true, true, true, true, true, true, true, true, true, true, true, true, true, true, true, true, true, true, true, true, true, true, true, false, false] rfl rfl (by kernel_rfl) (fun _ _ _ h => h) (Or.inr ⟨by rfl, rfl⟩) ?_ ?_
      rotate_left
      · simp only [Act.put, List.setIfInBounds_toArray, List.set_cons_zero, List.set_cons_succ, i64_w, i32_w]
        rfl
      refine pure_ (i := 23) (N := some 36) (v := undef) (a' := ?_) #[true, true, true, true, true, true, true, true, true, true, true, true, true, true, true, true, true, true, true, true, true, true, true, true, false] rfl rfl (by kernel_rfl) (fun _ _ _ h => h) (Or.inr ⟨by rfl, rfl⟩) ?_ ?_
      rotate_left
      · simp only [Act.put, List.setIfInBounds_toArray, List.set_cons_zero, List.set_cons_succ, i64_w, i32_w]
        rfl
      refine pure_ (i := 24) (N := some 37) (v := ?_) (a' := ?_) #[true, true, true, true, true, true, true, true, true, true, true, true, true, true, true, true, true, true, true, true, true, true, true, true, true] rfl rfl (by kernel_rfl) (fun _ _ _ h => h) (Or.inl ⟨by rfl, ?_⟩) ?_ ?_
      rotate_left
      · intro w'
        go_simp
        with_reducible rfl
      rotate_left
      · simp only [Act.put, List.setIfInBounds_toArray, List.set_cons_zero, List.set_cons_succ, i64_w, i32_w]
        rfl
      refine done_ (by kernel_rfl) ?_
      replace HS : Aside0 (Sep FF w [b7 g3982 g3984 a3992 a3993 a3994 a3995, b6 g3984 A3987 l3986.length n3989 t4709.2, r5 A3987 l3986.length n3989 l3986] w4711) := ⟨HS.out.sub (.cons_cons _ (.cons_cons _ (.cons_cons _ (.cons _ .slnil))))⟩
      go_wp2_with fail
      go_ret
      rw [← some_eq H]
      exact ⟨(by first | rfl | (simp [IntKind.wrap_u32]; done)), HS.out⟩
    · replace H := if_no c4712 H
      have c4712b0 : (t4709.1 == 0) = false := beq_eq_false_iff_ne.mpr c4712
      have c4712b1 : (t4709.1 != 0) = true := bne_iff_ne.mpr c4712
      clear c4712
      try simp only [c4712b0, Bool.not_true, Bool.not_false]
      refine pure_ (i := 8) (N := some 21) (v := ?_) (a' := ?_) #[true, true, true, true, true, true, true, true, true, false, false, false, false, false, false, false, false, false, false, false, false, false, false, false, false] rfl rfl (by kernel_rfl) (fun _ _ _ h => h) (Or.inl ⟨by rfl, ?_⟩) ?_ ?_
      rotate_left
      · intro w'
        go_simp
        with_reducible rfl
      rotate_left
      · simp only [Act.put, List.setIfInBounds_toArray, List.set_cons_zero, List.set_cons_succ, i64_w, i32_w]
        rfl
      try simp only [c4712b0, Bool.not_true, Bool.not_false]
      refine take_ (i := 9) (N := some 22) (v := ?_) (a' := ?_) #[true, true, true, true, true, true, true, true, true, true, false, false, false, false, false, false, false, false, false, false, false, false, false, false, false] rfl rfl (by kernel_rfl) (fun _ _ _ h => h) (Or.inl ⟨by rfl, ?_⟩) hHeld ?_ ?_
      rotate_left
      · rintro w' hS'
        obtain ⟨s0, s1⟩ := hS'
        go_simp
        with_reducible rfl
      rotate_left
      · simp only [Act.put, List.setIfInBounds_toArray, List.set_cons_zero, List.set_cons_succ, i64_w, i32_w]
        rfl
      try simp only [c4712b0, Bool.not_true, Bool.not_false]
      refine pure_ (i := 10) (N := some 23) (v := ?_) (a' := ?_) #[true, true, true, true, true, true, true, true, true, true, true, false, false, false, false, false, false, false, false, false, false, false, false, false, false] rfl rfl (by kernel_rfl) (fun _ _ _ h => h) (Or.inl ⟨by rfl, ?_⟩) ?_ ?_
      rotate_left
      · intro w'
        go_simp
        with_reducible rfl
      rotate_left
      · simp only [Act.put, List.setIfInBounds_toArray, List.set_cons_zero, List.set_cons_succ, i64_w, i32_w]
        rfl
      refine pure_ (i := 11) (N := some 24) (v := ?_) (a' := ?_) #[true, true, true, true, true, true, true, true, true, true, true, true, false, false, false, false, false, false, false, false, false, false, false, false, false] rfl rfl (by kernel_rfl) (fun _ _ _ h => h) (Or.inl ⟨by rfl, ?_⟩) ?_ ?_
      rotate_left
      · intro w'
        go_simp
        with_reducible rfl
      rotate_left
      · simp only [Act.put, List.setIfInBounds_toArray, List.set_cons_zero, List.set_cons_succ, i64_w, i32_w]
        rfl
      refine pure_ (i := 12) (N := some 25) (v := ?_) (a' := ?_) #[true, true, true, true, true, true, true, true, true, true, true, true, true, false, false, false, false, false, false, false, false, false, false, false, false] rfl rfl (by kernel_rfl) (fun _ _ _ h => h) (Or.inl ⟨by rfl, ?_⟩) ?_ ?_
      rotate_left
      · intro w'
        go_simp
        with_reducible rfl
      rotate_left
      · simp only [Act.put, List.setIfInBounds_toArray, List.set_cons_zero, List.set_cons_succ, i64_w, i32_w]
        rfl
      by_cases c4713 : t4685.2.2.2.2.1 = 1
      · replace H := if_yes c4713 H
        have c4713b0 : (t4685.2.2.2.2.1 == 1) = true := beq_iff_eq.mpr c4713
        have c4713b1 : (t4685.2.2.2.2.1 != 1) = false := bne_eq_false_iff_eq.mpr c4713
        clear c4713
        try simp only [c4713b0, Bool.not_true, Bool.not_false]
        refine pure_ (i := 13) (N := some 26) (v := undef) (a' := ?_) #[true, true, true, true, true, true, true, true, true, true, true, true, true, true, false, false, false, false, false, false, false, false, false, false, false] rfl rfl (by kernel_rfl) (fun _ _ _ h => h) (Or.inr ⟨by rfl, rfl⟩) ?_ ?_
        rotate_left
        · simp only [Act.put, List.setIfInBounds_toArray, List.set_cons_zero, List.set_cons_succ, i64_w, i32_w]
          rfl
        try simp only [c4713b0, Bool.not_true, Bool.not_false]
        refine pure_ (i := 14) (N := some 27) (v := undef) (a' := ?_) #[true, true, true, true, true, true, true, true, true, true, true, true, true, true, true, false, false, false, false, false, false, false, false, false, false] rfl rfl (by kernel_rfl) (fun _ _ _ h => h) (Or.inr ⟨by rfl, rfl⟩) ?_ ?_
        rotate_left
        · simp only [Act.put, List.setIfInBounds_toArray, List.set_cons_zero, List.set_cons_succ, i64_w, i32_w]
          rfl
        try simp only [c4713b0, Bool.not_true, Bool.not_false]
        refine pure_ (i := 15) (N := some 28) (v := undef) (a' := ?_) #[true, true, true, true, true, true, true, true, true, true, true, true, true, true, true, true, false, false, false, false, false, false, false, false, false] rfl rfl (by kernel_rfl) (fun _ _ _ h => h) (Or.inr ⟨by rfl, rfl⟩) ?_ ?_
        rotate_left
        · simp only [Act.put, List.setIfInBounds_toArray, List.set_cons_zero, List.set_cons_succ, i64_w, i32_w]
          rfl
        try simp only [c4713b0, Bool.not_true, Bool.not_false]
        refine pure_ (i := 16) (N := some 29) (v := undef) (a' := ?_) #[true, true, true, true, true, true, true, true, true, true, true, true, true, true, true, true, true, false, false, false, false, false, false, false, false] rfl rfl (by kernel_rfl) (fun _ _ _ h => h) (Or.inr ⟨by rfl, rfl⟩) ?_ ?_
        rotate_left
        · simp only [Act.put, List.setIfInBounds_toArray, List.set_cons_zero, List.set_cons_succ, i64_w, i32_w]
          rfl
        try simp only [c4713b0, Bool.not_true, Bool.not_false]
        refine pure_ (i := 17) (N := some 30) (v := undef) (a' := ?_) #[true, true, true, true, true, true, true, true, true, true, true, true, true, true, true, true, true, true, false, false, false, false, false, false, false] rfl rfl (by kernel_rfl) (fun _ _ _ h => h) (Or.inr ⟨by rfl, rfl⟩) ?_ ?_
        rotate_left
        · simp only [Act.put, List.setIfInBounds_toArray, List.set_cons_zero, List.set_cons_succ, i64_w, i32_w]
          rfl
        refine pure_ (i := 18) (N := some 31) (v := ?_) (a' := ?_) #[true, true, true, true, true, true, true, true, true, true, true, true, true, true, true, true, true, true, true, false, false, false, false, false, false] rfl rfl (by kernel_rfl) (fun _ _ _ h => h) (Or.inl ⟨by rfl, ?_⟩) ?_ ?_
        rotate_left
        · intro w'
          go_simp
          with_reducible rfl
        rotate_left
        · simp only [Act.put, List.setIfInBounds_toArray, List.set_cons_zero, List.set_cons_succ, i64_w, i32_w]
          rfl
        refine pure_ (i := 19) (N := some 32) (v := ?_) (a' := ?_) #[true, true, true, true, true, true, true, true, true, true, true, true, true, true, true, true, true, true, true, true, false, false, false, false, false] rfl rfl (by kernel_rfl) (fun _ _ _ h => h) (Or.inl ⟨by rfl, ?_⟩) ?_ ?_
        rotate_left
        · intro w'
          go_simp
          with_reducible rfl
        rotate_left
        · simp only [Act.put, List.setIfInBounds_toArray, List.set_cons_zero, List.set_cons_succ, i64_w, i32_w]
          rfl
        refine pure_ (i := 20) (N := some 33) (v := undef) (a' := ?_) #[true, true, true, true, true, true, true, true, true, true, true, true, true, true, true, true, true, true, true, true, true, false, false, false, false] rfl rfl (by kernel_rfl) (fun _ _ _ h => h) (Or.inr ⟨by rfl, rfl⟩) ?_ ?_
        rotate_left
        · simp only [Act.put, List.setIfInBounds_toArray, List.set_cons_zero, List.set_cons_succ, i64_w, i32_w]
          rfl
        refine pure_ (i := 21) (N := some 34) (v := undef) (a' := ?_) #[true, true, true, true, true, true, true, true, true, true, true, true, true, true, true, true, true, true, true, true, true, true, false, false, false] rfl rfl (by kernel_rfl) (fun _ _ _ h => h) (Or.inr ⟨by rfl, rfl⟩) ?_ ?_
        rotate_left
        · simp only [Act.put, List.setIfInBounds_toArray, List.set_cons_zero, List.set_cons_succ, i64_w, i32_w]
          rfl
        refine pure_ (i := 22) (N := some 35) (v := undef) (a' := ?_) #[true, true, true, true, true, true, true, true, true, true, true, true, true, true, true, true, true, true, true, true, true, true, true, false, false] rfl rfl (by kernel_rfl) (fun _ _ _ h => h) (Or.inr ⟨by rfl, rfl⟩) ?_ ?_
        rotate_left
        · simp only [Act.put, List.setIfInBounds_toArray, List.set_cons_zero, List.set_cons_succ, i64_w, i32_w]
          rfl
        refine pure_ (i := 23) (N := some 36) (v := undef) (a' := ?_) #[true, true, true, true, true, true, true, true, true, true, true, true, true, true, true, true, true, true, true, true, true, true, true, true, false] rfl rfl (by kernel_rfl) (fun _ _ _ h => h) (Or.inr ⟨by rfl, rfl⟩) ?_ ?_
        rotate_left
        · simp only [Act.put, List.setIfInBounds_toArray, List.set_cons_zero, List.set_cons_succ, i64_w, i32_w]
          rfl
        refine pure_ (i := 24) (N := some 37) (v := ?_) (a' := ?_) #[true, true, true, true, true, true, true, true, true, true, true, true, true, true, true, true, true, true, true, true, true, true, true, true, true] rfl rfl (by kernel_rfl) (fun _ _ _ h => h) (Or.inl ⟨by rfl, ?_⟩) ?_ ?_
        rotate_left
        · intro w'
          go_simp
          with_reducible rfl
        rotate_left
        · simp only [Act.put, List.setIfInBounds_toArray, List.set_cons_zero, List.set_cons_succ, i64_w, i32_w]
          rfl
        refine done_ (by kernel_rfl) ?_
        replace HS : Aside0 (Sep FF w [b7 g3982 g3984 a3992 a3993 a3994 a3995, b6 g3984 A3987 l3986.length n3989 t4709.2, r5 A3987 l3986.length n3989 l3986] w4711) := ⟨HS.out.sub (.cons_cons _ (.cons_cons _ (.cons_cons _ (.cons _ .slnil))))⟩
        go_wp2_with fail
        go_ret
        rw [← some_eq H]
        exact ⟨(by first | rfl | (simp [IntKind.wrap_u32]; done)), HS.out⟩
      · replace H := if_no c4713 H
        have c4713b0 : (t4685.2.2.2.2.1 == 1) = false := beq_eq_false_iff_ne.mpr c4713
        have c4713b1 : (t4685.2.2.2.2.1 != 1) = true := bne_iff_ne.mpr c4713
        clear c4713
        try simp only [c4713b0, Bool.not_true, Bool.not_false]
        refine pure_ (i := 13) (N := some 26) (v := ?_) (a' := ?_) #[true, true, true, true, true, true, true, true, true, true, true, true, true, true, false, false, false, false, false, false, false, false, false, false, false] rfl rfl (by kernel_rfl) (fun _ _ _ h => h) (Or.inl ⟨by rfl, ?_⟩) ?_ ?_
        rotate_left
        · intro w'
          go_simp
          with_reducible rfl
        rotate_left
        · simp only [Act.put, List.setIfInBounds_toArray, List.set_cons_zero, List.set_cons_succ, i64_w, i32_w]
          rfl
        try simp only [c4713b0, Bool.not_true, Bool.not_false]
        refine pure_ (i := 15) (N := some 28) (v := ?_) (a' := ?_) #[true, true, true, true, true, true, true, true, true, true, true, true, true, true, false, true, false, false, false, false, false, false, false, false, false] rfl rfl (by kernel_rfl) (fun _ _ _ h => h) (Or.inl ⟨by rfl, ?_⟩) ?_ ?_
        rotate_left
        · intro w'
          go_simp
          with_reducible rfl
        rotate_left
        · simp only [Act.put, List.setIfInBounds_toArray, List.set_cons_zero, List.set_cons_succ, i64_w, i32_w]
          rfl
        try simp only [c4713b0, Bool.not_true, Bool.not_false]
        refine take_ (i := 14) (N := some 27) (v := ?_) (a' := ?_) #[true, true, true, true, true, true, true, true, true, true, true, true, true, true, true, true, false, false, false, false, false, false, false, false, false] rfl rfl (by kernel_rfl) (fun _ _ _ h => h) (Or.inl ⟨by rfl, ?_⟩) hHeld ?_ ?_
        rotate_left
        · rintro w' hS'
          obtain ⟨s0, s1⟩ := hS'
          go_simp
          with_reducible rfl
        rotate_left
        · simp only [Act.put, List.setIfInBounds_toArray, List.set_cons_zero, List.set_cons_succ, i64_w, i32_w]
          rfl
        try simp only [c4713b0, Bool.not_true, Bool.not_false]
        refine one_ (i := 16) (N := some 29) #[true, true, true, true, true, true, true, true, true, true, true, true, true, true, true, true, true, false, false, false, false, false, false, false, false] rfl rfl (by kernel_rfl) (by decide) (fun K hK => ?_)
        obtain ⟨t4714, HA4715, H⟩ := bind_some H
        refine goes_ Tryz.func15 (by kernel_rfl) rfl #[.pointer (some ⟨g3982, 0, none⟩)] (by rfl) rfl rfl (by (try simp only [List.map_toArray, List.map_cons, List.map_nil]); first | done | rfl) ?_
        refine (tint_Parity.calls l3986 t4709.2 a3992 a3993 a3994 a3995 g3982 g3984 A3987 l3986.length n3989 t4714 _ ⟨HGl0.out.pass HS.out⟩ ⟨HS.out.begin⟩ HA4715).mono ?_
        rintro e_ w4716 ⟨rfl, hS⟩
        replace HS : Aside0 (Sep FF w [b7 g3982 g3984 a3992 a3993 a3994 a3995, b6 g3984 A3987 l3986.length n3989 t4714.2, r5 A3987 l3986.length n3989 l3986, b16 g4688 t4685.1 t4685.2.1 t4685.2.2.1 t4685.2.2.2.1 t4685.2.2.2.2.1 t4685.2.2.2.2.2.1 t4685.2.2.2.2.2.2.1] w4716) := ⟨HS.out.call hS⟩
        clear hS
        refine ⟨_, rfl, ?_⟩
        refine hK.out _ _ (⟨blk_cellv (HS.out.at3) 4 rfl, blk_cellv (HS.out.at3) 1 rfl⟩) (fun hHeld => ?_)
        clear hK K
        refine norm_ (a' := ?_) ?_ ?_
        rotate_left
        · show Act.put _ (some 29) _ = _
          simp only [Act.put, List.setIfInBounds_toArray, List.set_cons_zero, List.set_cons_succ, i64_w, i32_w]
          rfl
        try simp only [c4713b0, Bool.not_true, Bool.not_false]
        refine pure_ (i := 17) (N := some 30) (v := ?_) (a' := ?_) #[true, true, true, true, true, true, true, true, true, true, true, true, true, true, true, true, true, true, false, false, false, false, false, false, false] rfl rfl (by kernel_rfl) (fun _ _ _ h => h) (Or.inl ⟨by rfl, ?_⟩) ?_ ?_
        rotate_left
        · intro w'
          go_simp
          with_reducible rfl
        rotate_left
        · simp only [Act.put, List.setIfInBounds_toArray, List.set_cons_zero, List.set_cons_succ, i64_w, i32_w]
          rfl
        refine pure_ (i := 18) (N := some 31) (v := ?_) (a' := ?_) #[true, true, true, true, true, true, true, true, true, true, true, true, true, true, true, true, true, true, true, false, false, false, false, false, false] rfl rfl (by kernel_rfl) (fun _ _ _ h => h) (Or.inl ⟨by rfl, ?_⟩) ?_ ?_
        rotate_left
        · intro w'
          go_simp
          with_reducible rfl
        rotate_left
        · simp only [Act.put, List.setIfInBounds_toArray, List.set_cons_zero, List.set_cons_succ, i64_w, i32_w]
          rfl
        refine pure_ (i := 19) (N := some 32) (v := ?_) (a' := ?_) #[true, true, true, true, true, true, true, true, true, true, true, true, true, true, true, true, true, true, true, true, false, false, false, false, false] rfl rfl (by kernel_rfl) (fun _ _ _ h => h) (Or.inl ⟨by rfl, ?_⟩) ?_ ?_
        rotate_left
        · intro w'
          go_simp
          with_reducible rfl
        rotate_left
        · simp only [Act.put, List.setIfInBounds_toArray, List.set_cons_zero, List.set_cons_succ, i64_w, i32_w]
          rfl
        by_cases c4717 : t4685.2.1 = t4714.1
        · replace H := if_yes c4717 H
          have c4717b0 : (t4685.2.1 == t4714.1) = true := beq_iff_eq.mpr c4717
          have c4717b1 : (t4685.2.1 != t4714.1) = false := bne_eq_false_iff_eq.mpr c4717
          clear c4717
          try simp only [c4717b0, Bool.not_true, Bool.not_false]
          refine pure_ (i := 20) (N := some 33) (v := undef) (a' := ?_) #[true, true, true, true, true, true, true, true, true, true, true, true, true, true, true, true, true, true, true, true, true, false, false, false, false] rfl rfl (by kernel_rfl) (fun _ _ _ h => h) (Or.inr ⟨by rfl, rfl⟩) ?_ ?_
          rotate_left
          · simp only [Act.put, List.setIfInBounds_toArray, List.set_cons_zero, List.set_cons_succ, i64_w, i32_w]
            rfl
          try simp only [c4717b0, Bool.not_true, Bool.not_false]
          refine pure_ (i := 21) (N := some 34) (v := undef) (a' := ?_) #[true, true, true, true, true, true, true, true, true, true, true, true, true, true, true, true, true, true, true, true, true, true, false, false, false] rfl rfl (by kernel_rfl) (fun _ _ _ h => h) (Or.inr ⟨by rfl, rfl⟩) ?_ ?_
          rotate_left
          · simp only [Act.put, List.setIfInBounds_toArray, List.set_cons_zero, List.set_cons_succ, i64_w, i32_w]
            rfl
          try simp only [c4717b0, Bool.not_true, Bool.not_false]
          refine pure_ (i := 22) (N := some 35) (v := undef) (a' := ?_) #[true, true, true, true, true, true, true, true, true, true, true, true, true, true, true, true, true, true, true, true, true, true, true, false, false] rfl rfl (by kernel_rfl) (fun _ _ _ h => h) (Or.inr ⟨by rfl, rfl⟩) ?_ ?_
          rotate_left
          · simp only [Act.put, List.setIfInBounds_toArray, List.set_cons_zero, List.set_cons_succ, i64_w, i32_w]
            rfl
          try simp only [c4717b0, Bool.not_true, Bool.not_false]
          refine pure_ (i := 23) (N := some 36) (v := undef) (a' := ?_) #[true, true, true, true, true, true, true, true, true, true, true, true, true, true, true, true, true, true, true, true, true, true, true, true, false] rfl rfl (by kernel_rfl) (fun _ _ _ h => h) (Or.inr ⟨by rfl, rfl⟩) ?_ ?_
          rotate_left
          · simp only [Act.put, List.setIfInBounds_toArray, List.set_cons_zero, List.set_cons_succ, i64_w, i32_w]
            rfl
          refine pure_ (i := 24) (N := some 37) (v := ?_) (a' := ?_) #[true, true, true, true, true, true, true, true, true, true, true, true, true, true, true, true, true, true, true, true, true, true, true, true, true] rfl rfl (by kernel_rfl) (fun _ _ _ h => h) (Or.inl ⟨by rfl, ?_⟩) ?_ ?_
          rotate_left
          · intro w'
            go_simp
            with_reducible rfl
          rotate_left
          · simp only [Act.put, List.setIfInBounds_toArray, List.set_cons_zero, List.set_cons_succ, i64_w, i32_w]
            rfl
          refine done_ (by kernel_rfl) ?_
          replace HS : Aside0 (Sep FF w [b7 g3982 g3984 a3992 a3993 a3994 a3995, b6 g3984 A3987 l3986.length n3989 t4714.2, r5 A3987 l3986.length n3989 l3986] w4716) := ⟨HS.out.sub (.cons_cons _ (.cons_cons _ (.cons_cons _ (.cons _ .slnil))))⟩
          go_wp2_with fail
          go_ret
          rw [← some_eq H]
          exact ⟨(by first | rfl | (simp [IntKind.wrap_u32]; done)), HS.out⟩
        · replace H := if_no c4717 H
          have c4717b0 : (t4685.2.1 == t4714.1) = false := beq_eq_false_iff_ne.mpr c4717
          have c4717b1 : (t4685.2.1 != t4714.1) = true := bne_iff_ne.mpr c4717
          clear c4717
          try simp only [c4717b0, Bool.not_true, Bool.not_false]
          refine pure_ (i := 20) (N := some 33) (v := ?_) (a' := ?_) #[true, true, true, true, true, true, true, true, true, true, true, true, true, true, true, true, true, true, true, true, true, false, false, false, false] rfl rfl (by kernel_rfl) (fun _ _ _ h => h) (Or.inl ⟨by rfl, ?_⟩) ?_ ?_
          rotate_left
          · intro w'
            go_simp
            with_reducible rfl
          rotate_left
          · simp only [Act.put, List.setIfInBounds_toArray, List.set_cons_zero, List.set_cons_succ, i64_w, i32_w]
            rfl
          try simp only [c4717b0, Bool.not_true, Bool.not_false]
          refine pure_ (i := 21) (N := some 34) (v := ?_) (a' := ?_) #[true, true, true, true, true, true, true, true, true, true, true, true, true, true, true, true, true, true, true, true, true, true, false, false, false] rfl rfl (by kernel_rfl) (fun _ _ _ h => h) (Or.inl ⟨by rfl, ?_⟩) ?_ ?_
          rotate_left
          · intro w'
            go_simp
            with_reducible rfl
          rotate_left
          · simp only [Act.put, List.setIfInBounds_toArray, List.set_cons_zero, List.set_cons_succ, i64_w, i32_w]
            rfl
          try simp only [c4717b0, Bool.not_true, Bool.not_false]
          refine one_ (i := 22) (N := some 35) #[true, true, true, true, true, true, true, true, true, true, true, true, true, true, true, true, true, true, true, true, true, true, true, false, false] rfl rfl (by kernel_rfl) (by decide) (fun K hK => ?_)
          obtain ⟨t4718, HA4719, H⟩ := bind_some H
          refine goes_ Tryz.func24 (by kernel_rfl) rfl #[.pointer (some ⟨g3982, 0, none⟩), .int .i64 a3996] (by rfl) rfl rfl (by (try simp only [List.map_toArray, List.map_cons, List.map_nil]); first | done | rfl) ?_
          refine (tint_Paint.calls _ l3986 t4714.2 a3992 a3993 a3994 a3995 a3996 g3982 g3984 A3987 l3986.length n3989 t4718 _ ⟨HGl0.out.pass HS.out⟩ ⟨HS.out.begin⟩ HA4719).mono ?_
          rintro e_ w4720 ⟨rfl, hS⟩
          replace HS : Aside0 (Sep FF w [b7 g3982 g3984 a3992 a3993 a3994 a3995, b6 g3984 A3987 l3986.length n3989 t4718.2.1, r5 A3987 l3986.length n3989 t4718.2.2, b16 g4688 t4685.1 t4685.2.1 t4685.2.2.1 t4685.2.2.2.1 t4685.2.2.2.2.1 t4685.2.2.2.2.2.1 t4685.2.2.2.2.2.2.1] w4720) := ⟨HS.out.call hS⟩
          clear hS
          refine ⟨_, rfl, ?_⟩
          refine hK.out _ _ (⟨blk_cellv (HS.out.at3) 4 rfl, blk_cellv (HS.out.at3) 1 rfl⟩) (fun hHeld => ?_)
          clear hK K
          refine norm_ (a' := ?_) ?_ ?_
          rotate_left
          · show Act.put _ (some 35) _ = _
            simp only [Act.put, List.setIfInBounds_toArray, List.set_cons_zero, List.set_cons_succ, i64_w, i32_w]
            rfl
          try simp only [c4717b0, Bool.not_true, Bool.not_false]
          refine pure_ (i := 23) (N := some 36) (v := ?_) (a' := ?_) #[true, true, true, true, true, true, true, true, true, true, true, true, true, true, true, true, true, true, true, true, true, true, true, true, false] rfl rfl (by kernel_rfl) (fun _ _ _ h => h) (Or.inl ⟨by rfl, ?_⟩) ?_ ?_
          rotate_left
          · intro w'
            go_simp
            with_reducible rfl
          rotate_left
          · simp only [Act.put, List.setIfInBounds_toArray, List.set_cons_zero, List.set_cons_succ, i64_w, i32_w]
            rfl
          refine pure_ (i := 24) (N := some 37) (v := ?_) (a' := ?_) #[true, true, true, true, true, true, true, true, true, true, true, true, true, true, true, true, true, true, true, true, true, true, true, true, true] rfl rfl (by kernel_rfl) (fun _ _ _ h => h) (Or.inl ⟨by rfl, ?_⟩) ?_ ?_
          rotate_left
          · intro w'
            go_simp
            with_reducible rfl
          rotate_left
          · simp only [Act.put, List.setIfInBounds_toArray, List.set_cons_zero, List.set_cons_succ, i64_w, i32_w]
            rfl
          refine done_ (by kernel_rfl) ?_
          by_cases c4721 : t4718.1 = true
          · replace H := if_yes c4721 H
            have c4721b0 : t4718.1 = true := c4721
            have c4721b1 : (!t4718.1) = false := by rw [c4721b0]; rfl
            try rw [c4721b1]
            clear c4721
            replace HS : Aside0 (Sep FF w [b7 g3982 g3984 a3992 a3993 a3994 a3995, b6 g3984 A3987 l3986.length n3989 t4718.2.1, r5 A3987 l3986.length n3989 t4718.2.2] w4720) := ⟨HS.out.sub (.cons_cons _ (.cons_cons _ (.cons_cons _ (.cons _ .slnil))))⟩
            go_wp2_with fail
            obtain ⟨t4722, HA4723, H⟩ := bind_some H
            refine (ring_Add.calls _ t4718.2.2 t4718.2.1 a3992 a3993 a3994 a3995 (wrap64 (a3996 - 1)) g3982 g3984 A3987 l3986.length n3989 t4722 _ ⟨HGl0.out.pass HS.out⟩ ⟨HS.out.begin⟩ HA4723).mono ?_
            rintro e_ w4724 ⟨rfl, hS⟩
            replace HS : Aside0 (Sep FF w [b7 g3982 g3984 a3992 a3993 a3994 a3995, b6 g3984 A3987 l3986.length n3989 t4722.2.1, r5 A3987 l3986.length n3989 t4722.2.2] w4724) := ⟨HS.out.call hS⟩
            clear hS
            go_wp2_with fail
            go_ret
            rw [← some_eq H]
            exact ⟨(by first | rfl | (simp [IntKind.wrap_u32]; done)), HS.out⟩
          · replace H := if_no c4721 H
            have c4721b0 : t4718.1 = false := by simpa using c4721
            have c4721b1 : (!t4718.1) = true := by rw [c4721b0]; rfl
            try rw [c4721b1]
            clear c4721
            replace HS : Aside0 (Sep FF w [b7 g3982 g3984 a3992 a3993 a3994 a3995, b6 g3984 A3987 l3986.length n3989 t4718.2.1, r5 A3987 l3986.length n3989 t4718.2.2] w4720) := ⟨HS.out.sub (.cons_cons _ (.cons_cons _ (.cons_cons _ (.cons _ .slnil))))⟩
            go_wp2_with fail
            go_ret
            rw [← some_eq H]
            exact ⟨(by first | rfl | (simp [IntKind.wrap_u32]; done)), HS.out⟩
  · replace H := if_no c4708 H
    have c4708b0 : t4685.2.2.2.2.2.2.2.1 = false := by simpa using c4708
    have c4708b1 : (!t4685.2.2.2.2.2.2.2.1) = true := by rw [c4708b0]; rfl
    try rw [c4708b1]
    clear c4708
    try simp only [c4708b0, Bool.not_true, Bool.not_false]
    refine pure_ (i := 3) (N := some 16) (v := undef) (a' := ?_) #[true, true, true, true, false, false, false, false, false, false, false, false, false, false, false, false, false, false, false, false, false, false, false, false, false] rfl rfl (by kernel_rfl) (fun _ _ _ h => h) (Or.inr ⟨by rfl, rfl⟩) ?_ ?_
    rotate_left
    · simp only [Act.put, List.setIfInBounds_toArray, List.set_cons_zero, List.set_cons_succ, i64_w, i32_w]
      rfl
    try simp only [c4708b0, Bool.not_true, Bool.not_false]
    refine pure_ (i := 4) (N := some 17) (v := undef) (a' := ?_) #[true, true, true, true, true, false, false, false, false, false, false, false, false, false, false, false, false, false, false, false, false, false, false, false, false] rfl rfl (by kernel_rfl) (fun _ _ _ h => h) (Or.inr ⟨by rfl, rfl⟩) ?_ ?_
    rotate_left
    · simp only [Act.put, List.setIfInBounds_toArray, List.set_cons_zero, List.set_cons_succ, i64_w, i32_w]
      rfl
    try simp only [c4708b0, Bool.not_true, Bool.not_false]
    refine pure_ (i := 5) (N := some 18) (v := undef) (a' := ?_) #[true, true, true, true, true, true, false, false, false, false, false, false, false, false, false, false, false, false, false, false, false, false, false, false, false] rfl rfl (by kernel_rfl) (fun _ _ _ h => h) (Or.inr ⟨by rfl, rfl⟩) ?_ ?_
    rotate_left
    · simp only [Act.put, List.setIfInBounds_toArray, List.set_cons_zero, List.set_cons_succ, i64_w, i32_w]
      rfl
    refine pure_ (i := 6) (N := some 19) (v := ?_) (a' := ?_) #[true, true, true, true, true, true, true, false, false, false, false, false, false, false, false, false, false, false, false, false, false, false, false, false, false] rfl rfl (by kernel_rfl) (fun _ _ _ h => h) (Or.inl ⟨by rfl, ?_⟩) ?_ ?_
    rotate_left
    · intro w'
      go_simp
      with_reducible rfl
    rotate_left
    · simp only [Act.put, List.setIfInBounds_toArray, List.set_cons_zero, List.set_cons_succ, i64_w, i32_w]
      rfl
    refine pure_ (i := 7) (N := some 20) (v := ?_) (a' := ?_) #[true, true, true, true, true, true, true, true, false, false, false, false, false, false, false, false, false, false, false, false, false, false, false, false, false] rfl rfl (by kernel_rfl) (fun _ _ _ h => h) (Or.inl ⟨by rfl, ?_⟩) ?_ ?_
    rotate_left
    · intro w'
      go_simp
      with_reducible rfl
    rotate_left
    · simp only [Act.put, List.setIfInBounds_toArray, List.set_cons_zero, List.set_cons_succ, i64_w, i32_w]
      rfl
    refine pure_ (i := 8) (N := some 21) (v := undef) (a' := ?_) #[true, true, true, true, true, true, true, true, true, false, false, false, false, false, false, false, false, false, false, false, false, false, false, false, false] rfl rfl (by kernel_rfl) (fun _ _ _ h => h) (Or.inr ⟨by rfl, rfl⟩) ?_ ?_
    rotate_left
    · simp only [Act.put, List.setIfInBounds_toArray, List.set_cons_zero, List.set_cons_succ, i64_w, i32_w]
      rfl
    refine pure_ (i := 9) (N := some 22) (v := undef) (a' := ?_) #[true, true, true, true, true, true, true, true, true, true, false, false, false, false, false, false, false, false, false, false, false, false, false, false, false] rfl rfl (by kernel_rfl) (fun _ _ _ h => h) (Or.inr ⟨by rfl, rfl⟩) ?_ ?_
    rotate_left
    · simp only [Act.put, List.setIfInBounds_toArray, List.set_cons_zero, List.set_cons_succ, i64_w, i32_w]
      rfl
    refine pure_ (i := 10) (N := some 23) (v := undef) (a' := ?_) #[true, true, true, true, true, true, true, true, true, true, true, false, false, false, false, false, false, false, false, false, false, false, false, false, false] rfl rfl (by kernel_rfl) (fun _ _ _ h => h) (Or.inr ⟨by rfl, rfl⟩) ?_ ?_
    rotate_left
    · simp only [Act.put, List.setIfInBounds_toArray, List.set_cons_zero, List.set_cons_succ, i64_w, i32_w]
      rfl
    refine pure_ (i := 11) (N := some 24) (v := ?_) (a' := ?_) #[true, true, true, true, true, true, true, true, true, true, true, true, false, false, false, false, false, false, false, false, false, false, false, false, false] rfl rfl (by kernel_rfl) (fun _ _ _ h => h) (Or.inl ⟨by rfl, ?_⟩) ?_ ?_
    rotate_left
    · intro w'
      go_simp
      with_reducible rfl
    rotate_left
    · simp only [Act.put, List.setIfInBounds_toArray, List.set_cons_zero, List.set_cons_succ, i64_w, i32_w]
      rfl
    refine pure_ (i := 12) (N := some 25) (v := ?_) (a' := ?_) #[true, true, true, true, true, true, true, true, true, true, true, true, true, false, false, false, false, false, false, false, false, false, false, false, false] rfl rfl (by kernel_rfl) (fun _ _ _ h => h) (Or.inl ⟨by rfl, ?_⟩) ?_ ?_
    rotate_left
    · intro w'
      go_simp
      with_reducible rfl
    rotate_left
    · simp only [Act.put, List.setIfInBounds_toArray, List.set_cons_zero, List.set_cons_succ, i64_w, i32_w]
      rfl
    refine pure_ (i := 13) (N := some 26) (v := undef) (a' := ?_) #[true, true, true, true, true, true, true, true, true, true, true, true, true, true, false, false, false, false, false, false, false, false, false, false, false] rfl rfl (by kernel_rfl) (fun _ _ _ h => h) (Or.inr ⟨by rfl, rfl⟩) ?_ ?_
    rotate_left
    · simp only [Act.put, List.setIfInBounds_toArray, List.set_cons_zero, List.set_cons_succ, i64_w, i32_w]
      rfl
    refine pure_ (i := 14) (N := some 27) (v := undef) (a' := ?_) #[true, true, true, true, true, true, true, true, true, true, true, true, true, true, true, false, false, false, false, false, false, false, false, false, false] rfl rfl (by kernel_rfl) (fun _ _ _ h => h) (Or.inr ⟨by rfl, rfl⟩) ?_ ?_
    rotate_left
    · simp only [Act.put, List.setIfInBounds_toArray, List.set_cons_zero, List.set_cons_succ, i64_w, i32_w]
      rfl
    refine pure_ (i := 15) (N := some 28) (v := undef) (a' := ?_) #[true, true, true, true, true, true, true, true, true, true, true, true, true, true, true, true, false, false, false, false, false, false, false, false, false] rfl rfl (by kernel_rfl) (fun _ _ _ h => h) (Or.inr ⟨by rfl, rfl⟩) ?_ ?_
    rotate_left
    · simp only [Act.put, List.setIfInBounds_toArray, List.set_cons_zero, List.set_cons_succ, i64_w, i32_w]
      rfl
    refine pure_ (i := 16) (N := some 29) (v := undef) (a' := ?_) #[true, true, true, true, true, true, true, true, true, true, true, true, true, true, true, true, true, false, false, false, false, false, false, false, false] rfl rfl (by kernel_rfl) (fun _ _ _ h => h) (Or.inr ⟨by rfl, rfl⟩) ?_ ?_
    rotate_left
    · simp only [Act.put, List.setIfInBounds_toArray, List.set_cons_zero, List.set_cons_succ, i64_w, i32_w]
      rfl
    refine pure_ (i := 17) (N := some 30) (v := undef) (a' := ?_) #[true, true, true, true, true, true, true, true, true, true, true, true, true, true, true, true, true, true, false, false, false, false, false, false, false] rfl rfl (by kernel_rfl) (fun _ _ _ h => h) (Or.inr ⟨by rfl, rfl⟩) ?_ ?_
    rotate_left
    · simp only [Act.put, List.setIfInBounds_toArray, List.set_cons_zero, List.set_cons_succ, i64_w, i32_w]
      rfl
    refine pure_ (i := 18) (N := some 31) (v := ?_) (a' := ?_) #[true, true, true, true, true, true, true, true, true, true, true, true, true, true, true, true, true, true, true, false, false, false, false, false, false] rfl rfl (by kernel_rfl) (fun _ _ _ h => h) (Or.inl ⟨by rfl, ?_⟩) ?_ ?_
    rotate_left
    · intro w'
      go_simp
      with_reducible rfl
    rotate_left
    · simp only [Act.put, List.setIfInBounds_toArray, List.set_cons_zero, List.set_cons_succ, i64_w, i32_w]
      rfl
    refine pure_ (i := 19) (N := some 32) (v := ?_) (a' := ?_) #[true, true, true, true, true, true, true, true, true, true, true, true, true, true, true, true, true, true, true, true, false, false, false, false, false] rfl rfl (by kernel_rfl) (fun _ _ _ h => h) (Or.inl ⟨by rfl, ?_⟩) ?_ ?_
    rotate_left
    · intro w'
      go_simp
      with_reducible rfl
    rotate_left
    · simp only [Act.put, List.setIfInBounds_toArray, List.set_cons_zero, List.set_cons_succ, i64_w, i32_w]
      rfl
    refine pure_ (i := 20) (N := some 33) (v := undef) (a' := ?_) #[true, true, true, true, true, true, true, true, true, true, true, true, true, true, true, true, true, true, true, true, true, false, false, false, false] rfl rfl (by kernel_rfl) (fun _ _ _ h => h) (Or.inr ⟨by rfl, rfl⟩) ?_ ?_
    rotate_left
    · simp only [Act.put, List.setIfInBounds_toArray, List.set_cons_zero, List.set_cons_succ, i64_w, i32_w]
      rfl
    refine pure_ (i := 21) (N := some 34) (v := undef) (a' := ?_) #[true, true, true, true, true, true, true, true, true, true, true, true, true, true, true, true, true, true, true, true, true, true, false, false, false] rfl rfl (by kernel_rfl) (fun _ _ _ h => h) (Or.inr ⟨by rfl, rfl⟩) ?_ ?_
    rotate_left
    · simp only [Act.put, List.setIfInBounds_toArray, List.set_cons_zero, List.set_cons_succ, i64_w, i32_w]
      rfl
    refine pure_ (i := 22) (N := some 35) (v := undef) (a' := ?_) #[true, true, true, true, true, true, true, true, true, true, true, true, true, true, true, true, true, true, true, true, true, true, true, false, false] rfl rfl (by kernel_rfl) (fun _ _ _ h => h) (Or.inr ⟨by rfl, rfl⟩) ?_ ?_
    rotate_left
    · simp only [Act.put, List.setIfInBounds_toArray, List.set_cons_zero, List.set_cons_succ, i64_w, i32_w]
      rfl
    refine pure_ (i := 23) (N := some 36) (v := undef) (a' := ?_) #[true, true, true, true, true, true, true, true, true, true, true, true, true, true, true, true, true, true, true, true, true, true, true, true, false] rfl rfl (by kernel_rfl) (fun _ _ _ h => h) (Or.inr ⟨by rfl, rfl⟩) ?_ ?_
    rotate_left
    · simp only [Act.put, List.setIfInBounds_toArray, List.set_cons_zero, List.set_cons_succ, i64_w, i32_w]
      rfl
    refine pure_ (i := 24) (N := some 37) (v := ?_) (a' := ?_) #[true, true, true, true, true, true, true, true, true, true, true, true, true, true, true, true, true, true, true, true, true, true, true, true, true] rfl rfl (by kernel_rfl) (fun _ _ _ h => h) (Or.inl ⟨by rfl, ?_⟩) ?_ ?_
    rotate_left
    · intro w'
      go_simp
      with_reducible rfl
    rotate_left
    · simp only [Act.put, List.setIfInBounds_toArray, List.set_cons_zero, List.set_cons_succ, i64_w, i32_w]
      rfl
    refine done_ (by kernel_rfl) ?_
    replace HS : Aside0 (Sep FF w [b7 g3982 g3984 a3992 a3993 a3994 a3995, b6 g3984 A3987 l3986.length n3989 t4685.2.2.2.2.2.2.2.2, r5 A3987 l3986.length n3989 l3986] w4707) := ⟨HS.out.sub (.cons_cons _ (.cons_cons _ (.cons_cons _ (.cons _ .slnil))))⟩
    go_wp2_with fail
    go_ret
    rw [← some_eq H]
    exact ⟨(by first | rfl | (simp [IntKind.wrap_u32]; done)), HS.out⟩

set_option maxHeartbeats 30000000 in
set_option maxRecDepth 100000 in
theorem store_Store_Peek.calls (l4773 : List Int) (a4778 : Int) (a4779 : Int) (g4771 : Nat) (A4774 : Option Addr) (m4775 : Nat) (n4776 : Nat) (r : Int) (w : World)  (HGl0 : Aside0 (Gl 0 #[.int .i64 0, .int .i64 0, .int .i64 0, .int .i64 0, .int .i64 0] (fps [b6 g4771 A4774 m4775 n4776 a4778, r5 A4774 m4775 n4776 l4773]) w)) (HS : Aside0 (Sep (fps [b6 g4771 A4774 m4775 n4776 a4778, r5 A4774 m4775 n4776 l4773]) w [b6 g4771 A4774 m4775 n4776 a4778, r5 A4774 m4775 n4776 l4773] w)) (H : Aside0 (store_Store_Peek.f l4773 a4778 a4779 = some r)) :
    Calls Tryz.prog 119 #[.pointer (some ⟨g4771, 0, none⟩), .int .i64 a4779] w fun e w' => e = .returned (.int .u32 r) ∧ Sep (fps [b6 g4771 A4774 m4775 n4776 a4778, r5 A4774 m4775 n4776 l4773]) w [b6 g4771 A4774 m4775 n4776 a4778, r5 A4774 m4775 n4776 l4773] w' := by
  generalize (fps [b6 g4771 A4774 m4775 n4776 a4778, r5 A4774 m4775 n4776 l4773]) = FF at HS HGl0 ⊢
  obtain rfl := (row_len (HS.out.at1)).symm
  unfold store_Store_Peek.f at H
  go_enter Tryz.func119, Tryz.ntmps119
  go_wp2_with fail
  obtain ⟨t4780, HA4781, H⟩ := bind_some H
  refine (store_Store_has.calls l4773 a4778 a4779 g4771 A4774 l4773.length n4776 t4780 _ ⟨HGl0.out.pass HS.out⟩ ⟨HS.out.begin⟩ HA4781).mono ?_
  rintro e_ w4782 ⟨rfl, hS⟩
  replace HS : Aside0 (Sep FF w [b6 g4771 A4774 l4773.length n4776 a4778, r5 A4774 l4773.length n4776 l4773] w4782) := ⟨HS.out.call hS⟩
  clear hS
  by_cases c4783 : t4780 = true
  · replace H := if_yes c4783 H
    have c4783b0 : t4780 = true := c4783
    have c4783b1 : (!t4780) = false := by rw [c4783b0]; rfl
    try rw [c4783b1]
    clear c4783
    by_cases c4785 : 0 ≤ a4779
    · replace H := if_yes c4785 H
      have c4785b0 : decide (0 ≤ a4779) = true := decide_eq_true c4785
      have c4785p : (0 ≤ a4779) = True := eq_true c4785
      clear c4785
      by_cases c4786 : a4779 < (l4773.length : Int)
      · replace H := if_yes c4786 H
        have c4786b0 : decide (a4779 < (l4773.length : Int)) = true := decide_eq_true c4786
        have c4786p : (a4779 < (l4773.length : Int)) = True := eq_true c4786
        clear c4786
        have hc4784 : w4782.cell? ⟨g4771, 0, none⟩ = some (.slice A4774 l4773.length n4776) := blk_cellv (HS.out.at0) 0 rfl
        obtain ⟨g4787, ea⟩ := row_at (HS.out.at1) (by have := (of_decide_eq_true c4785b0); have := (of_decide_eq_true c4786b0); omega); cases ea
        have hx4788 := C_at_int (row_Ci (HS.out.at1)) a4779 (of_decide_eq_true c4785b0) (of_decide_eq_true c4786b0)
        have hx4789 : w4782.cell? ⟨g4787, (a4779).toNat, none⟩ = some (.int .u32 (rd l4773 a4779)) := (row_get 0 (HS.out.at1) a4779 (of_decide_eq_true c4785b0) (of_decide_eq_true c4786b0)).1
        go_wp2_with fail
        clear hc4784 hx4788 hx4789
        go_ret
        rw [← some_eq H]
        exact ⟨(by first | rfl | (simp [IntKind.wrap_u32]; done)), HS.out⟩
      · replace H := if_no c4786 H
        have c4786b0 : decide (a4779 < (l4773.length : Int)) = false := decide_eq_false c4786
        clear c4786
        exact (none_no H).elim
    · replace H := if_no c4785 H
      have c4785b0 : decide (0 ≤ a4779) = false := decide_eq_false c4785
      clear c4785
      exact (none_no H).elim
  · replace H := if_no c4783 H
    have c4783b0 : t4780 = false := by simpa using c4783
    have c4783b1 : (!t4780) = true := by rw [c4783b0]; rfl
    try rw [c4783b1]
    clear c4783
    go_wp2_with fail
    go_ret
    rw [← some_eq H]
    exact ⟨(by first | rfl | (simp [IntKind.wrap_u32]; done)), HS.out⟩

set_option maxHeartbeats 30000000 in
set_option maxRecDepth 100000 in
theorem ground_Ground_SeeReg.calls (l4753 : List Int) (a4758 : Int) (a4759 : Int) (a4760 : Int) (a4761 : Int) (a4762 : Int) (a4763 : Int) (g4749 : Nat) (g4751 : Nat) (A4754 : Option Addr) (m4755 : Nat) (n4756 : Nat) (r : Int) (w : World)  (HGl0 : Aside0 (Gl 0 #[.int .i64 0, .int .i64 0, .int .i64 0, .int .i64 0, .int .i64 0] (fps [b7 g4749 g4751 a4759 a4760 a4761 a4762, b6 g4751 A4754 m4755 n4756 a4758, r5 A4754 m4755 n4756 l4753]) w)) (HS : Aside0 (Sep (fps [b7 g4749 g4751 a4759 a4760 a4761 a4762, b6 g4751 A4754 m4755 n4756 a4758, r5 A4754 m4755 n4756 l4753]) w [b7 g4749 g4751 a4759 a4760 a4761 a4762, b6 g4751 A4754 m4755 n4756 a4758, r5 A4754 m4755 n4756 l4753] w)) (H : Aside0 (ground_Ground_SeeReg.f l4753 a4758 a4759 a4760 a4761 a4762 a4763 = some r)) :
    Calls Tryz.prog 76 #[.pointer (some ⟨g4749, 0, none⟩), .int .i64 a4763] w fun e w' => e = .returned (.int .i64 r) ∧ Sep (fps [b7 g4749 g4751 a4759 a4760 a4761 a4762, b6 g4751 A4754 m4755 n4756 a4758, r5 A4754 m4755 n4756 l4753]) w [b7 g4749 g4751 a4759 a4760 a4761 a4762, b6 g4751 A4754 m4755 n4756 a4758, r5 A4754 m4755 n4756 l4753] w' := by
  generalize (fps [b7 g4749 g4751 a4759 a4760 a4761 a4762, b6 g4751 A4754 m4755 n4756 a4758, r5 A4754 m4755 n4756 l4753]) = FF at HS HGl0 ⊢
  obtain rfl := (row_len (HS.out.at2)).symm
  unfold ground_Ground_SeeReg.f at H
  go_enter Tryz.func76, Tryz.ntmps76
  go_wp2_with fail
  obtain ⟨t4764, HA4765, H⟩ := bind_some H
  refine (ground_Ground_all.calls l4753 a4758 a4759 a4760 a4761 a4762 g4749 g4751 A4754 l4753.length n4756 t4764 _ ⟨HGl0.out.pass HS.out⟩ ⟨HS.out.begin⟩ HA4765).mono ?_
  rintro e_ w4766 ⟨rfl, hS⟩
  replace HS : Aside0 (Sep FF w [b7 g4749 g4751 a4759 a4760 a4761 a4762, b6 g4751 A4754 l4753.length n4756 a4758, r5 A4754 l4753.length n4756 l4753] w4766) := ⟨HS.out.call hS⟩
  clear hS
  go_wp2_with fail
  obtain ⟨t4767, HA4768, H⟩ := bind_some H
  refine (ground_reg.calls a4763 t4767 _ ⟨HGl0.out.pass (l := []) HS.out⟩ ⟨Sep.start _⟩ HA4768).mono ?_
  rintro e_ w4769 ⟨rfl, hS⟩
  replace HS : Aside0 (Sep FF w [b7 g4749 g4751 a4759 a4760 a4761 a4762, b6 g4751 A4754 l4753.length n4756 a4758, r5 A4754 l4753.length n4756 l4753] w4769) := ⟨HS.out.call hS⟩
  clear hS
  go_wp2_with fail
  replace HS : Aside0 (Sep FF w [r5 A4754 l4753.length n4756 l4753, b7 g4749 g4751 a4759 a4760 a4761 a4762, b6 g4751 A4754 l4753.length n4756 a4758] w4769) := ⟨HS.out.front 2 (by simp)⟩
  replace HS : Aside0 (Sep FF w [b6 g4751 A4754 l4753.length n4756 a4758, r5 A4754 l4753.length n4756 l4753, b7 g4749 g4751 a4759 a4760 a4761 a4762] w4769) := ⟨HS.out.front 2 (by simp)⟩
  obtain ⟨t4790, HA4791, H⟩ := bind_some H
  refine (store_Store_Peek.calls l4753 a4758 t4767 g4751 A4754 l4753.length n4756 t4790 _ ⟨HGl0.out.pass HS.out⟩ ⟨HS.out.begin⟩ HA4791).mono ?_
  rintro e_ w4792 ⟨rfl, hS⟩
  replace HS : Aside0 (Sep FF w [b6 g4751 A4754 l4753.length n4756 a4758, r5 A4754 l4753.length n4756 l4753, b7 g4749 g4751 a4759 a4760 a4761 a4762] w4792) := ⟨HS.out.call hS⟩
  clear hS
  go_wp2_with fail
  go_ret
  rw [← some_eq H]
  exact ⟨(by first | rfl | (simp [IntKind.wrap_u32]; done)), ((((HS.out).front 1 (by simp)).front 1 (by simp)).front 2 (by simp)).keep (l := [b7 g4749 g4751 a4759 a4760 a4761 a4762, b6 g4751 A4754 l4753.length n4756 a4758, r5 A4754 l4753.length n4756 l4753]) (rest := [])⟩

set_option maxHeartbeats 30000000 in
set_option maxRecDepth 100000 in
theorem ground_Ground_SeeWord.calls (l4830 : List Int) (a4835 : Int) (a4836 : Int) (a4837 : Int) (a4838 : Int) (a4839 : Int) (a4840 : Int) (a4841 : Int) (g4826 : Nat) (g4828 : Nat) (A4831 : Option Addr) (m4832 : Nat) (n4833 : Nat) (r : Int) (w : World)  (HGl0 : Aside0 (Gl 0 #[.int .i64 0, .int .i64 0, .int .i64 0, .int .i64 0, .int .i64 0] (fps [b7 g4826 g4828 a4836 a4837 a4838 a4839, b6 g4828 A4831 m4832 n4833 a4835, r5 A4831 m4832 n4833 l4830]) w)) (HS : Aside0 (Sep (fps [b7 g4826 g4828 a4836 a4837 a4838 a4839, b6 g4828 A4831 m4832 n4833 a4835, r5 A4831 m4832 n4833 l4830]) w [b7 g4826 g4828 a4836 a4837 a4838 a4839, b6 g4828 A4831 m4832 n4833 a4835, r5 A4831 m4832 n4833 l4830] w)) (H : Aside0 (ground_Ground_SeeWord.f l4830 a4835 a4836 a4837 a4838 a4839 a4840 a4841 = some r)) :
    Calls Tryz.prog 93 #[.pointer (some ⟨g4826, 0, none⟩), .int .i64 a4840, .int .i64 a4841] w fun e w' => e = .returned (.int .u32 r) ∧ Sep (fps [b7 g4826 g4828 a4836 a4837 a4838 a4839, b6 g4828 A4831 m4832 n4833 a4835, r5 A4831 m4832 n4833 l4830]) w [b7 g4826 g4828 a4836 a4837 a4838 a4839, b6 g4828 A4831 m4832 n4833 a4835, r5 A4831 m4832 n4833 l4830] w' := by
  generalize (fps [b7 g4826 g4828 a4836 a4837 a4838 a4839, b6 g4828 A4831 m4832 n4833 a4835, r5 A4831 m4832 n4833 l4830]) = FF at HS HGl0 ⊢
  obtain rfl := (row_len (HS.out.at2)).symm
  unfold ground_Ground_SeeWord.f at H
  go_enter Tryz.func93, Tryz.ntmps93
  go_wp2_with fail
  obtain ⟨t4842, HA4843, H⟩ := bind_some H
  refine (ground_Ground_all.calls l4830 a4835 a4836 a4837 a4838 a4839 g4826 g4828 A4831 l4830.length n4833 t4842 _ ⟨HGl0.out.pass HS.out⟩ ⟨HS.out.begin⟩ HA4843).mono ?_
  rintro e_ w4844 ⟨rfl, hS⟩
  replace HS : Aside0 (Sep FF w [b7 g4826 g4828 a4836 a4837 a4838 a4839, b6 g4828 A4831 l4830.length n4833 a4835, r5 A4831 l4830.length n4833 l4830] w4844) := ⟨HS.out.call hS⟩
  clear hS
  go_wp2_with fail
  obtain ⟨t4845, HA4846, H⟩ := bind_some H
  refine (ground_Ground_word.calls l4830 a4835 a4836 a4837 a4838 a4839 a4840 a4841 g4826 g4828 A4831 l4830.length n4833 t4845 _ ⟨HGl0.out.pass HS.out⟩ ⟨HS.out.begin⟩ HA4846).mono ?_
  rintro e_ w4847 ⟨rfl, hS⟩
  replace HS : Aside0 (Sep FF w [b7 g4826 g4828 a4836 a4837 a4838 a4839, b6 g4828 A4831 l4830.length n4833 a4835, r5 A4831 l4830.length n4833 l4830] w4847) := ⟨HS.out.call hS⟩
  clear hS
  go_wp2_with fail
  replace HS : Aside0 (Sep FF w [r5 A4831 l4830.length n4833 l4830, b7 g4826 g4828 a4836 a4837 a4838 a4839, b6 g4828 A4831 l4830.length n4833 a4835] w4847) := ⟨HS.out.front 2 (by simp)⟩
  replace HS : Aside0 (Sep FF w [b6 g4828 A4831 l4830.length n4833 a4835, r5 A4831 l4830.length n4833 l4830, b7 g4826 g4828 a4836 a4837 a4838 a4839] w4847) := ⟨HS.out.front 2 (by simp)⟩
  obtain ⟨t4848, HA4849, H⟩ := bind_some H
  refine (store_Store_Peek.calls l4830 a4835 t4845 g4828 A4831 l4830.length n4833 t4848 _ ⟨HGl0.out.pass HS.out⟩ ⟨HS.out.begin⟩ HA4849).mono ?_
  rintro e_ w4850 ⟨rfl, hS⟩
  replace HS : Aside0 (Sep FF w [b6 g4828 A4831 l4830.length n4833 a4835, r5 A4831 l4830.length n4833 l4830, b7 g4826 g4828 a4836 a4837 a4838 a4839] w4850) := ⟨HS.out.call hS⟩
  clear hS
  go_wp2_with fail
  go_ret
  rw [← some_eq H]
  exact ⟨(by first | rfl | (simp [IntKind.wrap_u32]; done)), ((((HS.out).front 1 (by simp)).front 1 (by simp)).front 2 (by simp)).keep (l := [b7 g4826 g4828 a4836 a4837 a4838 a4839, b6 g4828 A4831 l4830.length n4833 a4835, r5 A4831 l4830.length n4833 l4830]) (rest := [])⟩

set_option maxHeartbeats 30000000 in
set_option maxRecDepth 100000 in
theorem ring_List.calls (k : Nat) (l4738 : List Int) (a4743 : Int) (a4744 : Int) (a4745 : Int) (a4746 : Int) (a4747 : Int) (g4734 : Nat) (g4736 : Nat) (A4739 : Option Addr) (m4740 : Nat) (n4741 : Nat) (r : List Int) (w : World)  (HGl0 : Aside0 (Gl 0 #[.int .i64 0, .int .i64 0, .int .i64 0, .int .i64 0, .int .i64 0] (fps [b7 g4734 g4736 a4744 a4745 a4746 a4747, b6 g4736 A4739 m4740 n4741 a4743, r5 A4739 m4740 n4741 l4738]) w)) (HS : Aside0 (Sep (fps [b7 g4734 g4736 a4744 a4745 a4746 a4747, b6 g4736 A4739 m4740 n4741 a4743, r5 A4739 m4740 n4741 l4738]) w [b7 g4734 g4736 a4744 a4745 a4746 a4747, b6 g4736 A4739 m4740 n4741 a4743, r5 A4739 m4740 n4741 l4738] w)) (H : Aside0 (ring_List.f k l4738 a4743 a4744 a4745 a4746 a4747 = some r)) :
    Calls Tryz.prog 39 #[.pointer (some ⟨g4734, 0, none⟩)] w fun e w' => ∃ (A4874 : Option Addr) (m4875 : Nat) (n4876 : Nat), e = .returned (.slice A4874 m4875 n4876) ∧ Sep (fps [b7 g4734 g4736 a4744 a4745 a4746 a4747, b6 g4736 A4739 m4740 n4741 a4743, r5 A4739 m4740 n4741 l4738]) w [b7 g4734 g4736 a4744 a4745 a4746 a4747, b6 g4736 A4739 m4740 n4741 a4743, r5 A4739 m4740 n4741 l4738, r11 A4874 m4875 n4876 r] w' := by
  generalize (fps [b7 g4734 g4736 a4744 a4745 a4746 a4747, b6 g4736 A4739 m4740 n4741 a4743, r5 A4739 m4740 n4741 l4738]) = FF at HS HGl0 ⊢
  obtain rfl := (row_len (HS.out.at2)).symm
  unfold ring_List.f at H
  go_enter Tryz.func39, Tryz.ntmps39
  go_wp2_with fail
  obtain ⟨t4793, HA4794, H⟩ := bind_some H
  refine (ground_Ground_SeeReg.calls l4738 a4743 a4744 a4745 a4746 a4747 7 g4734 g4736 A4739 l4738.length n4741 t4793 _ ⟨HGl0.out.pass HS.out⟩ ⟨HS.out.begin⟩ HA4794).mono ?_
  rintro e_ w4795 ⟨rfl, hS⟩
  replace HS : Aside0 (Sep FF w [b7 g4734 g4736 a4744 a4745 a4746 a4747, b6 g4736 A4739 l4738.length n4741 a4743, r5 A4739 l4738.length n4741 l4738] w4795) := ⟨HS.out.call hS⟩
  clear hS
  go_wp2_with fail
  replace HS : Aside0 (Sep FF w [r11 none 0 0 [], b7 g4734 g4736 a4744 a4745 a4746 a4747, b6 g4736 A4739 l4738.length n4741 a4743, r5 A4739 l4738.length n4741 l4738] w4795) := ⟨HS.out.nilrow 3 (Value.int .i64)⟩
  obtain ⟨o4797, AL4798, H⟩ := bind_some H
  go_loopg [3, 4] k (fun kq v3 v4 wc => ∃ (x4803 : Int) (x4804 : List Int) (A4805 : Option Addr) (m4806 : Nat) (n4807 : Nat), v3 = .slice A4805 m4806 n4807 ∧ v4 = .int .i64 x4803 ∧ Aside0 (ring_List.lo0 kq l4738 a4743 a4744 a4745 a4746 a4747 x4803 x4804 = some o4797) ∧ Aside0 (Sep FF w [r11 A4805 m4806 n4807 x4804, b7 g4734 g4736 a4744 a4745 a4746 a4747, b6 g4736 A4739 l4738.length n4741 a4743, r5 A4739 l4738.length n4741 l4738] wc))
  case atStart => exact ⟨(t4793), (([] : List Int)), (none), (0), (0), (by first | rfl | (simp [IntKind.wrap_u32]; done)), (by first | rfl | (simp [IntKind.wrap_u32]; done)), AL4798, ⟨HS.out⟩⟩
  case round =>
    clear AL4798 HS
    obtain ⟨x4803, x4804, A4805, m4806, n4807, rfl, rfl, AL4798, HS⟩ := hrel
    obtain ⟨w4799, rfl⟩ : ∃ x : World, x = wr := ⟨_, rfl⟩
    obtain rfl := (row_len (HS.out.at0)).symm
    cases gk with
    | zero => exact absurd AL4798.out (by simp [ring_List.lo0])
    | succ k4800 =>
      have AL0 := AL4798.out
      rw [ring_List.lo0] at AL0
      clear AL4798
      have AL4798 := Aside0.mk AL0
      clear AL0
      by_cases c4809 : x4803 > 0
      · replace AL4798 := if_yes c4809 AL4798
        have c4809b0 : decide (0 < x4803) = true := decide_eq_true c4809
        clear c4809
        go_wp2_with fail
        replace HS : Aside0 (Sep FF w [r5 A4739 l4738.length n4741 l4738, r11 A4805 x4804.length n4807 x4804, b7 g4734 g4736 a4744 a4745 a4746 a4747, b6 g4736 A4739 l4738.length n4741 a4743] w4799) := ⟨HS.out.front 3 (by simp)⟩
        replace HS : Aside0 (Sep FF w [b6 g4736 A4739 l4738.length n4741 a4743, r5 A4739 l4738.length n4741 l4738, r11 A4805 x4804.length n4807 x4804, b7 g4734 g4736 a4744 a4745 a4746 a4747] w4799) := ⟨HS.out.front 3 (by simp)⟩
        replace HS : Aside0 (Sep FF w [b7 g4734 g4736 a4744 a4745 a4746 a4747, b6 g4736 A4739 l4738.length n4741 a4743, r5 A4739 l4738.length n4741 l4738, r11 A4805 x4804.length n4807 x4804] w4799) := ⟨HS.out.front 3 (by simp)⟩
        obtain ⟨t4810, HA4811, AL4798⟩ := bind_some AL4798
        refine (ground_Ground_Conf.calls l4738 a4743 a4744 a4745 a4746 a4747 g4734 g4736 A4739 l4738.length n4741 t4810 _ ⟨HGl0.out.pass HS.out⟩ ⟨HS.out.begin⟩ HA4811).mono ?_
        rintro e_ w4812 ⟨rfl, hS⟩
        replace HS : Aside0 (Sep FF w [b7 g4734 g4736 a4744 a4745 a4746 a4747, b6 g4736 A4739 l4738.length n4741 a4743, r5 A4739 l4738.length n4741 l4738, r11 A4805 x4804.length n4807 x4804] w4812) := ⟨HS.out.call hS⟩
        clear hS
        by_cases c4814 : (x4804.length : Int) < t4810.1
        · replace AL4798 := if_yes c4814 AL4798
          have c4814b0 : decide ((x4804.length : Int) < t4810.1) = true := decide_eq_true c4814
          clear c4814
          by_cases c4818 : x4804.length < 17592186044416
          · replace AL4798 := if_yes c4818 AL4798
            have c4818b0 : decide (x4804.length < 17592186044416) = true := decide_eq_true c4818
            clear c4818
            obtain ⟨y4822, HA4823, AL4798⟩ := bind_some AL4798
            have fl4813 : ∀ w, (Instr.field 29 (.agg #[.int .i64 t4810.1, .int .i64 t4810.2.1, .int .i64 t4810.2.2.1, .int .i64 t4810.2.2.2]) 0).run Tryz.prog w = .ok (.int .i64 t4810.1) w := fun _ => by kernel_rfl
            go_wp2_with (first | ((with_reducible refine gate_dst (N := 27) rfl ?_); refine slice_on (n := 1) ?hg (N := 27) ?hd (cs := #[.int .i64 (wrap64 (x4803 - 1))]) (t := 3) ?hr ?_; (case hd => rfl); (case hg => rfl); (case hr => first | (go_simp; done) | (go_simp; rfl)); intro g4815 hg w4816 hbox hb; clear fl4813; replace HS : Aside0 (Sep FF w [b7 g4734 g4736 a4744 a4745 a4746 a4747, b6 g4736 A4739 l4738.length n4741 a4743, r5 A4739 l4738.length n4741 l4738, r11 A4805 x4804.length n4807 x4804, b10 g4815 (wrap64 (x4803 - 1))] w4816) := ⟨HS.out.box hg hbox hb⟩; clear hg hbox hb) | ((with_reducible refine gate_dst (N := 28) rfl ?_); refine append_event (l1 := [b7 g4734 g4736 a4744 a4745 a4746 a4747, b6 g4736 A4739 l4738.length n4741 a4743, r5 A4739 l4738.length n4741 l4738]) (l2 := [b10 g4815 (wrap64 (x4803 - 1))]) rfl (.tmp 24) (.tmp 27) 66 3 (.int .i64 0) 8 rfl Tryz.underlying66 (by kernel_rfl) rfl (by decide) (Value.int .i64) (fun _ => rfl) (.slice A4805 x4804.length n4807) (x4804 : List Int) [wrap64 (x4803 - 1)] ⟨g4815, 0, none⟩ 1 rfl rfl (blk_news (xs := [wrap64 (x4803 - 1)]) (HS.out.at4)) HS.out (by have := of_decide_eq_true c4818b0; simp only [List.length_cons, List.length_nil]; omega) HA4823 ?_; intro A4819 n4820 w4821 HS1; replace HS : Aside0 (Sep FF w [b7 g4734 g4736 a4744 a4745 a4746 a4747, b6 g4736 A4739 l4738.length n4741 a4743, r5 A4739 l4738.length n4741 l4738, r11 A4819 y4822.length n4820 y4822, b10 g4815 (wrap64 (x4803 - 1))] w4821) := ⟨HS1⟩; clear HS1; replace HS : Aside0 (Sep FF w [b7 g4734 g4736 a4744 a4745 a4746 a4747, b6 g4736 A4739 l4738.length n4741 a4743, r5 A4739 l4738.length n4741 l4738, r11 A4819 y4822.length n4820 y4822] w4821) := ⟨HS.out.sub (.cons_cons _ (.cons_cons _ (.cons_cons _ (.cons_cons _ (.cons _ .slnil)))))⟩))
            obtain ⟨t4851, HA4852, AL4798⟩ := bind_some AL4798
            refine (ground_Ground_SeeWord.calls l4738 a4743 a4744 a4745 a4746 a4747 (wrap64 (x4803 - 1)) 7 g4734 g4736 A4739 l4738.length n4741 t4851 _ ⟨HGl0.out.pass HS.out⟩ ⟨HS.out.begin⟩ HA4852).mono ?_
            rintro e_ w4853 ⟨rfl, hS⟩
            replace HS : Aside0 (Sep FF w [b7 g4734 g4736 a4744 a4745 a4746 a4747, b6 g4736 A4739 l4738.length n4741 a4743, r5 A4739 l4738.length n4741 l4738, r11 A4819 y4822.length n4820 y4822] w4853) := ⟨HS.out.call hS⟩
            clear hS
            go_wp2_with fail
            go_roundg k4800
            case measure => exact Nat.lt_succ_self _
            case rel => exact ⟨(wrap64 (t4851)), (y4822), (A4819), (y4822.length), (n4820), (by first | rfl | (simp [IntKind.wrap_u32]; done)), (by first | rfl | (simp [IntKind.wrap_u32]; done)), Aside0.mk AL4798.out, ⟨(((((HS.out).front 2 (by simp)).front 2 (by simp)).front 2 (by simp)).front 3 (by simp)).keep (l := [r11 A4819 y4822.length n4820 y4822, b7 g4734 g4736 a4744 a4745 a4746 a4747, b6 g4736 A4739 l4738.length n4741 a4743, r5 A4739 l4738.length n4741 l4738]) (rest := [])⟩⟩
          · replace AL4798 := if_no c4818 AL4798
            have c4818b0 : decide (x4804.length < 17592186044416) = false := decide_eq_false c4818
            clear c4818
            exact (none_no AL4798).elim
        · replace AL4798 := if_no c4814 AL4798
          have c4814b0 : decide ((x4804.length : Int) < t4810.1) = false := decide_eq_false c4814
          clear c4814
          have ho := some_eq AL4798
          subst ho
          clear AL4798
          have fl4813 : ∀ w, (Instr.field 29 (.agg #[.int .i64 t4810.1, .int .i64 t4810.2.1, .int .i64 t4810.2.2.1, .int .i64 t4810.2.2.2]) 0).run Tryz.prog w = .ok (.int .i64 t4810.1) w := fun _ => by kernel_rfl
          go_wp2_with fail
          clear fl4813
          go_ret
          rw [← some_eq H]
          exact ⟨A4805, x4804.length, n4807, (by first | rfl | (simp [IntKind.wrap_u32]; done)), HS.out⟩
      · replace AL4798 := if_no c4809 AL4798
        have c4809b0 : decide (0 < x4803) = false := decide_eq_false c4809
        clear c4809
        have ho := some_eq AL4798
        subst ho
        clear AL4798
        go_wp2_with fail
        go_ret
        rw [← some_eq H]
        exact ⟨A4805, x4804.length, n4807, (by first | rfl | (simp [IntKind.wrap_u32]; done)), ((((HS.out).front 3 (by simp)).front 3 (by simp)).front 3 (by simp)).keep (l := [b7 g4734 g4736 a4744 a4745 a4746 a4747, b6 g4736 A4739 l4738.length n4741 a4743, r5 A4739 l4738.length n4741 l4738, r11 A4805 x4804.length n4807 x4804]) (rest := [])⟩

set_option maxHeartbeats 30000000 in
set_option maxRecDepth 100000 in
theorem quitrentref01_Ints.calls (k : Nat) (l4889 : List Int) (l4893 : List Int) (A4890 : Option Addr) (n4891 : Nat) (A4894 : Option Addr) (n4895 : Nat) (r : Bool) (w : World) (HR4892 : Aside0 (Rd (Kd.int .i64) (fps []) w A4890 l4889.length l4889)) (HR4896 : Aside0 (Rd (Kd.int .i64) (fps []) w A4894 l4893.length l4893)) (HGl0 : Aside0 (Gl 0 #[.int .i64 0, .int .i64 0, .int .i64 0, .int .i64 0, .int .i64 0] (fps []) w)) (HS : Aside0 (Sep (fps []) w [] w)) (H : Aside0 (quitrentref01_Ints.f k l4889 l4893 = some r)) :
    Calls Tryz.prog 38 #[.slice A4890 l4889.length n4891, .slice A4894 l4893.length n4895] w fun e w' => e = .returned (.bool r) ∧ Sep (fps []) w [] w' := by
  unfold quitrentref01_Ints.f at H
  go_enter Tryz.func38, Tryz.ntmps38
  by_cases c4897 : (l4889.length : Int) = (l4893.length : Int)
  · replace H := if_yes c4897 H
    have c4897b0 : ((l4889.length : Int) == (l4893.length : Int)) = true := beq_iff_eq.mpr c4897
    have c4897b1 : ((l4889.length : Int) != (l4893.length : Int)) = false := bne_eq_false_iff_eq.mpr c4897
    clear c4897
    go_wp2_with fail
    obtain ⟨o4913, AL4914, H⟩ := bind_some H
    go_loopg [5] k (fun kq v5 wc => ∃ (x4917 : Int), v5 = .int .i64 x4917 ∧ Aside0 (quitrentref01_Ints.lo0 kq l4889 l4893 x4917 = some o4913) ∧ Aside0 (Sep (fps []) w [] wc))
    case atStart => exact ⟨(0), (by first | rfl | (simp [IntKind.wrap_u32]; done)), AL4914, ⟨HS.out⟩⟩
    case round =>
      clear AL4914 HS
      obtain ⟨x4917, rfl, AL4914, HS⟩ := hrel
      obtain ⟨w4915, rfl⟩ : ∃ x : World, x = wr := ⟨_, rfl⟩
      cases gk with
      | zero => exact absurd AL4914.out (by simp [quitrentref01_Ints.lo0])
      | succ k4916 =>
        have AL0 := AL4914.out
        rw [quitrentref01_Ints.lo0] at AL0
        clear AL4914
        have AL4914 := Aside0.mk AL0
        clear AL0
        by_cases c4918 : x4917 < (l4889.length : Int)
        · replace AL4914 := if_yes c4918 AL4914
          have c4918b0 : decide (x4917 < (l4889.length : Int)) = true := decide_eq_true c4918
          clear c4918
          go_wp2_with fail
          refine start_ (n := 9) (S := (fun w' => Kd.C (Kd.int .i64) w' A4890 l4889.length l4889 ∧ Kd.C (Kd.int .i64) w' A4894 l4893.length l4893)) (ds := []) #[false, false, false, false, false, false, false, false, false] (by kernel_rfl) rfl rfl (⟨Rd.read (fun _ _ _ _ h => h) HR4892.out (HS.out.drew).fr, Rd.read (fun _ _ _ _ h => h) HR4896.out (HS.out.drew).fr⟩) (fun hHeld => ?_)
          have HS_ := Aside0.mk HS.out.drew
          clear HS
          generalize World.drew _ = w4920 at HS_ hHeld ⊢
          have HS := HS_
          clear HS_
          refine pure_ (i := 0) (N := some 17) (v := ?_) (a' := ?_) #[true, false, false, false, false, false, false, false, false] rfl rfl (by kernel_rfl) (fun _ _ _ h => h) (Or.inl ⟨by rfl, ?_⟩) ?_ ?_
          rotate_left
          · intro w'
            go_simp
            with_reducible rfl
          rotate_left
          · simp only [Act.put, List.setIfInBounds_toArray, List.set_cons_zero, List.set_cons_succ, i64_w, i32_w]
            rfl
          refine pure_ (i := 1) (N := some 18) (v := ?_) (a' := ?_) #[true, true, false, false, false, false, false, false, false] rfl rfl (by kernel_rfl) (fun _ _ _ h => h) (Or.inl ⟨by rfl, ?_⟩) ?_ ?_
          rotate_left
          · intro w'
            go_simp
            with_reducible rfl
          rotate_left
          · simp only [Act.put, List.setIfInBounds_toArray, List.set_cons_zero, List.set_cons_succ, i64_w, i32_w]
            rfl
          by_cases c4921 : 0 ≤ x4917
          · replace AL4914 := if_yes c4921 AL4914
            have c4921b0 : decide (0 ≤ x4917) = true := decide_eq_true c4921
            have c4921p : (0 ≤ x4917) = True := eq_true c4921
            clear c4921
            have ip4922 : (x4917 < (l4889.length : Int)) = True := eq_true (of_decide_eq_true c4918b0)
            obtain ⟨ad4923, ea, _⟩ := Kd.at_int (Rd.read (fun _ _ _ _ h => h) HR4892.out HS.out.fr) x4917 (of_decide_eq_true c4921b0) (of_decide_eq_true c4918b0)
            cases ea
            refine pure_ (i := 2) (N := some 19) (v := ?_) (a' := ?_) #[true, true, true, false, false, false, false, false, false] rfl rfl (by kernel_rfl) (fun _ _ _ h => h) (Or.inl ⟨by rfl, ?_⟩) ?_ ?_
            rotate_left
            · intro w'
              go_simp
              with_reducible rfl
            rotate_left
            · simp only [Act.put, List.setIfInBounds_toArray, List.set_cons_zero, List.set_cons_succ, i64_w, i32_w]
              rfl
            refine pure_ (i := 4) (N := some 21) (v := ?_) (a' := ?_) #[true, true, true, false, true, false, false, false, false] rfl rfl (by kernel_rfl) (fun _ _ _ h => h) (Or.inl ⟨by rfl, ?_⟩) ?_ ?_
            rotate_left
            · intro w'
              go_simp
              with_reducible rfl
            rotate_left
            · simp only [Act.put, List.setIfInBounds_toArray, List.set_cons_zero, List.set_cons_succ, i64_w, i32_w]
              rfl
            refine pure_ (i := 5) (N := some 22) (v := ?_) (a' := ?_) #[true, true, true, false, true, true, false, false, false] rfl rfl (by kernel_rfl) (fun _ _ _ h => h) (Or.inl ⟨by rfl, ?_⟩) ?_ ?_
            rotate_left
            · intro w'
              go_simp
              with_reducible rfl
            rotate_left
            · simp only [Act.put, List.setIfInBounds_toArray, List.set_cons_zero, List.set_cons_succ, i64_w, i32_w]
              rfl
            by_cases c4924 : x4917 < (l4893.length : Int)
            · replace AL4914 := if_yes c4924 AL4914
              have c4924b0 : decide (x4917 < (l4893.length : Int)) = true := decide_eq_true c4924
              have c4924p : (x4917 < (l4893.length : Int)) = True := eq_true c4924
              clear c4924
              obtain ⟨ad4925, ea, _⟩ := Kd.at_int (Rd.read (fun _ _ _ _ h => h) HR4896.out HS.out.fr) x4917 (of_decide_eq_true c4921b0) (of_decide_eq_true c4924b0)
              cases ea
              refine pure_ (i := 6) (N := some 23) (v := ?_) (a' := ?_) #[true, true, true, false, true, true, true, false, false] rfl rfl (by kernel_rfl) (fun _ _ _ h => h) (Or.inl ⟨by rfl, ?_⟩) ?_ ?_
              rotate_left
              · intro w'
                go_simp
                with_reducible rfl
              rotate_left
              · simp only [Act.put, List.setIfInBounds_toArray, List.set_cons_zero, List.set_cons_succ, i64_w, i32_w]
                rfl
              refine take_ (i := 3) (N := some 20) (v := ?_) (a' := ?_) #[true, true, true, true, true, true, true, false, false] rfl rfl (by kernel_rfl) (fun _ _ _ h => h) (Or.inl ⟨by rfl, ?_⟩) hHeld ?_ ?_
              rotate_left
              · rintro w' hS'
                obtain ⟨s0, s1⟩ := hS'
                have hx := C_at_int s0 x4917 (of_decide_eq_true c4921b0) (of_decide_eq_true c4918b0)
                go_simp
                with_reducible rfl
              rotate_left
              · simp only [Act.put, List.setIfInBounds_toArray, List.set_cons_zero, List.set_cons_succ, i64_w, i32_w]
                rfl
              refine take_ (i := 7) (N := some 24) (v := ?_) (a' := ?_) #[true, true, true, true, true, true, true, true, false] rfl rfl (by kernel_rfl) (fun _ _ _ h => h) (Or.inl ⟨by rfl, ?_⟩) hHeld ?_ ?_
              rotate_left
              · rintro w' hS'
                obtain ⟨s0, s1⟩ := hS'
                have hx := C_at_int s1 x4917 (of_decide_eq_true c4921b0) (of_decide_eq_true c4924b0)
                go_simp
                with_reducible rfl
              rotate_left
              · simp only [Act.put, List.setIfInBounds_toArray, List.set_cons_zero, List.set_cons_succ, i64_w, i32_w]
                rfl
              refine pure_ (i := 8) (N := some 25) (v := ?_) (a' := ?_) #[true, true, true, true, true, true, true, true, true] rfl rfl (by kernel_rfl) (fun _ _ _ h => h) (Or.inl ⟨by rfl, ?_⟩) ?_ ?_
              rotate_left
              · intro w'
                go_simp
                with_reducible rfl
              rotate_left
              · simp only [Act.put, List.setIfInBounds_toArray, List.set_cons_zero, List.set_cons_succ, i64_w, i32_w]
                rfl
              refine done_ (by kernel_rfl) ?_
              by_cases c4926 : (rd l4889 x4917) = (rd l4893 x4917)
              · replace AL4914 := if_yes c4926 AL4914
                have c4926b0 : ((rd l4889 x4917) == (rd l4893 x4917)) = true := beq_iff_eq.mpr c4926
                have c4926b1 : ((rd l4889 x4917) != (rd l4893 x4917)) = false := bne_eq_false_iff_eq.mpr c4926
                clear c4926
                go_wp2_with fail
                go_roundg k4916
                case measure => exact Nat.lt_succ_self _
                case rel => exact ⟨(wrap64 (x4917 + 1)), (by first | rfl | (simp [IntKind.wrap_u32]; done)), Aside0.mk AL4914.out, ⟨HS.out⟩⟩
              · replace AL4914 := if_no c4926 AL4914
                have c4926b0 : ((rd l4889 x4917) == (rd l4893 x4917)) = false := beq_eq_false_iff_ne.mpr c4926
                have c4926b1 : ((rd l4889 x4917) != (rd l4893 x4917)) = true := bne_iff_ne.mpr c4926
                clear c4926
                go_wp2_with fail
                have ho := some_eq AL4914
                subst ho
                have H := lp_ret H
                go_ret
                rw [← some_eq H]
                exact ⟨(by first | rfl | (simp [IntKind.wrap_u32]; done)), HS.out⟩
            · replace AL4914 := if_no c4924 AL4914
              have c4924b0 : decide (x4917 < (l4893.length : Int)) = false := decide_eq_false c4924
              clear c4924
              exact (none_no AL4914).elim
          · replace AL4914 := if_no c4921 AL4914
            have c4921b0 : decide (0 ≤ x4917) = false := decide_eq_false c4921
            clear c4921
            exact (none_no AL4914).elim
        · replace AL4914 := if_no c4918 AL4914
          have c4918b0 : decide (x4917 < (l4889.length : Int)) = false := decide_eq_false c4918
          clear c4918
          have ho := some_eq AL4914
          subst ho
          clear AL4914
          have H := lp_out H
          go_wp2_with fail
          go_ret
          rw [← some_eq H]
          exact ⟨(by first | rfl | (simp [IntKind.wrap_u32]; done)), HS.out⟩
  · replace H := if_no c4897 H
    have c4897b0 : ((l4889.length : Int) == (l4893.length : Int)) = false := beq_eq_false_iff_ne.mpr c4897
    have c4897b1 : ((l4889.length : Int) != (l4893.length : Int)) = true := bne_iff_ne.mpr c4897
    clear c4897
    go_wp2_with fail
    go_ret
    rw [← some_eq H]
    exact ⟨(by first | rfl | (simp [IntKind.wrap_u32]; done)), HS.out⟩

set_option maxHeartbeats 30000000 in
set_option maxRecDepth 100000 in
theorem quitrentlaw13_begun.calls (k : Nat)  (r : Bool) (w : World)  (HGl0 : Aside0 (Gl 0 #[.int .i64 0, .int .i64 0, .int .i64 0, .int .i64 0, .int .i64 0] (fps []) w)) (HS : Aside0 (Sep (fps []) w [] w)) (H : Aside0 (quitrentlaw13_begun.f k = some r)) :
    Calls Tryz.prog 7 #[] w fun e w' => e = .returned (.bool r) ∧ Sep (fps []) w [] w' := by
  unfold quitrentlaw13_begun.f at H
  go_enter Tryz.func7, Tryz.ntmps7
  go_wp2_with fail
  obtain ⟨t1818, HA1819, H⟩ := bind_some H
  rcases t1818 with t1820 | t1821
  · have H := sum_l H
    refine (quitrentlaw12_Opened.calls _ 2 16 1 1 (.inl t1820) _ ⟨HGl0.out.pass (l := []) HS.out⟩ ⟨Sep.start _⟩ HA1819).mono ?_
    rintro e_ w1822 ⟨rfl, hS⟩
    replace HS : Aside0 (Sep (fps []) w [] w1822) := ⟨HS.out.call hS⟩
    clear hS
    by_cases c1823 : t1820 = true
    · replace H := if_yes c1823 H
      have c1823b0 : t1820 = true := c1823
      have c1823b1 : (!t1820) = false := by rw [c1823b0]; rfl
      try rw [c1823b1]
      clear c1823
      exact (none_no H).elim
    · replace H := if_no c1823 H
      have c1823b0 : t1820 = false := by simpa using c1823
      have c1823b1 : (!t1820) = true := by rw [c1823b0]; rfl
      try rw [c1823b1]
      clear c1823
      go_wp2_with fail
      go_ret
      rw [← some_eq H]
      exact ⟨(by first | rfl | (simp [IntKind.wrap_u32]; done)), HS.out⟩
  · have H := sum_r H
    refine (quitrentlaw12_Opened.calls _ 2 16 1 1 (.inr t1821) _ ⟨HGl0.out.pass (l := []) HS.out⟩ ⟨Sep.start _⟩ HA1819).mono ?_
    rintro e_ w1824 ⟨g1833, g1834, rfl, g1835, g1836, A1837, m1838, n1839, A1841, m1842, n1843, A1845, m1846, n1847, A1849, m1850, n1851, hS⟩
    replace HS : Aside0 (Sep (fps []) w [b7 g1833 g1835 t1821.2.1 t1821.2.2.1 t1821.2.2.2.1 t1821.2.2.2.2.1, b15 g1834 g1836 0 0 0 0 0 0 0 0 0 A1837 m1838 n1839 A1841 m1842 n1843 0, b6 g1835 A1845 m1846 n1847 t1821.2.2.2.2.2.1, b12 g1836 t1821.2.2.2.2.2.2.1 t1821.2.2.2.2.2.2.2.1 A1849 m1850 n1851, r11 A1837 m1838 n1839 t1821.2.2.2.2.2.2.2.2.1, r11 A1841 m1842 n1843 t1821.2.2.2.2.2.2.2.2.2.1, r5 A1845 m1846 n1847 t1821.2.2.2.2.2.2.2.2.2.2.1, r11 A1849 m1850 n1851 t1821.2.2.2.2.2.2.2.2.2.2.2] w1824) := ⟨HS.out.call hS⟩
    clear hS
    obtain rfl := (row_len (HS.out.at4)).symm
    obtain rfl := (row_len (HS.out.at5)).symm
    obtain rfl := (row_len (HS.out.at6)).symm
    obtain rfl := (row_len (HS.out.at7)).symm
    by_cases c1853 : t1821.1 = true
    · replace H := if_yes c1853 H
      have c1853b0 : t1821.1 = true := c1853
      have c1853b1 : (!t1821.1) = false := by rw [c1853b0]; rfl
      try rw [c1853b1]
      clear c1853
      replace HS : Aside0 (Sep (fps []) w [b7 g1833 g1835 t1821.2.1 t1821.2.2.1 t1821.2.2.2.1 t1821.2.2.2.2.1, b6 g1835 A1845 ((t1821.2.2.2.2.2.2.2.2.2.2.1).length) n1847 t1821.2.2.2.2.2.1, r5 A1845 ((t1821.2.2.2.2.2.2.2.2.2.2.1).length) n1847 t1821.2.2.2.2.2.2.2.2.2.2.1] w1824) := ⟨HS.out.sub (.cons_cons _ (.cons _ (.cons_cons _ (.cons _ (.cons _ (.cons _ (.cons_cons _ (.cons _ .slnil))))))))⟩
      go_wp2_with fail
      obtain ⟨t2777, HA2778, H⟩ := bind_some H
      refine (obj_Make.calls _ t1821.2.2.2.2.2.2.2.2.2.2.1 t1821.2.2.2.2.2.1 t1821.2.1 t1821.2.2.1 t1821.2.2.2.1 t1821.2.2.2.2.1 1 1 g1833 g1835 A1845 ((t1821.2.2.2.2.2.2.2.2.2.2.1).length) n1847 t2777 _ ⟨HGl0.out.pass HS.out⟩ ⟨HS.out.begin⟩ HA2778).mono ?_
      rintro e_ w2779 ⟨rfl, hS⟩
      replace HS : Aside0 (Sep (fps []) w [b7 g1833 g1835 t1821.2.1 t1821.2.2.1 t1821.2.2.2.1 t1821.2.2.2.2.1, b6 g1835 A1845 ((t1821.2.2.2.2.2.2.2.2.2.2.1).length) n1847 t2777.2.2.1, r5 A1845 ((t1821.2.2.2.2.2.2.2.2.2.2.1).length) n1847 t2777.2.2.2] w2779) := ⟨HS.out.call hS⟩
      clear hS
      by_cases c2780 : t2777.2.1 = 0
      · replace H := if_yes c2780 H
        have c2780b0 : (t2777.2.1 == 0) = true := beq_iff_eq.mpr c2780
        have c2780b1 : (t2777.2.1 != 0) = false := bne_eq_false_iff_eq.mpr c2780
        clear c2780
        go_wp2_with fail
        obtain ⟨t3315, HA3316, H⟩ := bind_some H
        refine (tint_Dye.calls _ t2777.2.2.2 t2777.2.2.1 t1821.2.1 t1821.2.2.1 t1821.2.2.2.1 t1821.2.2.2.2.1 t2777.1 g1833 g1835 A1845 ((t1821.2.2.2.2.2.2.2.2.2.2.1).length) n1847 t3315 _ ⟨HGl0.out.pass HS.out⟩ ⟨HS.out.begin⟩ HA3316).mono ?_
        rintro e_ w3317 ⟨rfl, hS⟩
        replace HS : Aside0 (Sep (fps []) w [b7 g1833 g1835 t1821.2.1 t1821.2.2.1 t1821.2.2.2.1 t1821.2.2.2.2.1, b6 g1835 A1845 ((t1821.2.2.2.2.2.2.2.2.2.2.1).length) n1847 t3315.2.1, r5 A1845 ((t1821.2.2.2.2.2.2.2.2.2.2.1).length) n1847 t3315.2.2] w3317) := ⟨HS.out.call hS⟩
        clear hS
        by_cases c3318 : t3315.1 = true
        · replace H := if_yes c3318 H
          have c3318b0 : t3315.1 = true := c3318
          have c3318b1 : (!t3315.1) = false := by rw [c3318b0]; rfl
          try rw [c3318b1]
          clear c3318
          go_wp2_with fail
          obtain ⟨t3389, HA3390, H⟩ := bind_some H
          refine (tint_Black.calls t3315.2.2 t3315.2.1 t1821.2.1 t1821.2.2.1 t1821.2.2.2.1 t1821.2.2.2.2.1 t2777.1 g1833 g1835 A1845 ((t1821.2.2.2.2.2.2.2.2.2.2.1).length) n1847 t3389 _ ⟨HGl0.out.pass HS.out⟩ ⟨HS.out.begin⟩ HA3390).mono ?_
          rintro e_ w3391 ⟨rfl, hS⟩
          replace HS : Aside0 (Sep (fps []) w [b7 g1833 g1835 t1821.2.1 t1821.2.2.1 t1821.2.2.2.1 t1821.2.2.2.2.1, b6 g1835 A1845 ((t1821.2.2.2.2.2.2.2.2.2.2.1).length) n1847 t3389.2, r5 A1845 ((t1821.2.2.2.2.2.2.2.2.2.2.1).length) n1847 t3315.2.2] w3391) := ⟨HS.out.call hS⟩
          clear hS
          by_cases c3392 : t3389.1 = true
          · replace H := if_yes c3392 H
            have c3392b0 : t3389.1 = true := c3392
            have c3392b1 : (!t3389.1) = false := by rw [c3392b0]; rfl
            try rw [c3392b1]
            clear c3392
            go_wp2_with fail
            obtain ⟨t3420, HA3421, H⟩ := bind_some H
            refine (tint_Turn.calls t3315.2.2 t3389.2 t1821.2.1 t1821.2.2.1 t1821.2.2.2.1 t1821.2.2.2.2.1 g1833 g1835 A1845 ((t1821.2.2.2.2.2.2.2.2.2.2.1).length) n1847 t3420 _ ⟨HGl0.out.pass HS.out⟩ ⟨HS.out.begin⟩ HA3421).mono ?_
            rintro e_ w3422 ⟨rfl, hS⟩
            replace HS : Aside0 (Sep (fps []) w [b7 g1833 g1835 t1821.2.1 t1821.2.2.1 t1821.2.2.2.1 t1821.2.2.2.2.1, b6 g1835 A1845 ((t1821.2.2.2.2.2.2.2.2.2.2.1).length) n1847 t3420.1, r5 A1845 ((t1821.2.2.2.2.2.2.2.2.2.2.1).length) n1847 t3420.2] w3422) := ⟨HS.out.call hS⟩
            clear hS
            go_wp2_with fail
            obtain ⟨t3508, HA3509, H⟩ := bind_some H
            refine (tint_Begin.calls _ t3420.2 t3420.1 t1821.2.1 t1821.2.2.1 t1821.2.2.2.1 t1821.2.2.2.2.1 1 g1833 g1835 A1845 ((t1821.2.2.2.2.2.2.2.2.2.2.1).length) n1847 t3508 _ ⟨HGl0.out.pass HS.out⟩ ⟨HS.out.begin⟩ HA3509).mono ?_
            rintro e_ w3510 ⟨rfl, hS⟩
            replace HS : Aside0 (Sep (fps []) w [b7 g1833 g1835 t1821.2.1 t1821.2.2.1 t1821.2.2.2.1 t1821.2.2.2.2.1, b6 g1835 A1845 ((t1821.2.2.2.2.2.2.2.2.2.2.1).length) n1847 t3508.2.1, r5 A1845 ((t1821.2.2.2.2.2.2.2.2.2.2.1).length) n1847 t3508.2.2] w3510) := ⟨HS.out.call hS⟩
            clear hS
            by_cases c3511 : t3508.1 = true
            · replace H := if_yes c3511 H
              have c3511b0 : t3508.1 = true := c3511
              have c3511b1 : (!t3508.1) = false := by rw [c3511b0]; rfl
              try rw [c3511b1]
              clear c3511
              go_wp2_with fail
              obtain ⟨t3512, HA3513, H⟩ := bind_some H
              refine (tint_Black.calls t3508.2.2 t3508.2.1 t1821.2.1 t1821.2.2.1 t1821.2.2.2.1 t1821.2.2.2.2.1 t2777.1 g1833 g1835 A1845 ((t1821.2.2.2.2.2.2.2.2.2.2.1).length) n1847 t3512 _ ⟨HGl0.out.pass HS.out⟩ ⟨HS.out.begin⟩ HA3513).mono ?_
              rintro e_ w3514 ⟨rfl, hS⟩
              replace HS : Aside0 (Sep (fps []) w [b7 g1833 g1835 t1821.2.1 t1821.2.2.1 t1821.2.2.2.1 t1821.2.2.2.2.1, b6 g1835 A1845 ((t1821.2.2.2.2.2.2.2.2.2.2.1).length) n1847 t3512.2, r5 A1845 ((t1821.2.2.2.2.2.2.2.2.2.2.1).length) n1847 t3508.2.2] w3514) := ⟨HS.out.call hS⟩
              clear hS
              by_cases c3515 : t3512.1 = true
              · replace H := if_yes c3515 H
                have c3515b0 : t3512.1 = true := c3515
                have c3515b1 : (!t3512.1) = false := by rw [c3515b0]; rfl
                clear c3515
                replace HS : Aside0 (Sep (fps []) w [] w3514) := ⟨HS.out.sub (.cons _ (.cons _ (.cons _ .slnil)))⟩
                go_wp2_with fail
                go_ret
                rw [← some_eq H]
                exact ⟨(by first | rfl | (simp [IntKind.wrap_u32]; done)), HS.out⟩
              · replace H := if_no c3515 H
                have c3515b0 : t3512.1 = false := by simpa using c3515
                have c3515b1 : (!t3512.1) = true := by rw [c3515b0]; rfl
                clear c3515
                go_wp2_with fail
                obtain ⟨t3725, HA3726, H⟩ := bind_some H
                refine (tint_Deepen.calls _ t3508.2.2 t3512.2 t1821.2.1 t1821.2.2.1 t1821.2.2.2.1 t1821.2.2.2.2.1 t2777.1 g1833 g1835 A1845 ((t1821.2.2.2.2.2.2.2.2.2.2.1).length) n1847 t3725 _ ⟨HGl0.out.pass HS.out⟩ ⟨HS.out.begin⟩ HA3726).mono ?_
                rintro e_ w3727 ⟨rfl, hS⟩
                replace HS : Aside0 (Sep (fps []) w [b7 g1833 g1835 t1821.2.1 t1821.2.2.1 t1821.2.2.2.1 t1821.2.2.2.2.1, b6 g1835 A1845 ((t1821.2.2.2.2.2.2.2.2.2.2.1).length) n1847 t3725.2.1, r5 A1845 ((t1821.2.2.2.2.2.2.2.2.2.2.1).length) n1847 t3725.2.2] w3727) := ⟨HS.out.call hS⟩
                clear hS
                by_cases c3728 : t3725.1 = true
                · replace H := if_yes c3728 H
                  have c3728b0 : t3725.1 = true := c3728
                  have c3728b1 : (!t3725.1) = false := by rw [c3728b0]; rfl
                  try rw [c3728b1]
                  clear c3728
                  go_wp2_with fail
                  obtain ⟨t3729, HA3730, H⟩ := bind_some H
                  refine (tint_Deepen.calls _ t3725.2.2 t3725.2.1 t1821.2.1 t1821.2.2.1 t1821.2.2.2.1 t1821.2.2.2.2.1 t2777.1 g1833 g1835 A1845 ((t1821.2.2.2.2.2.2.2.2.2.2.1).length) n1847 t3729 _ ⟨HGl0.out.pass HS.out⟩ ⟨HS.out.begin⟩ HA3730).mono ?_
                  rintro e_ w3731 ⟨rfl, hS⟩
                  replace HS : Aside0 (Sep (fps []) w [b7 g1833 g1835 t1821.2.1 t1821.2.2.1 t1821.2.2.2.1 t1821.2.2.2.2.1, b6 g1835 A1845 ((t1821.2.2.2.2.2.2.2.2.2.2.1).length) n1847 t3729.2.1, r5 A1845 ((t1821.2.2.2.2.2.2.2.2.2.2.1).length) n1847 t3729.2.2] w3731) := ⟨HS.out.call hS⟩
                  clear hS
                  by_cases c3732 : t3729.1 = true
                  · replace H := if_yes c3732 H
                    have c3732b0 : t3729.1 = true := c3732
                    have c3732b1 : (!t3729.1) = false := by rw [c3732b0]; rfl
                    try rw [c3732b1]
                    clear c3732
                    go_wp2_with fail
                    obtain ⟨t3973, HA3974, H⟩ := bind_some H
                    refine (tint_Lighten.calls t3729.2.2 t3729.2.1 t1821.2.1 t1821.2.2.1 t1821.2.2.2.1 t1821.2.2.2.2.1 t2777.1 g1833 g1835 A1845 ((t1821.2.2.2.2.2.2.2.2.2.2.1).length) n1847 t3973 _ ⟨HGl0.out.pass HS.out⟩ ⟨HS.out.begin⟩ HA3974).mono ?_
                    rintro e_ w3975 ⟨rfl, hS⟩
                    replace HS : Aside0 (Sep (fps []) w [b7 g1833 g1835 t1821.2.1 t1821.2.2.1 t1821.2.2.2.1 t1821.2.2.2.2.1, b6 g1835 A1845 ((t1821.2.2.2.2.2.2.2.2.2.2.1).length) n1847 t3973.2.1, r5 A1845 ((t1821.2.2.2.2.2.2.2.2.2.2.1).length) n1847 t3973.2.2] w3975) := ⟨HS.out.call hS⟩
                    clear hS
                    by_cases c3976 : t3973.1 = true
                    · replace H := if_yes c3976 H
                      have c3976b0 : t3973.1 = true := c3976
                      have c3976b1 : (!t3973.1) = false := by rw [c3976b0]; rfl
                      try rw [c3976b1]
                      clear c3976
                      go_wp2_with fail
                      obtain ⟨t3977, HA3978, H⟩ := bind_some H
                      refine (tint_Shadow.calls t3973.2.2 t3973.2.1 t1821.2.1 t1821.2.2.1 t1821.2.2.2.1 t1821.2.2.2.2.1 t2777.1 g1833 g1835 A1845 ((t1821.2.2.2.2.2.2.2.2.2.2.1).length) n1847 t3977 _ ⟨HGl0.out.pass HS.out⟩ ⟨HS.out.begin⟩ HA3978).mono ?_
                      rintro e_ w3979 ⟨rfl, hS⟩
                      replace HS : Aside0 (Sep (fps []) w [b7 g1833 g1835 t1821.2.1 t1821.2.2.1 t1821.2.2.2.1 t1821.2.2.2.2.1, b6 g1835 A1845 ((t1821.2.2.2.2.2.2.2.2.2.2.1).length) n1847 t3977.2, r5 A1845 ((t1821.2.2.2.2.2.2.2.2.2.2.1).length) n1847 t3973.2.2] w3979) := ⟨HS.out.call hS⟩
                      clear hS
                      by_cases c3980 : t3977.1 = 1
                      · replace H := if_yes c3980 H
                        have c3980b0 : (t3977.1 == 1) = true := beq_iff_eq.mpr c3980
                        have c3980b1 : (t3977.1 != 1) = false := bne_eq_false_iff_eq.mpr c3980
                        clear c3980
                        go_wp2_with fail
                        obtain ⟨t4725, HA4726, H⟩ := bind_some H
                        refine (tint_Touch.calls _ t3973.2.2 t3977.2 t1821.2.1 t1821.2.2.1 t1821.2.2.2.1 t1821.2.2.2.2.1 t2777.1 g1833 g1835 A1845 ((t1821.2.2.2.2.2.2.2.2.2.2.1).length) n1847 t4725 _ ⟨HGl0.out.pass HS.out⟩ ⟨HS.out.begin⟩ HA4726).mono ?_
                        rintro e_ w4727 ⟨rfl, hS⟩
                        replace HS : Aside0 (Sep (fps []) w [b7 g1833 g1835 t1821.2.1 t1821.2.2.1 t1821.2.2.2.1 t1821.2.2.2.2.1, b6 g1835 A1845 ((t1821.2.2.2.2.2.2.2.2.2.2.1).length) n1847 t4725.2.1, r5 A1845 ((t1821.2.2.2.2.2.2.2.2.2.2.1).length) n1847 t4725.2.2] w4727) := ⟨HS.out.call hS⟩
                        clear hS
                        by_cases c4728 : t4725.1 = true
                        · replace H := if_yes c4728 H
                          have c4728b0 : t4725.1 = true := c4728
                          have c4728b1 : (!t4725.1) = false := by rw [c4728b0]; rfl
                          clear c4728
                          go_wp2_with fail
                          obtain ⟨t4729, HA4730, H⟩ := bind_some H
                          refine (tint_Touch.calls _ t4725.2.2 t4725.2.1 t1821.2.1 t1821.2.2.1 t1821.2.2.2.1 t1821.2.2.2.2.1 t2777.1 g1833 g1835 A1845 ((t1821.2.2.2.2.2.2.2.2.2.2.1).length) n1847 t4729 _ ⟨HGl0.out.pass HS.out⟩ ⟨HS.out.begin⟩ HA4730).mono ?_
                          rintro e_ w4731 ⟨rfl, hS⟩
                          replace HS : Aside0 (Sep (fps []) w [b7 g1833 g1835 t1821.2.1 t1821.2.2.1 t1821.2.2.2.1 t1821.2.2.2.2.1, b6 g1835 A1845 ((t1821.2.2.2.2.2.2.2.2.2.2.1).length) n1847 t4729.2.1, r5 A1845 ((t1821.2.2.2.2.2.2.2.2.2.2.1).length) n1847 t4729.2.2] w4731) := ⟨HS.out.call hS⟩
                          clear hS
                          by_cases c4732 : t4729.1 = true
                          · replace H := if_yes c4732 H
                            have c4732b0 : t4729.1 = true := c4732
                            have c4732b1 : (!t4729.1) = false := by rw [c4732b0]; rfl
                            try rw [c4732b1]
                            clear c4732
                            replace HS : Aside0 (Sep (fps []) w [] w4731) := ⟨HS.out.sub (.cons _ (.cons _ (.cons _ .slnil)))⟩
                            go_wp2_with fail
                            go_ret
                            rw [← some_eq H]
                            exact ⟨(by first | rfl | (simp [IntKind.wrap_u32]; done)), HS.out⟩
                          · replace H := if_no c4732 H
                            have c4732b0 : t4729.1 = false := by simpa using c4732
                            have c4732b1 : (!t4729.1) = true := by rw [c4732b0]; rfl
                            try rw [c4732b1]
                            clear c4732
                            go_wp2_with fail
                            obtain ⟨t4878, HA4879, H⟩ := bind_some H
                            refine (ring_List.calls _ t4729.2.2 t4729.2.1 t1821.2.1 t1821.2.2.1 t1821.2.2.2.1 t1821.2.2.2.2.1 g1833 g1835 A1845 ((t1821.2.2.2.2.2.2.2.2.2.2.1).length) n1847 t4878 _ ⟨HGl0.out.pass HS.out⟩ ⟨HS.out.begin⟩ HA4879).mono ?_
                            rintro e_ w4880 ⟨A4882, m4883, n4884, rfl, hS⟩
                            replace HS : Aside0 (Sep (fps []) w [b7 g1833 g1835 t1821.2.1 t1821.2.2.1 t1821.2.2.2.1 t1821.2.2.2.2.1, b6 g1835 A1845 ((t1821.2.2.2.2.2.2.2.2.2.2.1).length) n1847 t4729.2.1, r5 A1845 ((t1821.2.2.2.2.2.2.2.2.2.2.1).length) n1847 t4729.2.2, r11 A4882 m4883 n4884 t4878] w4880) := ⟨HS.out.call hS⟩
                            clear hS
                            obtain rfl := (row_len (HS.out.at3)).symm
                            go_wp2_with (first | ((with_reducible refine gate_dst (N := 81) rfl ?_); refine slice_on (n := 1) ?hg (N := 81) ?hd (cs := #[.int .i64 (wrap64 (t2777.1 - 1))]) (t := 3) ?hr ?_; (case hd => rfl); (case hg => rfl); (case hr => first | (go_simp; done) | (go_simp; rfl)); intro g4886 hg w4887 hbox hb; replace HS : Aside0 (Sep (fps []) w [b7 g1833 g1835 t1821.2.1 t1821.2.2.1 t1821.2.2.2.1 t1821.2.2.2.2.1, b6 g1835 A1845 ((t1821.2.2.2.2.2.2.2.2.2.2.1).length) n1847 t4729.2.1, r5 A1845 ((t1821.2.2.2.2.2.2.2.2.2.2.1).length) n1847 t4729.2.2, r11 A4882 t4878.length n4884 t4878, b10 g4886 (wrap64 (t2777.1 - 1))] w4887) := ⟨HS.out.box hg hbox hb⟩; clear hg hbox hb))
                            obtain ⟨t4928, HA4929, H⟩ := bind_some H
                            refine (quitrentref01_Ints.calls _ t4878 [wrap64 (t2777.1 - 1)] A4882 n4884 (some ⟨g4886, 0, none⟩) 1 t4928 _ ⟨Rd.ownI (l := []) HS.out 3 rfl⟩ ⟨Rd.lit (l := []) (xs := [wrap64 (t2777.1 - 1)]) HS.out 4 rfl (by simp)⟩ ⟨HGl0.out.pass (l := []) HS.out⟩ ⟨Sep.start _⟩ HA4929).mono ?_
                            rintro e_ w4930 ⟨rfl, hS⟩
                            replace HS : Aside0 (Sep (fps []) w [b7 g1833 g1835 t1821.2.1 t1821.2.2.1 t1821.2.2.2.1 t1821.2.2.2.2.1, b6 g1835 A1845 ((t1821.2.2.2.2.2.2.2.2.2.2.1).length) n1847 t4729.2.1, r5 A1845 ((t1821.2.2.2.2.2.2.2.2.2.2.1).length) n1847 t4729.2.2, r11 A4882 t4878.length n4884 t4878, b10 g4886 (wrap64 (t2777.1 - 1))] w4930) := ⟨HS.out.call hS⟩
                            clear hS
                            replace HS : Aside0 (Sep (fps []) w [] w4930) := ⟨HS.out.sub (.cons _ (.cons _ (.cons _ (.cons _ (.cons _ .slnil)))))⟩
                            go_wp2_with fail
                            go_ret
                            rw [← some_eq H]
                            exact ⟨(by first | rfl | (simp [IntKind.wrap_u32]; done)), HS.out⟩
                        · replace H := if_no c4728 H
                          have c4728b0 : t4725.1 = false := by simpa using c4728
                          have c4728b1 : (!t4725.1) = true := by rw [c4728b0]; rfl
                          clear c4728
                          replace HS : Aside0 (Sep (fps []) w [] w4727) := ⟨HS.out.sub (.cons _ (.cons _ (.cons _ .slnil)))⟩
                          go_wp2_with fail
                          go_ret
                          rw [← some_eq H]
                          exact ⟨(by first | rfl | (simp [IntKind.wrap_u32]; done)), HS.out⟩
                      · replace H := if_no c3980 H
                        have c3980b0 : (t3977.1 == 1) = false := beq_eq_false_iff_ne.mpr c3980
                        have c3980b1 : (t3977.1 != 1) = true := bne_iff_ne.mpr c3980
                        clear c3980
                        replace HS : Aside0 (Sep (fps []) w [] w3979) := ⟨HS.out.sub (.cons _ (.cons _ (.cons _ .slnil)))⟩
                        go_wp2_with fail
                        go_ret
                        rw [← some_eq H]
                        exact ⟨(by first | rfl | (simp [IntKind.wrap_u32]; done)), HS.out⟩
                    · replace H := if_no c3976 H
                      have c3976b0 : t3973.1 = false := by simpa using c3976
                      have c3976b1 : (!t3973.1) = true := by rw [c3976b0]; rfl
                      try rw [c3976b1]
                      clear c3976
                      replace HS : Aside0 (Sep (fps []) w [] w3975) := ⟨HS.out.sub (.cons _ (.cons _ (.cons _ .slnil)))⟩
                      go_wp2_with fail
                      go_ret
                      rw [← some_eq H]
                      exact ⟨(by first | rfl | (simp [IntKind.wrap_u32]; done)), HS.out⟩
                  · replace H := if_no c3732 H
                    have c3732b0 : t3729.1 = false := by simpa using c3732
                    have c3732b1 : (!t3729.1) = true := by rw [c3732b0]; rfl
                    try rw [c3732b1]
                    clear c3732
                    replace HS : Aside0 (Sep (fps []) w [] w3731) := ⟨HS.out.sub (.cons _ (.cons _ (.cons _ .slnil)))⟩
                    go_wp2_with fail
                    go_ret
                    rw [← some_eq H]
                    exact ⟨(by first | rfl | (simp [IntKind.wrap_u32]; done)), HS.out⟩
                · replace H := if_no c3728 H
                  have c3728b0 : t3725.1 = false := by simpa using c3728
                  have c3728b1 : (!t3725.1) = true := by rw [c3728b0]; rfl
                  try rw [c3728b1]
                  clear c3728
                  replace HS : Aside0 (Sep (fps []) w [] w3727) := ⟨HS.out.sub (.cons _ (.cons _ (.cons _ .slnil)))⟩
                  go_wp2_with fail
                  go_ret
                  rw [← some_eq H]
                  exact ⟨(by first | rfl | (simp [IntKind.wrap_u32]; done)), HS.out⟩
            · replace H := if_no c3511 H
              have c3511b0 : t3508.1 = false := by simpa using c3511
              have c3511b1 : (!t3508.1) = true := by rw [c3511b0]; rfl
              try rw [c3511b1]
              clear c3511
              replace HS : Aside0 (Sep (fps []) w [] w3510) := ⟨HS.out.sub (.cons _ (.cons _ (.cons _ .slnil)))⟩
              go_wp2_with fail
              go_ret
              rw [← some_eq H]
              exact ⟨(by first | rfl | (simp [IntKind.wrap_u32]; done)), HS.out⟩
          · replace H := if_no c3392 H
            have c3392b0 : t3389.1 = false := by simpa using c3392
            have c3392b1 : (!t3389.1) = true := by rw [c3392b0]; rfl
            try rw [c3392b1]
            clear c3392
            replace HS : Aside0 (Sep (fps []) w [] w3391) := ⟨HS.out.sub (.cons _ (.cons _ (.cons _ .slnil)))⟩
            go_wp2_with fail
            go_ret
            rw [← some_eq H]
            exact ⟨(by first | rfl | (simp [IntKind.wrap_u32]; done)), HS.out⟩
        · replace H := if_no c3318 H
          have c3318b0 : t3315.1 = false := by simpa using c3318
          have c3318b1 : (!t3315.1) = true := by rw [c3318b0]; rfl
          try rw [c3318b1]
          clear c3318
          replace HS : Aside0 (Sep (fps []) w [] w3317) := ⟨HS.out.sub (.cons _ (.cons _ (.cons _ .slnil)))⟩
          go_wp2_with fail
          go_ret
          rw [← some_eq H]
          exact ⟨(by first | rfl | (simp [IntKind.wrap_u32]; done)), HS.out⟩
      · replace H := if_no c2780 H
        have c2780b0 : (t2777.2.1 == 0) = false := beq_eq_false_iff_ne.mpr c2780
        have c2780b1 : (t2777.2.1 != 0) = true := bne_iff_ne.mpr c2780
        clear c2780
        replace HS : Aside0 (Sep (fps []) w [] w2779) := ⟨HS.out.sub (.cons _ (.cons _ (.cons _ .slnil)))⟩
        go_wp2_with fail
        go_ret
        rw [← some_eq H]
        exact ⟨(by first | rfl | (simp [IntKind.wrap_u32]; done)), HS.out⟩
    · replace H := if_no c1853 H
      have c1853b0 : t1821.1 = false := by simpa using c1853
      have c1853b1 : (!t1821.1) = true := by rw [c1853b0]; rfl
      try rw [c1853b1]
      clear c1853
      replace HS : Aside0 (Sep (fps []) w [b7 g1833 g1835 t1821.2.1 t1821.2.2.1 t1821.2.2.2.1 t1821.2.2.2.2.1, b6 g1835 A1845 ((t1821.2.2.2.2.2.2.2.2.2.2.1).length) n1847 t1821.2.2.2.2.2.1, r5 A1845 ((t1821.2.2.2.2.2.2.2.2.2.2.1).length) n1847 t1821.2.2.2.2.2.2.2.2.2.2.1] w1824) := ⟨HS.out.sub (.cons_cons _ (.cons _ (.cons_cons _ (.cons _ (.cons _ (.cons _ (.cons_cons _ (.cons _ .slnil))))))))⟩
      replace HS : Aside0 (Sep (fps []) w [] w1824) := ⟨HS.out.sub (.cons _ (.cons _ (.cons _ .slnil)))⟩
      go_wp2_with fail
      go_ret
      rw [← some_eq H]
      exact ⟨(by first | rfl | (simp [IntKind.wrap_u32]; done)), HS.out⟩

set_option maxHeartbeats 30000000 in
set_option maxRecDepth 100000 in
theorem tint_At.calls (l5073 : List Int) (a5078 : Int) (a5079 : Int) (a5080 : Int) (a5081 : Int) (a5082 : Int) (g5069 : Nat) (g5071 : Nat) (A5074 : Option Addr) (m5075 : Nat) (n5076 : Nat) (r : Int × Int × Int) (w : World)  (HGl0 : Aside0 (Gl 0 #[.int .i64 0, .int .i64 0, .int .i64 0, .int .i64 0, .int .i64 0] (fps [b7 g5069 g5071 a5079 a5080 a5081 a5082, b6 g5071 A5074 m5075 n5076 a5078, r5 A5074 m5075 n5076 l5073]) w)) (HS : Aside0 (Sep (fps [b7 g5069 g5071 a5079 a5080 a5081 a5082, b6 g5071 A5074 m5075 n5076 a5078, r5 A5074 m5075 n5076 l5073]) w [b7 g5069 g5071 a5079 a5080 a5081 a5082, b6 g5071 A5074 m5075 n5076 a5078, r5 A5074 m5075 n5076 l5073] w)) (H : Aside0 (tint_At.f l5073 a5078 a5079 a5080 a5081 a5082 = some r)) :
    Calls Tryz.prog 21 #[.pointer (some ⟨g5069, 0, none⟩)] w fun e w' => e = .returned (.tuple #[.int .i64 r.1, .int .i64 r.2.1]) ∧ Sep (fps [b7 g5069 g5071 a5079 a5080 a5081 a5082, b6 g5071 A5074 m5075 n5076 a5078, r5 A5074 m5075 n5076 l5073]) w [b7 g5069 g5071 a5079 a5080 a5081 a5082, b6 g5071 A5074 m5075 n5076 r.2.2, r5 A5074 m5075 n5076 l5073] w' := by
  generalize (fps [b7 g5069 g5071 a5079 a5080 a5081 a5082, b6 g5071 A5074 m5075 n5076 a5078, r5 A5074 m5075 n5076 l5073]) = FF at HS HGl0 ⊢
  obtain rfl := (row_len (HS.out.at2)).symm
  unfold tint_At.f at H
  go_enter Tryz.func21, Tryz.ntmps21
  go_wp2_with fail
  obtain ⟨t5089, HA5090, H⟩ := bind_some H
  refine (ground_Ground_Reg.calls l5073 a5078 a5079 a5080 a5081 a5082 12 g5069 g5071 A5074 l5073.length n5076 t5089 _ ⟨HGl0.out.pass HS.out⟩ ⟨HS.out.begin⟩ HA5090).mono ?_
  rintro e_ w5091 ⟨rfl, hS⟩
  replace HS : Aside0 (Sep FF w [b7 g5069 g5071 a5079 a5080 a5081 a5082, b6 g5071 A5074 l5073.length n5076 t5089.2, r5 A5074 l5073.length n5076 l5073] w5091) := ⟨HS.out.call hS⟩
  clear hS
  go_wp2_with fail
  obtain ⟨t5092, HA5093, H⟩ := bind_some H
  refine (ground_Ground_Reg.calls l5073 t5089.2 a5079 a5080 a5081 a5082 13 g5069 g5071 A5074 l5073.length n5076 t5092 _ ⟨HGl0.out.pass HS.out⟩ ⟨HS.out.begin⟩ HA5093).mono ?_
  rintro e_ w5094 ⟨rfl, hS⟩
  replace HS : Aside0 (Sep FF w [b7 g5069 g5071 a5079 a5080 a5081 a5082, b6 g5071 A5074 l5073.length n5076 t5092.2, r5 A5074 l5073.length n5076 l5073] w5094) := ⟨HS.out.call hS⟩
  clear hS
  go_wp2_with fail
  go_ret2
  rw [← some_eq H]
  exact ⟨(by first | rfl | (simp [IntKind.wrap_u32]; done)), HS.out⟩

set_option maxHeartbeats 30000000 in
set_option maxRecDepth 100000 in
theorem tint_Counted.calls (l5004 : List Int) (a5009 : Int) (a5010 : Int) (a5011 : Int) (a5012 : Int) (a5013 : Int) (a5014 : Int) (a5015 : Int) (g5000 : Nat) (g5002 : Nat) (A5005 : Option Addr) (m5006 : Nat) (n5007 : Nat) (r : Bool × Int) (w : World)  (HGl0 : Aside0 (Gl 0 #[.int .i64 0, .int .i64 0, .int .i64 0, .int .i64 0, .int .i64 0] (fps [b7 g5000 g5002 a5010 a5011 a5012 a5013, b6 g5002 A5005 m5006 n5007 a5009, r5 A5005 m5006 n5007 l5004]) w)) (HS : Aside0 (Sep (fps [b7 g5000 g5002 a5010 a5011 a5012 a5013, b6 g5002 A5005 m5006 n5007 a5009, r5 A5005 m5006 n5007 l5004]) w [b7 g5000 g5002 a5010 a5011 a5012 a5013, b6 g5002 A5005 m5006 n5007 a5009, r5 A5005 m5006 n5007 l5004] w)) (H : Aside0 (tint_Counted.f l5004 a5009 a5010 a5011 a5012 a5013 a5014 a5015 = some r)) :
    Calls Tryz.prog 13 #[.pointer (some ⟨g5000, 0, none⟩), .int .i64 a5014, .int .i64 a5015] w fun e w' => e = .returned (.bool r.1) ∧ Sep (fps [b7 g5000 g5002 a5010 a5011 a5012 a5013, b6 g5002 A5005 m5006 n5007 a5009, r5 A5005 m5006 n5007 l5004]) w [b7 g5000 g5002 a5010 a5011 a5012 a5013, b6 g5002 A5005 m5006 n5007 r.2, r5 A5005 m5006 n5007 l5004] w' := by
  generalize (fps [b7 g5000 g5002 a5010 a5011 a5012 a5013, b6 g5002 A5005 m5006 n5007 a5009, r5 A5005 m5006 n5007 l5004]) = FF at HS HGl0 ⊢
  obtain rfl := (row_len (HS.out.at2)).symm
  unfold tint_Counted.f at H
  go_enter Tryz.func13, Tryz.ntmps13
  go_wp2_with fail
  obtain ⟨t5039, HA5040, H⟩ := bind_some H
  refine (tint_of.calls l5004 a5009 a5010 a5011 a5012 a5013 a5014 g5000 g5002 A5005 l5004.length n5007 t5039 _ ⟨HGl0.out.pass HS.out⟩ ⟨HS.out.begin⟩ HA5040).mono ?_
  rintro e_ w5041 ⟨rfl, hS⟩
  replace HS : Aside0 (Sep FF w [b7 g5000 g5002 a5010 a5011 a5012 a5013, b6 g5002 A5005 l5004.length n5007 t5039.2.2.2.2.2.2.2.2, r5 A5005 l5004.length n5007 l5004] w5041) := ⟨HS.out.call hS⟩
  clear hS
  by_cases c5060 : t5039.2.2.2.2.2.2.2.1 = true
  · replace H := if_yes c5060 H
    have c5060b0 : t5039.2.2.2.2.2.2.2.1 = true := c5060
    have c5060b1 : (!t5039.2.2.2.2.2.2.2.1) = false := by rw [c5060b0]; rfl
    try rw [c5060b1]
    clear c5060
    by_cases c5061 : a5015 < 0
    · replace H := if_yes c5061 H
      have c5061b0 : decide (a5015 < 0) = true := decide_eq_true c5061
      clear c5061
      go_wp2_with (first | ((with_reducible refine gate_dst (N := 7) rfl ?_); refine box_on ?hg (N := 7) ?hd (cs := #[.int .i64 0, .int .i64 0, .int .i64 0, .int .i64 0, .int .i64 0, .int .i64 0, .int .i64 0]) (t := 79) ?hr ?_; (case hd => rfl); (case hg => rfl); (case hr => first | (go_simp; done) | (go_simp; rfl)); intro g5042 hg w5043 hbox hb; replace HS : Aside0 (Sep FF w [b7 g5000 g5002 a5010 a5011 a5012 a5013, b6 g5002 A5005 l5004.length n5007 t5039.2.2.2.2.2.2.2.2, r5 A5005 l5004.length n5007 l5004, b16 g5042 0 0 0 0 0 0 0] w5043) := ⟨HS.out.box hg hbox hb⟩; clear hg hbox hb; have hc5045 : w5043.cell? ⟨g5042, 0, none⟩ = some (.int .i64 0) := blk_cellv (HS.out.at3) 0 rfl; have hz5046 : w5043.frozen? ⟨g5042, 0, none⟩ = false := blk_fz (HS.out.at3) 0; have hc5047 : w5043.cell? ⟨g5042, 1, none⟩ = some (.int .i64 0) := blk_cellv (HS.out.at3) 1 rfl; have hz5048 : w5043.frozen? ⟨g5042, 1, none⟩ = false := blk_fz (HS.out.at3) 1; have hc5049 : w5043.cell? ⟨g5042, 2, none⟩ = some (.int .i64 0) := blk_cellv (HS.out.at3) 2 rfl; have hz5050 : w5043.frozen? ⟨g5042, 2, none⟩ = false := blk_fz (HS.out.at3) 2; have hc5051 : w5043.cell? ⟨g5042, 3, none⟩ = some (.int .i64 0) := blk_cellv (HS.out.at3) 3 rfl; have hz5052 : w5043.frozen? ⟨g5042, 3, none⟩ = false := blk_fz (HS.out.at3) 3; have hc5053 : w5043.cell? ⟨g5042, 4, none⟩ = some (.int .i64 0) := blk_cellv (HS.out.at3) 4 rfl; have hz5054 : w5043.frozen? ⟨g5042, 4, none⟩ = false := blk_fz (HS.out.at3) 4; have hc5055 : w5043.cell? ⟨g5042, 5, none⟩ = some (.int .i64 0) := blk_cellv (HS.out.at3) 5 rfl; have hz5056 : w5043.frozen? ⟨g5042, 5, none⟩ = false := blk_fz (HS.out.at3) 5; have hc5057 : w5043.cell? ⟨g5042, 6, none⟩ = some (.int .i64 0) := blk_cellv (HS.out.at3) 6 rfl; have hz5058 : w5043.frozen? ⟨g5042, 6, none⟩ = false := blk_fz (HS.out.at3) 6) | ((with_reducible refine gate_store (t := 79) (p := 7) rfl ?_); refine store_event (w1 := (World.setCell (World.setCell (World.setCell (World.setCell (World.setCell (World.setCell (World.setCell w5043 ⟨g5042, 0, none⟩ (.int .i64 t5039.1)) ⟨g5042, 1, none⟩ (.int .i64 t5039.2.1)) ⟨g5042, 2, none⟩ (.int .i64 t5039.2.2.1)) ⟨g5042, 3, none⟩ (.int .i64 t5039.2.2.2.1)) ⟨g5042, 4, none⟩ (.int .i64 t5039.2.2.2.2.1)) ⟨g5042, 5, none⟩ (.int .i64 t5039.2.2.2.2.2.1)) ⟨g5042, 6, none⟩ (.int .i64 t5039.2.2.2.2.2.2.1))) rfl (t := 79) (p := 7) rfl rfl ?hr ?_; (case hr => first | (go_simp; done) | (go_simp; rfl)); intro w5059 hst; clear hc5045 hz5046 hc5047 hz5048 hc5049 hz5050 hc5051 hz5052 hc5053 hz5054 hc5055 hz5056 hc5057 hz5058; replace HS : Aside0 (Sep FF w [b7 g5000 g5002 a5010 a5011 a5012 a5013, b6 g5002 A5005 l5004.length n5007 t5039.2.2.2.2.2.2.2.2, r5 A5005 l5004.length n5007 l5004, b16 g5042 t5039.1 t5039.2.1 t5039.2.2.1 t5039.2.2.2.1 t5039.2.2.2.2.1 t5039.2.2.2.2.2.1 t5039.2.2.2.2.2.2.1] w5059) := ⟨by rw [hst]; exact HS.out.setAll (l1 := [b7 g5000 g5002 a5010 a5011 a5012 a5013, b6 g5002 A5005 l5004.length n5007 t5039.2.2.2.2.2.2.2.2, r5 A5005 l5004.length n5007 l5004]) (l2 := []) [.int .i64 t5039.1, .int .i64 t5039.2.1, .int .i64 t5039.2.2.1, .int .i64 t5039.2.2.2.1, .int .i64 t5039.2.2.2.2.1, .int .i64 t5039.2.2.2.2.2.1, .int .i64 t5039.2.2.2.2.2.2.1] rfl⟩; clear hst; replace HS : Aside0 (Sep FF w [b7 g5000 g5002 a5010 a5011 a5012 a5013, b6 g5002 A5005 l5004.length n5007 t5039.2.2.2.2.2.2.2.2, r5 A5005 l5004.length n5007 l5004] w5059) := ⟨HS.out.sub (.cons_cons _ (.cons_cons _ (.cons_cons _ (.cons _ .slnil))))⟩))
      go_ret
      rw [← some_eq H]
      exact ⟨(by first | rfl | (simp [IntKind.wrap_u32]; done)), HS.out⟩
    · replace H := if_no c5061 H
      have c5061b0 : decide (a5015 < 0) = false := decide_eq_false c5061
      clear c5061
      go_wp2_with (first | ((with_reducible refine gate_dst (N := 7) rfl ?_); refine box_on ?hg (N := 7) ?hd (cs := #[.int .i64 0, .int .i64 0, .int .i64 0, .int .i64 0, .int .i64 0, .int .i64 0, .int .i64 0]) (t := 79) ?hr ?_; (case hd => rfl); (case hg => rfl); (case hr => first | (go_simp; done) | (go_simp; rfl)); intro g5042 hg w5043 hbox hb; replace HS : Aside0 (Sep FF w [b7 g5000 g5002 a5010 a5011 a5012 a5013, b6 g5002 A5005 l5004.length n5007 t5039.2.2.2.2.2.2.2.2, r5 A5005 l5004.length n5007 l5004, b16 g5042 0 0 0 0 0 0 0] w5043) := ⟨HS.out.box hg hbox hb⟩; clear hg hbox hb; have hc5045 : w5043.cell? ⟨g5042, 0, none⟩ = some (.int .i64 0) := blk_cellv (HS.out.at3) 0 rfl; have hz5046 : w5043.frozen? ⟨g5042, 0, none⟩ = false := blk_fz (HS.out.at3) 0; have hc5047 : w5043.cell? ⟨g5042, 1, none⟩ = some (.int .i64 0) := blk_cellv (HS.out.at3) 1 rfl; have hz5048 : w5043.frozen? ⟨g5042, 1, none⟩ = false := blk_fz (HS.out.at3) 1; have hc5049 : w5043.cell? ⟨g5042, 2, none⟩ = some (.int .i64 0) := blk_cellv (HS.out.at3) 2 rfl; have hz5050 : w5043.frozen? ⟨g5042, 2, none⟩ = false := blk_fz (HS.out.at3) 2; have hc5051 : w5043.cell? ⟨g5042, 3, none⟩ = some (.int .i64 0) := blk_cellv (HS.out.at3) 3 rfl; have hz5052 : w5043.frozen? ⟨g5042, 3, none⟩ = false := blk_fz (HS.out.at3) 3; have hc5053 : w5043.cell? ⟨g5042, 4, none⟩ = some (.int .i64 0) := blk_cellv (HS.out.at3) 4 rfl; have hz5054 : w5043.frozen? ⟨g5042, 4, none⟩ = false := blk_fz (HS.out.at3) 4; have hc5055 : w5043.cell? ⟨g5042, 5, none⟩ = some (.int .i64 0) := blk_cellv (HS.out.at3) 5 rfl; have hz5056 : w5043.frozen? ⟨g5042, 5, none⟩ = false := blk_fz (HS.out.at3) 5; have hc5057 : w5043.cell? ⟨g5042, 6, none⟩ = some (.int .i64 0) := blk_cellv (HS.out.at3) 6 rfl; have hz5058 : w5043.frozen? ⟨g5042, 6, none⟩ = false := blk_fz (HS.out.at3) 6) | ((with_reducible refine gate_store (t := 79) (p := 7) rfl ?_); refine store_event (w1 := (World.setCell (World.setCell (World.setCell (World.setCell (World.setCell (World.setCell (World.setCell w5043 ⟨g5042, 0, none⟩ (.int .i64 t5039.1)) ⟨g5042, 1, none⟩ (.int .i64 t5039.2.1)) ⟨g5042, 2, none⟩ (.int .i64 t5039.2.2.1)) ⟨g5042, 3, none⟩ (.int .i64 t5039.2.2.2.1)) ⟨g5042, 4, none⟩ (.int .i64 t5039.2.2.2.2.1)) ⟨g5042, 5, none⟩ (.int .i64 t5039.2.2.2.2.2.1)) ⟨g5042, 6, none⟩ (.int .i64 t5039.2.2.2.2.2.2.1))) rfl (t := 79) (p := 7) rfl rfl ?hr ?_; (case hr => first | (go_simp; done) | (go_simp; rfl)); intro w5059 hst; clear hc5045 hz5046 hc5047 hz5048 hc5049 hz5050 hc5051 hz5052 hc5053 hz5054 hc5055 hz5056 hc5057 hz5058; replace HS : Aside0 (Sep FF w [b7 g5000 g5002 a5010 a5011 a5012 a5013, b6 g5002 A5005 l5004.length n5007 t5039.2.2.2.2.2.2.2.2, r5 A5005 l5004.length n5007 l5004, b16 g5042 t5039.1 t5039.2.1 t5039.2.2.1 t5039.2.2.2.1 t5039.2.2.2.2.1 t5039.2.2.2.2.2.1 t5039.2.2.2.2.2.2.1] w5059) := ⟨by rw [hst]; exact HS.out.setAll (l1 := [b7 g5000 g5002 a5010 a5011 a5012 a5013, b6 g5002 A5005 l5004.length n5007 t5039.2.2.2.2.2.2.2.2, r5 A5005 l5004.length n5007 l5004]) (l2 := []) [.int .i64 t5039.1, .int .i64 t5039.2.1, .int .i64 t5039.2.2.1, .int .i64 t5039.2.2.2.1, .int .i64 t5039.2.2.2.2.1, .int .i64 t5039.2.2.2.2.2.1, .int .i64 t5039.2.2.2.2.2.2.1] rfl⟩; clear hst))
      refine start_ (n := 5) (S := (fun w' => w'.cell? ⟨g5042, 2, none⟩ = some (.int .i64 t5039.2.2.1))) (ds := []) #[false, false, false, false, false] (by kernel_rfl) rfl rfl (blk_cellv ((HS.out.drew).at3) 2 rfl) (fun hHeld => ?_)
      have HS_ := Aside0.mk HS.out.drew
      clear HS
      generalize World.drew _ = w5063 at HS_ hHeld ⊢
      have HS := HS_
      clear HS_
      refine pure_ (i := 0) (N := some 23) (v := ?_) (a' := ?_) #[true, false, false, false, false] rfl rfl (by kernel_rfl) (fun _ _ _ h => h) (Or.inl ⟨by rfl, ?_⟩) ?_ ?_
      rotate_left
      · intro w'
        go_simp
        with_reducible rfl
      rotate_left
      · simp only [Act.put, List.setIfInBounds_toArray, List.set_cons_zero, List.set_cons_succ, i64_w, i32_w]
        rfl
      refine pure_ (i := 2) (N := some 25) (v := ?_) (a' := ?_) #[true, false, true, false, false] rfl rfl (by kernel_rfl) (fun _ _ _ h => h) (Or.inl ⟨by rfl, ?_⟩) ?_ ?_
      rotate_left
      · intro w'
        go_simp
        with_reducible rfl
      rotate_left
      · simp only [Act.put, List.setIfInBounds_toArray, List.set_cons_zero, List.set_cons_succ, i64_w, i32_w]
        rfl
      refine take_ (i := 1) (N := some 24) (v := ?_) (a' := ?_) #[true, true, true, false, false] rfl rfl (by kernel_rfl) (fun _ _ _ h => h) (Or.inl ⟨by rfl, ?_⟩) hHeld ?_ ?_
      rotate_left
      · rintro w' hS'
        have s0 := hS'
        go_simp
        with_reducible rfl
      rotate_left
      · simp only [Act.put, List.setIfInBounds_toArray, List.set_cons_zero, List.set_cons_succ, i64_w, i32_w]
        rfl
      refine one_ (i := 3) (N := some 26) #[true, true, true, true, false] rfl rfl (by kernel_rfl) (by decide) (fun K hK => ?_)
      obtain ⟨t5064, HA5065, H⟩ := bind_some H
      refine goes_ Tryz.func15 (by kernel_rfl) rfl #[.pointer (some ⟨g5000, 0, none⟩)] (by rfl) rfl rfl (by (try simp only [List.map_toArray, List.map_cons, List.map_nil]); first | done | rfl) ?_
      refine (tint_Parity.calls l5004 t5039.2.2.2.2.2.2.2.2 a5010 a5011 a5012 a5013 g5000 g5002 A5005 l5004.length n5007 t5064 _ ⟨HGl0.out.pass HS.out⟩ ⟨HS.out.begin⟩ HA5065).mono ?_
      rintro e_ w5066 ⟨rfl, hS⟩
      replace HS : Aside0 (Sep FF w [b7 g5000 g5002 a5010 a5011 a5012 a5013, b6 g5002 A5005 l5004.length n5007 t5064.2, r5 A5005 l5004.length n5007 l5004, b16 g5042 t5039.1 t5039.2.1 t5039.2.2.1 t5039.2.2.2.1 t5039.2.2.2.2.1 t5039.2.2.2.2.2.1 t5039.2.2.2.2.2.2.1] w5066) := ⟨HS.out.call hS⟩
      clear hS
      refine ⟨_, rfl, ?_⟩
      refine hK.out _ _ (blk_cellv (HS.out.at3) 2 rfl) (fun hHeld => ?_)
      clear hK K
      refine norm_ (a' := ?_) ?_ ?_
      rotate_left
      · show Act.put _ (some 26) _ = _
        simp only [Act.put, List.setIfInBounds_toArray, List.set_cons_zero, List.set_cons_succ, i64_w, i32_w]
        rfl
      refine pure_ (i := 4) (N := some 27) (v := ?_) (a' := ?_) #[true, true, true, true, true] rfl rfl (by kernel_rfl) (fun _ _ _ h => h) (Or.inl ⟨by rfl, ?_⟩) ?_ ?_
      rotate_left
      · intro w'
        go_simp
        with_reducible rfl
      rotate_left
      · simp only [Act.put, List.setIfInBounds_toArray, List.set_cons_zero, List.set_cons_succ, i64_w, i32_w]
        rfl
      refine done_ (by kernel_rfl) ?_
      by_cases c5067 : t5039.2.2.1 = t5064.1
      · replace H := if_yes c5067 H
        have c5067b0 : (t5039.2.2.1 == t5064.1) = true := beq_iff_eq.mpr c5067
        have c5067b1 : (t5039.2.2.1 != t5064.1) = false := bne_eq_false_iff_eq.mpr c5067
        clear c5067
        replace HS : Aside0 (Sep FF w [b7 g5000 g5002 a5010 a5011 a5012 a5013, b6 g5002 A5005 l5004.length n5007 t5064.2, r5 A5005 l5004.length n5007 l5004] w5066) := ⟨HS.out.sub (.cons_cons _ (.cons_cons _ (.cons_cons _ (.cons _ .slnil))))⟩
        go_wp2_with fail
        go_ret
        rw [← some_eq H]
        exact ⟨(by first | rfl | (simp [IntKind.wrap_u32]; done)), HS.out⟩
      · replace H := if_no c5067 H
        have c5067b0 : (t5039.2.2.1 == t5064.1) = false := beq_eq_false_iff_ne.mpr c5067
        have c5067b1 : (t5039.2.2.1 != t5064.1) = true := bne_iff_ne.mpr c5067
        clear c5067
        replace HS : Aside0 (Sep FF w [b7 g5000 g5002 a5010 a5011 a5012 a5013, b6 g5002 A5005 l5004.length n5007 t5064.2, r5 A5005 l5004.length n5007 l5004] w5066) := ⟨HS.out.sub (.cons_cons _ (.cons_cons _ (.cons_cons _ (.cons _ .slnil))))⟩
        go_wp2_with fail
        obtain ⟨t5095, HA5096, H⟩ := bind_some H
        refine (tint_At.calls l5004 t5064.2 a5010 a5011 a5012 a5013 g5000 g5002 A5005 l5004.length n5007 t5095 _ ⟨HGl0.out.pass HS.out⟩ ⟨HS.out.begin⟩ HA5096).mono ?_
        rintro e_ w5097 ⟨rfl, hS⟩
        replace HS : Aside0 (Sep FF w [b7 g5000 g5002 a5010 a5011 a5012 a5013, b6 g5002 A5005 l5004.length n5007 t5095.2.2, r5 A5005 l5004.length n5007 l5004] w5097) := ⟨HS.out.call hS⟩
        clear hS
        go_wp2_with fail
        obtain ⟨t5098, HA5099, H⟩ := bind_some H
        refine (tint_Phase.calls l5004 t5095.2.2 a5010 a5011 a5012 a5013 g5000 g5002 A5005 l5004.length n5007 t5098 _ ⟨HGl0.out.pass HS.out⟩ ⟨HS.out.begin⟩ HA5099).mono ?_
        rintro e_ w5100 ⟨rfl, hS⟩
        replace HS : Aside0 (Sep FF w [b7 g5000 g5002 a5010 a5011 a5012 a5013, b6 g5002 A5005 l5004.length n5007 t5098.2, r5 A5005 l5004.length n5007 l5004] w5100) := ⟨HS.out.call hS⟩
        clear hS
        by_cases c5101 : t5098.1 = 1
        · replace H := if_yes c5101 H
          have c5101b0 : (t5098.1 == 1) = true := beq_iff_eq.mpr c5101
          have c5101b1 : (t5098.1 != 1) = false := bne_eq_false_iff_eq.mpr c5101
          clear c5101
          by_cases c5102 : t5095.1 = (wrap64 (a5014 - 1))
          · replace H := if_yes c5102 H
            have c5102b0 : (t5095.1 == (wrap64 (a5014 - 1))) = true := beq_iff_eq.mpr c5102
            have c5102b1 : (t5095.1 != (wrap64 (a5014 - 1))) = false := bne_eq_false_iff_eq.mpr c5102
            clear c5102
            go_wp2_with fail
            go_ret
            rw [← some_eq H]
            exact ⟨(by first | rfl | (simp [IntKind.wrap_u32]; done)), HS.out⟩
          · replace H := if_no c5102 H
            have c5102b0 : (t5095.1 == (wrap64 (a5014 - 1))) = false := beq_eq_false_iff_ne.mpr c5102
            have c5102b1 : (t5095.1 != (wrap64 (a5014 - 1))) = true := bne_iff_ne.mpr c5102
            clear c5102
            go_wp2_with fail
            go_ret
            rw [← some_eq H]
            exact ⟨(by first | rfl | (simp [IntKind.wrap_u32]; done)), HS.out⟩
        · replace H := if_no c5101 H
          have c5101b0 : (t5098.1 == 1) = false := beq_eq_false_iff_ne.mpr c5101
          have c5101b1 : (t5098.1 != 1) = true := bne_iff_ne.mpr c5101
          clear c5101
          go_wp2_with fail
          go_ret
          rw [← some_eq H]
          exact ⟨(by first | rfl | (simp [IntKind.wrap_u32]; done)), HS.out⟩
  · replace H := if_no c5060 H
    have c5060b0 : t5039.2.2.2.2.2.2.2.1 = false := by simpa using c5060
    have c5060b1 : (!t5039.2.2.2.2.2.2.2.1) = true := by rw [c5060b0]; rfl
    try rw [c5060b1]
    clear c5060
    go_wp2_with (first | ((with_reducible refine gate_dst (N := 7) rfl ?_); refine box_on ?hg (N := 7) ?hd (cs := #[.int .i64 0, .int .i64 0, .int .i64 0, .int .i64 0, .int .i64 0, .int .i64 0, .int .i64 0]) (t := 79) ?hr ?_; (case hd => rfl); (case hg => rfl); (case hr => first | (go_simp; done) | (go_simp; rfl)); intro g5042 hg w5043 hbox hb; replace HS : Aside0 (Sep FF w [b7 g5000 g5002 a5010 a5011 a5012 a5013, b6 g5002 A5005 l5004.length n5007 t5039.2.2.2.2.2.2.2.2, r5 A5005 l5004.length n5007 l5004, b16 g5042 0 0 0 0 0 0 0] w5043) := ⟨HS.out.box hg hbox hb⟩; clear hg hbox hb; have hc5045 : w5043.cell? ⟨g5042, 0, none⟩ = some (.int .i64 0) := blk_cellv (HS.out.at3) 0 rfl; have hz5046 : w5043.frozen? ⟨g5042, 0, none⟩ = false := blk_fz (HS.out.at3) 0; have hc5047 : w5043.cell? ⟨g5042, 1, none⟩ = some (.int .i64 0) := blk_cellv (HS.out.at3) 1 rfl; have hz5048 : w5043.frozen? ⟨g5042, 1, none⟩ = false := blk_fz (HS.out.at3) 1; have hc5049 : w5043.cell? ⟨g5042, 2, none⟩ = some (.int .i64 0) := blk_cellv (HS.out.at3) 2 rfl; have hz5050 : w5043.frozen? ⟨g5042, 2, none⟩ = false := blk_fz (HS.out.at3) 2; have hc5051 : w5043.cell? ⟨g5042, 3, none⟩ = some (.int .i64 0) := blk_cellv (HS.out.at3) 3 rfl; have hz5052 : w5043.frozen? ⟨g5042, 3, none⟩ = false := blk_fz (HS.out.at3) 3; have hc5053 : w5043.cell? ⟨g5042, 4, none⟩ = some (.int .i64 0) := blk_cellv (HS.out.at3) 4 rfl; have hz5054 : w5043.frozen? ⟨g5042, 4, none⟩ = false := blk_fz (HS.out.at3) 4; have hc5055 : w5043.cell? ⟨g5042, 5, none⟩ = some (.int .i64 0) := blk_cellv (HS.out.at3) 5 rfl; have hz5056 : w5043.frozen? ⟨g5042, 5, none⟩ = false := blk_fz (HS.out.at3) 5; have hc5057 : w5043.cell? ⟨g5042, 6, none⟩ = some (.int .i64 0) := blk_cellv (HS.out.at3) 6 rfl; have hz5058 : w5043.frozen? ⟨g5042, 6, none⟩ = false := blk_fz (HS.out.at3) 6) | ((with_reducible refine gate_store (t := 79) (p := 7) rfl ?_); refine store_event (w1 := (World.setCell (World.setCell (World.setCell (World.setCell (World.setCell (World.setCell (World.setCell w5043 ⟨g5042, 0, none⟩ (.int .i64 t5039.1)) ⟨g5042, 1, none⟩ (.int .i64 t5039.2.1)) ⟨g5042, 2, none⟩ (.int .i64 t5039.2.2.1)) ⟨g5042, 3, none⟩ (.int .i64 t5039.2.2.2.1)) ⟨g5042, 4, none⟩ (.int .i64 t5039.2.2.2.2.1)) ⟨g5042, 5, none⟩ (.int .i64 t5039.2.2.2.2.2.1)) ⟨g5042, 6, none⟩ (.int .i64 t5039.2.2.2.2.2.2.1))) rfl (t := 79) (p := 7) rfl rfl ?hr ?_; (case hr => first | (go_simp; done) | (go_simp; rfl)); intro w5059 hst; clear hc5045 hz5046 hc5047 hz5048 hc5049 hz5050 hc5051 hz5052 hc5053 hz5054 hc5055 hz5056 hc5057 hz5058; replace HS : Aside0 (Sep FF w [b7 g5000 g5002 a5010 a5011 a5012 a5013, b6 g5002 A5005 l5004.length n5007 t5039.2.2.2.2.2.2.2.2, r5 A5005 l5004.length n5007 l5004, b16 g5042 t5039.1 t5039.2.1 t5039.2.2.1 t5039.2.2.2.1 t5039.2.2.2.2.1 t5039.2.2.2.2.2.1 t5039.2.2.2.2.2.2.1] w5059) := ⟨by rw [hst]; exact HS.out.setAll (l1 := [b7 g5000 g5002 a5010 a5011 a5012 a5013, b6 g5002 A5005 l5004.length n5007 t5039.2.2.2.2.2.2.2.2, r5 A5005 l5004.length n5007 l5004]) (l2 := []) [.int .i64 t5039.1, .int .i64 t5039.2.1, .int .i64 t5039.2.2.1, .int .i64 t5039.2.2.2.1, .int .i64 t5039.2.2.2.2.1, .int .i64 t5039.2.2.2.2.2.1, .int .i64 t5039.2.2.2.2.2.2.1] rfl⟩; clear hst; replace HS : Aside0 (Sep FF w [b7 g5000 g5002 a5010 a5011 a5012 a5013, b6 g5002 A5005 l5004.length n5007 t5039.2.2.2.2.2.2.2.2, r5 A5005 l5004.length n5007 l5004] w5059) := ⟨HS.out.sub (.cons_cons _ (.cons_cons _ (.cons_cons _ (.cons _ .slnil))))⟩))
    go_ret
    rw [← some_eq H]
    exact ⟨(by first | rfl | (simp [IntKind.wrap_u32]; done)), HS.out⟩

set_option maxHeartbeats 30000000 in
set_option maxRecDepth 100000 in
theorem ring_Has.calls (l5216 : List Int) (a5221 : Int) (a5222 : Int) (a5223 : Int) (a5224 : Int) (a5225 : Int) (a5226 : Int) (g5212 : Nat) (g5214 : Nat) (A5217 : Option Addr) (m5218 : Nat) (n5219 : Nat) (r : Bool × Int) (w : World)  (HGl0 : Aside0 (Gl 0 #[.int .i64 0, .int .i64 0, .int .i64 0, .int .i64 0, .int .i64 0] (fps [b7 g5212 g5214 a5222 a5223 a5224 a5225, b6 g5214 A5217 m5218 n5219 a5221, r5 A5217 m5218 n5219 l5216]) w)) (HS : Aside0 (Sep (fps [b7 g5212 g5214 a5222 a5223 a5224 a5225, b6 g5214 A5217 m5218 n5219 a5221, r5 A5217 m5218 n5219 l5216]) w [b7 g5212 g5214 a5222 a5223 a5224 a5225, b6 g5214 A5217 m5218 n5219 a5221, r5 A5217 m5218 n5219 l5216] w)) (H : Aside0 (ring_Has.f l5216 a5221 a5222 a5223 a5224 a5225 a5226 = some r)) :
    Calls Tryz.prog 19 #[.pointer (some ⟨g5212, 0, none⟩), .int .i64 a5226] w fun e w' => e = .returned (.bool r.1) ∧ Sep (fps [b7 g5212 g5214 a5222 a5223 a5224 a5225, b6 g5214 A5217 m5218 n5219 a5221, r5 A5217 m5218 n5219 l5216]) w [b7 g5212 g5214 a5222 a5223 a5224 a5225, b6 g5214 A5217 m5218 n5219 r.2, r5 A5217 m5218 n5219 l5216] w' := by
  generalize (fps [b7 g5212 g5214 a5222 a5223 a5224 a5225, b6 g5214 A5217 m5218 n5219 a5221, r5 A5217 m5218 n5219 l5216]) = FF at HS HGl0 ⊢
  obtain rfl := (row_len (HS.out.at2)).symm
  unfold ring_Has.f at H
  go_enter Tryz.func19, Tryz.ntmps19
  go_wp2_with fail
  obtain ⟨t5248, HA5249, H⟩ := bind_some H
  refine (ring_marked.calls l5216 a5221 a5222 a5223 a5224 a5225 a5226 1 g5212 g5214 A5217 l5216.length n5219 t5248 _ ⟨HGl0.out.pass HS.out⟩ ⟨HS.out.begin⟩ HA5249).mono ?_
  rintro e_ w5250 ⟨rfl, hS⟩
  replace HS : Aside0 (Sep FF w [b7 g5212 g5214 a5222 a5223 a5224 a5225, b6 g5214 A5217 l5216.length n5219 t5248.2.2.2.2.2.2.2.2, r5 A5217 l5216.length n5219 l5216] w5250) := ⟨HS.out.call hS⟩
  clear hS
  go_wp2_with (first | ((with_reducible refine gate_dst (N := 5) rfl ?_); refine box_on ?hg (N := 5) ?hd (cs := #[.int .i64 0, .int .i64 0, .int .i64 0, .int .i64 0, .int .i64 0, .int .i64 0, .int .i64 0]) (t := 79) ?hr ?_; (case hd => rfl); (case hg => rfl); (case hr => first | (go_simp; done) | (go_simp; rfl)); intro g5251 hg w5252 hbox hb; replace HS : Aside0 (Sep FF w [b7 g5212 g5214 a5222 a5223 a5224 a5225, b6 g5214 A5217 l5216.length n5219 t5248.2.2.2.2.2.2.2.2, r5 A5217 l5216.length n5219 l5216, b16 g5251 0 0 0 0 0 0 0] w5252) := ⟨HS.out.box hg hbox hb⟩; clear hg hbox hb; have hc5254 : w5252.cell? ⟨g5251, 0, none⟩ = some (.int .i64 0) := blk_cellv (HS.out.at3) 0 rfl; have hz5255 : w5252.frozen? ⟨g5251, 0, none⟩ = false := blk_fz (HS.out.at3) 0; have hc5256 : w5252.cell? ⟨g5251, 1, none⟩ = some (.int .i64 0) := blk_cellv (HS.out.at3) 1 rfl; have hz5257 : w5252.frozen? ⟨g5251, 1, none⟩ = false := blk_fz (HS.out.at3) 1; have hc5258 : w5252.cell? ⟨g5251, 2, none⟩ = some (.int .i64 0) := blk_cellv (HS.out.at3) 2 rfl; have hz5259 : w5252.frozen? ⟨g5251, 2, none⟩ = false := blk_fz (HS.out.at3) 2; have hc5260 : w5252.cell? ⟨g5251, 3, none⟩ = some (.int .i64 0) := blk_cellv (HS.out.at3) 3 rfl; have hz5261 : w5252.frozen? ⟨g5251, 3, none⟩ = false := blk_fz (HS.out.at3) 3; have hc5262 : w5252.cell? ⟨g5251, 4, none⟩ = some (.int .i64 0) := blk_cellv (HS.out.at3) 4 rfl; have hz5263 : w5252.frozen? ⟨g5251, 4, none⟩ = false := blk_fz (HS.out.at3) 4; have hc5264 : w5252.cell? ⟨g5251, 5, none⟩ = some (.int .i64 0) := blk_cellv (HS.out.at3) 5 rfl; have hz5265 : w5252.frozen? ⟨g5251, 5, none⟩ = false := blk_fz (HS.out.at3) 5; have hc5266 : w5252.cell? ⟨g5251, 6, none⟩ = some (.int .i64 0) := blk_cellv (HS.out.at3) 6 rfl; have hz5267 : w5252.frozen? ⟨g5251, 6, none⟩ = false := blk_fz (HS.out.at3) 6) | ((with_reducible refine gate_store (t := 79) (p := 5) rfl ?_); refine store_event (w1 := (World.setCell (World.setCell (World.setCell (World.setCell (World.setCell (World.setCell (World.setCell w5252 ⟨g5251, 0, none⟩ (.int .i64 t5248.1)) ⟨g5251, 1, none⟩ (.int .i64 t5248.2.1)) ⟨g5251, 2, none⟩ (.int .i64 t5248.2.2.1)) ⟨g5251, 3, none⟩ (.int .i64 t5248.2.2.2.1)) ⟨g5251, 4, none⟩ (.int .i64 t5248.2.2.2.2.1)) ⟨g5251, 5, none⟩ (.int .i64 t5248.2.2.2.2.2.1)) ⟨g5251, 6, none⟩ (.int .i64 t5248.2.2.2.2.2.2.1))) rfl (t := 79) (p := 5) rfl rfl ?hr ?_; (case hr => first | (go_simp; done) | (go_simp; rfl)); intro w5268 hst; clear hc5254 hz5255 hc5256 hz5257 hc5258 hz5259 hc5260 hz5261 hc5262 hz5263 hc5264 hz5265 hc5266 hz5267; replace HS : Aside0 (Sep FF w [b7 g5212 g5214 a5222 a5223 a5224 a5225, b6 g5214 A5217 l5216.length n5219 t5248.2.2.2.2.2.2.2.2, r5 A5217 l5216.length n5219 l5216, b16 g5251 t5248.1 t5248.2.1 t5248.2.2.1 t5248.2.2.2.1 t5248.2.2.2.2.1 t5248.2.2.2.2.2.1 t5248.2.2.2.2.2.2.1] w5268) := ⟨by rw [hst]; exact HS.out.setAll (l1 := [b7 g5212 g5214 a5222 a5223 a5224 a5225, b6 g5214 A5217 l5216.length n5219 t5248.2.2.2.2.2.2.2.2, r5 A5217 l5216.length n5219 l5216]) (l2 := []) [.int .i64 t5248.1, .int .i64 t5248.2.1, .int .i64 t5248.2.2.1, .int .i64 t5248.2.2.2.1, .int .i64 t5248.2.2.2.2.1, .int .i64 t5248.2.2.2.2.2.1, .int .i64 t5248.2.2.2.2.2.2.1] rfl⟩; clear hst; replace HS : Aside0 (Sep FF w [b7 g5212 g5214 a5222 a5223 a5224 a5225, b6 g5214 A5217 l5216.length n5219 t5248.2.2.2.2.2.2.2.2, r5 A5217 l5216.length n5219 l5216] w5268) := ⟨HS.out.sub (.cons_cons _ (.cons_cons _ (.cons_cons _ (.cons _ .slnil))))⟩))
  go_ret
  rw [← some_eq H]
  exact ⟨(by first | rfl | (simp [IntKind.wrap_u32]; done)), HS.out⟩

set_option maxHeartbeats 30000000 in
set_option maxRecDepth 100000 in
theorem ring_Len.calls (l5312 : List Int) (a5317 : Int) (a5318 : Int) (a5319 : Int) (a5320 : Int) (a5321 : Int) (g5308 : Nat) (g5310 : Nat) (A5313 : Option Addr) (m5314 : Nat) (n5315 : Nat) (r : Int × Int) (w : World)  (HGl0 : Aside0 (Gl 0 #[.int .i64 0, .int .i64 0, .int .i64 0, .int .i64 0, .int .i64 0] (fps [b7 g5308 g5310 a5318 a5319 a5320 a5321, b6 g5310 A5313 m5314 n5315 a5317, r5 A5313 m5314 n5315 l5312]) w)) (HS : Aside0 (Sep (fps [b7 g5308 g5310 a5318 a5319 a5320 a5321, b6 g5310 A5313 m5314 n5315 a5317, r5 A5313 m5314 n5315 l5312]) w [b7 g5308 g5310 a5318 a5319 a5320 a5321, b6 g5310 A5313 m5314 n5315 a5317, r5 A5313 m5314 n5315 l5312] w)) (H : Aside0 (ring_Len.f l5312 a5317 a5318 a5319 a5320 a5321 = some r)) :
    Calls Tryz.prog 20 #[.pointer (some ⟨g5308, 0, none⟩)] w fun e w' => e = .returned (.int .i64 r.1) ∧ Sep (fps [b7 g5308 g5310 a5318 a5319 a5320 a5321, b6 g5310 A5313 m5314 n5315 a5317, r5 A5313 m5314 n5315 l5312]) w [b7 g5308 g5310 a5318 a5319 a5320 a5321, b6 g5310 A5313 m5314 n5315 r.2, r5 A5313 m5314 n5315 l5312] w' := by
  generalize (fps [b7 g5308 g5310 a5318 a5319 a5320 a5321, b6 g5310 A5313 m5314 n5315 a5317, r5 A5313 m5314 n5315 l5312]) = FF at HS HGl0 ⊢
  obtain rfl := (row_len (HS.out.at2)).symm
  unfold ring_Len.f at H
  go_enter Tryz.func20, Tryz.ntmps20
  go_wp2_with fail
  obtain ⟨t5325, HA5326, H⟩ := bind_some H
  refine (ground_Ground_Reg.calls l5312 a5317 a5318 a5319 a5320 a5321 9 g5308 g5310 A5313 l5312.length n5315 t5325 _ ⟨HGl0.out.pass HS.out⟩ ⟨HS.out.begin⟩ HA5326).mono ?_
  rintro e_ w5327 ⟨rfl, hS⟩
  replace HS : Aside0 (Sep FF w [b7 g5308 g5310 a5318 a5319 a5320 a5321, b6 g5310 A5313 l5312.length n5315 t5325.2, r5 A5313 l5312.length n5315 l5312] w5327) := ⟨HS.out.call hS⟩
  clear hS
  go_wp2_with fail
  go_ret
  rw [← some_eq H]
  exact ⟨(by first | rfl | (simp [IntKind.wrap_u32]; done)), HS.out⟩

set_option maxHeartbeats 30000000 in
set_option maxRecDepth 100000 in
theorem quitrentlaw13_TintTurns.calls (k : Nat) (a1 : Int) (l2 : List Int) (a6 : Bool) (A3 : Option Addr) (n4 : Nat) (r : Bool) (w : World) (HR5 : Aside0 (Rd (Kd.int .u8) (fps []) w A3 l2.length l2)) (HGl0 : Aside0 (Gl 0 #[.int .i64 0, .int .i64 0, .int .i64 0, .int .i64 0, .int .i64 0] (fps []) w)) (HS : Aside0 (Sep (fps []) w [] w)) (H : Aside0 (quitrentlaw13_TintTurns.f k a1 l2 a6 = some r)) :
    Calls Tryz.prog 3 #[.int .u8 a1, .slice A3 l2.length n4, .bool a6] w fun e w' => e = .returned (.bool r) ∧ Sep (fps []) w [] w' := by
  unfold quitrentlaw13_TintTurns.f at H
  go_enter Tryz.func3, Tryz.ntmps3
  by_cases c7 : a1 < 1
  · replace H := if_yes c7 H
    have c7b0 : decide (a1 < 1) = true := decide_eq_true c7
    clear c7
    go_wp2_with fail
    obtain ⟨t4931, HA4932, H⟩ := bind_some H
    refine (quitrentlaw13_begun.calls _ t4931 _ ⟨HGl0.out.pass (l := []) HS.out⟩ ⟨Sep.start _⟩ HA4932).mono ?_
    rintro e_ w4933 ⟨rfl, hS⟩
    replace HS : Aside0 (Sep (fps []) w [] w4933) := ⟨HS.out.call hS⟩
    clear hS
    go_wp2_with fail
    go_ret
    rw [← some_eq H]
    exact ⟨(by first | rfl | (simp [IntKind.wrap_u32]; done)), HS.out⟩
  · replace H := if_no c7 H
    have c7b0 : decide (a1 < 1) = false := decide_eq_false c7
    clear c7
    by_cases c4934 : a1 > 40
    · replace H := if_yes c4934 H
      have c4934b0 : decide (40 < a1) = true := decide_eq_true c4934
      clear c4934
      go_wp2_with fail
      obtain ⟨t4931, HA4935, H⟩ := bind_some H
      refine (quitrentlaw13_begun.calls _ t4931 _ ⟨HGl0.out.pass (l := []) HS.out⟩ ⟨Sep.start _⟩ HA4935).mono ?_
      rintro e_ w4936 ⟨rfl, hS⟩
      replace HS : Aside0 (Sep (fps []) w [] w4936) := ⟨HS.out.call hS⟩
      clear hS
      go_wp2_with fail
      go_ret
      rw [← some_eq H]
      exact ⟨(by first | rfl | (simp [IntKind.wrap_u32]; done)), HS.out⟩
    · replace H := if_no c4934 H
      have c4934b0 : decide (40 < a1) = false := decide_eq_false c4934
      clear c4934
      by_cases c4937 : (l2.length : Int) > 100
      · replace H := if_yes c4937 H
        have c4937b0 : decide (100 < (l2.length : Int)) = true := decide_eq_true c4937
        have c4937b1 : decide (100 < l2.length) = true := decide_eq_true (by omega)
        clear c4937
        go_wp2_with fail
        obtain ⟨t4931, HA4938, H⟩ := bind_some H
        refine (quitrentlaw13_begun.calls _ t4931 _ ⟨HGl0.out.pass (l := []) HS.out⟩ ⟨Sep.start _⟩ HA4938).mono ?_
        rintro e_ w4939 ⟨rfl, hS⟩
        replace HS : Aside0 (Sep (fps []) w [] w4939) := ⟨HS.out.call hS⟩
        clear hS
        go_wp2_with fail
        go_ret
        rw [← some_eq H]
        exact ⟨(by first | rfl | (simp [IntKind.wrap_u32]; done)), HS.out⟩
      · replace H := if_no c4937 H
        have c4937b0 : decide (100 < (l2.length : Int)) = false := decide_eq_false c4937
        have c4937b1 : decide (100 < l2.length) = false := decide_eq_false (by omega)
        clear c4937
        go_wp2_with fail
        obtain ⟨t4940, HA4941, H⟩ := bind_some H
        rcases t4940 with t4942 | t4943
        · have H := sum_l H
          refine (quitrentlaw12_Opened.calls _ (wrap64 (a1)) 16 1 1 (.inl t4942) _ ⟨HGl0.out.pass (l := []) HS.out⟩ ⟨Sep.start _⟩ HA4941).mono ?_
          rintro e_ w4944 ⟨rfl, hS⟩
          replace HS : Aside0 (Sep (fps []) w [] w4944) := ⟨HS.out.call hS⟩
          clear hS
          by_cases c4945 : t4942 = true
          · replace H := if_yes c4945 H
            have c4945b0 : t4942 = true := c4945
            have c4945b1 : (!t4942) = false := by rw [c4945b0]; rfl
            try rw [c4945b1]
            clear c4945
            exact (none_no H).elim
          · replace H := if_no c4945 H
            have c4945b0 : t4942 = false := by simpa using c4945
            have c4945b1 : (!t4942) = true := by rw [c4945b0]; rfl
            try rw [c4945b1]
            clear c4945
            go_wp2_with fail
            go_ret
            rw [← some_eq H]
            exact ⟨(by first | rfl | (simp [IntKind.wrap_u32]; done)), HS.out⟩
        · have H := sum_r H
          refine (quitrentlaw12_Opened.calls _ (wrap64 (a1)) 16 1 1 (.inr t4943) _ ⟨HGl0.out.pass (l := []) HS.out⟩ ⟨Sep.start _⟩ HA4941).mono ?_
          rintro e_ w4947 ⟨g4956, g4957, rfl, g4958, g4959, A4960, m4961, n4962, A4964, m4965, n4966, A4968, m4969, n4970, A4972, m4973, n4974, hS⟩
          replace HS : Aside0 (Sep (fps []) w [b7 g4956 g4958 t4943.2.1 t4943.2.2.1 t4943.2.2.2.1 t4943.2.2.2.2.1, b15 g4957 g4959 0 0 0 0 0 0 0 0 0 A4960 m4961 n4962 A4964 m4965 n4966 0, b6 g4958 A4968 m4969 n4970 t4943.2.2.2.2.2.1, b12 g4959 t4943.2.2.2.2.2.2.1 t4943.2.2.2.2.2.2.2.1 A4972 m4973 n4974, r11 A4960 m4961 n4962 t4943.2.2.2.2.2.2.2.2.1, r11 A4964 m4965 n4966 t4943.2.2.2.2.2.2.2.2.2.1, r5 A4968 m4969 n4970 t4943.2.2.2.2.2.2.2.2.2.2.1, r11 A4972 m4973 n4974 t4943.2.2.2.2.2.2.2.2.2.2.2] w4947) := ⟨HS.out.call hS⟩
          clear hS
          obtain rfl := (row_len (HS.out.at4)).symm
          obtain rfl := (row_len (HS.out.at5)).symm
          obtain rfl := (row_len (HS.out.at6)).symm
          obtain rfl := (row_len (HS.out.at7)).symm
          by_cases c4976 : t4943.1 = true
          · replace H := if_yes c4976 H
            have c4976b0 : t4943.1 = true := c4976
            have c4976b1 : (!t4943.1) = false := by rw [c4976b0]; rfl
            try rw [c4976b1]
            clear c4976
            by_cases c4977 : a6 = true
            · replace H := if_yes c4977 H
              have c4977b0 : a6 = true := c4977
              have c4977b1 : (!a6) = false := by rw [c4977b0]; rfl
              clear c4977
              replace HS : Aside0 (Sep (fps []) w [b7 g4956 g4958 t4943.2.1 t4943.2.2.1 t4943.2.2.2.1 t4943.2.2.2.2.1, b6 g4958 A4968 ((t4943.2.2.2.2.2.2.2.2.2.2.1).length) n4970 t4943.2.2.2.2.2.1, r5 A4968 ((t4943.2.2.2.2.2.2.2.2.2.2.1).length) n4970 t4943.2.2.2.2.2.2.2.2.2.2.1] w4947) := ⟨HS.out.sub (.cons_cons _ (.cons _ (.cons_cons _ (.cons _ (.cons _ (.cons _ (.cons_cons _ (.cons _ .slnil))))))))⟩
              go_wp2_with fail
              obtain ⟨t4978, HA4979, H⟩ := bind_some H
              refine (tint_Turn.calls t4943.2.2.2.2.2.2.2.2.2.2.1 t4943.2.2.2.2.2.1 t4943.2.1 t4943.2.2.1 t4943.2.2.2.1 t4943.2.2.2.2.1 g4956 g4958 A4968 ((t4943.2.2.2.2.2.2.2.2.2.2.1).length) n4970 t4978 _ ⟨HGl0.out.pass HS.out⟩ ⟨HS.out.begin⟩ HA4979).mono ?_
              rintro e_ w4980 ⟨rfl, hS⟩
              replace HS : Aside0 (Sep (fps []) w [b7 g4956 g4958 t4943.2.1 t4943.2.2.1 t4943.2.2.2.1 t4943.2.2.2.2.1, b6 g4958 A4968 ((t4943.2.2.2.2.2.2.2.2.2.2.1).length) n4970 t4978.1, r5 A4968 ((t4943.2.2.2.2.2.2.2.2.2.2.1).length) n4970 t4978.2] w4980) := ⟨HS.out.call hS⟩
              clear hS
              go_wp2_with fail
              obtain ⟨t4981, HA4982, H⟩ := bind_some H
              refine (tint_Begin.calls _ t4978.2 t4978.1 t4943.2.1 t4943.2.2.1 t4943.2.2.2.1 t4943.2.2.2.2.1 2 g4956 g4958 A4968 ((t4943.2.2.2.2.2.2.2.2.2.2.1).length) n4970 t4981 _ ⟨HGl0.out.pass HS.out⟩ ⟨HS.out.begin⟩ HA4982).mono ?_
              rintro e_ w4983 ⟨rfl, hS⟩
              replace HS : Aside0 (Sep (fps []) w [b7 g4956 g4958 t4943.2.1 t4943.2.2.1 t4943.2.2.2.1 t4943.2.2.2.2.1, b6 g4958 A4968 ((t4943.2.2.2.2.2.2.2.2.2.2.1).length) n4970 t4981.2.1, r5 A4968 ((t4943.2.2.2.2.2.2.2.2.2.2.1).length) n4970 t4981.2.2] w4983) := ⟨HS.out.call hS⟩
              clear hS
              go_wp2_with fail
              obtain ⟨o5124, AL5125, H⟩ := bind_some H
              go_loopg [10] k (fun kq v10 wc => ∃ (x5128 : Int) (x5129 : List Int) (x5130 : Int), v10 = .int .i64 x5128 ∧ Aside0 (quitrentlaw13_TintTurns.lo0 kq a1 t4943 x5128 x5129 x5130 = some o5124) ∧ Aside0 (Sep (fps []) w [b7 g4956 g4958 t4943.2.1 t4943.2.2.1 t4943.2.2.2.1 t4943.2.2.2.2.1, b6 g4958 A4968 ((t4943.2.2.2.2.2.2.2.2.2.2.1).length) n4970 x5130, r5 A4968 ((t4943.2.2.2.2.2.2.2.2.2.2.1).length) n4970 x5129] wc))
              case atStart => exact ⟨(0), (t4981.2.2), (t4981.2.1), (by first | rfl | (simp [IntKind.wrap_u32]; done)), AL5125, ⟨HS.out⟩⟩
              case round =>
                clear AL5125 HS
                obtain ⟨x5128, x5129, x5130, rfl, AL5125, HS⟩ := hrel
                obtain ⟨w5126, rfl⟩ : ∃ x : World, x = wr := ⟨_, rfl⟩
                cases gk with
                | zero => exact absurd AL5125.out (by simp [quitrentlaw13_TintTurns.lo0])
                | succ k5127 =>
                  have AL0 := AL5125.out
                  rw [quitrentlaw13_TintTurns.lo0] at AL0
                  clear AL5125
                  have AL5125 := Aside0.mk AL0
                  clear AL0
                  by_cases c5131 : x5128 < (wrap64 (a1))
                  · replace AL5125 := if_yes c5131 AL5125
                    have c5131b0 : decide (x5128 < (wrap64 (a1))) = true := decide_eq_true c5131
                    clear c5131
                    go_wp2_with fail
                    obtain ⟨t4991, HA5132, AL5125⟩ := bind_some AL5125
                    refine (obj_Make.calls _ x5129 x5130 t4943.2.1 t4943.2.2.1 t4943.2.2.2.1 t4943.2.2.2.2.1 1 0 g4956 g4958 A4968 ((t4943.2.2.2.2.2.2.2.2.2.2.1).length) n4970 t4991 _ ⟨HGl0.out.pass HS.out⟩ ⟨HS.out.begin⟩ HA5132).mono ?_
                    rintro e_ w5133 ⟨rfl, hS⟩
                    replace HS : Aside0 (Sep (fps []) w [b7 g4956 g4958 t4943.2.1 t4943.2.2.1 t4943.2.2.2.1 t4943.2.2.2.2.1, b6 g4958 A4968 ((t4943.2.2.2.2.2.2.2.2.2.2.1).length) n4970 t4991.2.2.1, r5 A4968 ((t4943.2.2.2.2.2.2.2.2.2.2.1).length) n4970 t4991.2.2.2] w5133) := ⟨HS.out.call hS⟩
                    clear hS
                    by_cases c5134 : t4991.2.1 = 0
                    · replace AL5125 := if_yes c5134 AL5125
                      have c5134b0 : (t4991.2.1 == 0) = true := beq_iff_eq.mpr c5134
                      have c5134b1 : (t4991.2.1 != 0) = false := bne_eq_false_iff_eq.mpr c5134
                      clear c5134
                      go_wp2_with fail
                      obtain ⟨t4995, HA5135, AL5125⟩ := bind_some AL5125
                      refine (tint_Dye.calls _ t4991.2.2.2 t4991.2.2.1 t4943.2.1 t4943.2.2.1 t4943.2.2.2.1 t4943.2.2.2.2.1 t4991.1 g4956 g4958 A4968 ((t4943.2.2.2.2.2.2.2.2.2.2.1).length) n4970 t4995 _ ⟨HGl0.out.pass HS.out⟩ ⟨HS.out.begin⟩ HA5135).mono ?_
                      rintro e_ w5136 ⟨rfl, hS⟩
                      replace HS : Aside0 (Sep (fps []) w [b7 g4956 g4958 t4943.2.1 t4943.2.2.1 t4943.2.2.2.1 t4943.2.2.2.2.1, b6 g4958 A4968 ((t4943.2.2.2.2.2.2.2.2.2.2.1).length) n4970 t4995.2.1, r5 A4968 ((t4943.2.2.2.2.2.2.2.2.2.2.1).length) n4970 t4995.2.2] w5136) := ⟨HS.out.call hS⟩
                      clear hS
                      by_cases c5137 : t4995.1 = true
                      · replace AL5125 := if_yes c5137 AL5125
                        have c5137b0 : t4995.1 = true := c5137
                        have c5137b1 : (!t4995.1) = false := by rw [c5137b0]; rfl
                        try rw [c5137b1]
                        clear c5137
                        go_wp2_with fail
                        obtain ⟨t5103, HA5138, AL5125⟩ := bind_some AL5125
                        refine (tint_Counted.calls t4995.2.2 t4995.2.1 t4943.2.1 t4943.2.2.1 t4943.2.2.2.1 t4943.2.2.2.2.1 t4991.1 0 g4956 g4958 A4968 ((t4943.2.2.2.2.2.2.2.2.2.2.1).length) n4970 t5103 _ ⟨HGl0.out.pass HS.out⟩ ⟨HS.out.begin⟩ HA5138).mono ?_
                        rintro e_ w5139 ⟨rfl, hS⟩
                        replace HS : Aside0 (Sep (fps []) w [b7 g4956 g4958 t4943.2.1 t4943.2.2.1 t4943.2.2.2.1 t4943.2.2.2.2.1, b6 g4958 A4968 ((t4943.2.2.2.2.2.2.2.2.2.2.1).length) n4970 t5103.2, r5 A4968 ((t4943.2.2.2.2.2.2.2.2.2.2.1).length) n4970 t4995.2.2] w5139) := ⟨HS.out.call hS⟩
                        clear hS
                        by_cases c5140 : t5103.1 = true
                        · replace AL5125 := if_yes c5140 AL5125
                          have c5140b0 : t5103.1 = true := c5140
                          have c5140b1 : (!t5103.1) = false := by rw [c5140b0]; rfl
                          try rw [c5140b1]
                          clear c5140
                          go_wp2_with fail
                          go_roundg k5127
                          case measure => exact Nat.lt_succ_self _
                          case rel => exact ⟨(wrap64 (x5128 + 1)), (t4995.2.2), (t5103.2), (by first | rfl | (simp [IntKind.wrap_u32]; done)), Aside0.mk AL5125.out, ⟨HS.out⟩⟩
                        · replace AL5125 := if_no c5140 AL5125
                          have c5140b0 : t5103.1 = false := by simpa using c5140
                          have c5140b1 : (!t5103.1) = true := by rw [c5140b0]; rfl
                          try rw [c5140b1]
                          clear c5140
                          go_wp2_with fail
                          have ho := some_eq AL5125
                          subst ho
                          have H := lp_ret H
                          go_ret
                          rw [← some_eq H]
                          exact ⟨(by first | rfl | (simp [IntKind.wrap_u32]; done)), HS.out.sub (.cons _ (.cons _ (.cons _ .slnil)))⟩
                      · replace AL5125 := if_no c5137 AL5125
                        have c5137b0 : t4995.1 = false := by simpa using c5137
                        have c5137b1 : (!t4995.1) = true := by rw [c5137b0]; rfl
                        try rw [c5137b1]
                        clear c5137
                        go_wp2_with fail
                        have ho := some_eq AL5125
                        subst ho
                        have H := lp_ret H
                        go_ret
                        rw [← some_eq H]
                        exact ⟨(by first | rfl | (simp [IntKind.wrap_u32]; done)), HS.out.sub (.cons _ (.cons _ (.cons _ .slnil)))⟩
                    · replace AL5125 := if_no c5134 AL5125
                      have c5134b0 : (t4991.2.1 == 0) = false := beq_eq_false_iff_ne.mpr c5134
                      have c5134b1 : (t4991.2.1 != 0) = true := bne_iff_ne.mpr c5134
                      clear c5134
                      go_wp2_with fail
                      have ho := some_eq AL5125
                      subst ho
                      have H := lp_ret H
                      go_ret
                      rw [← some_eq H]
                      exact ⟨(by first | rfl | (simp [IntKind.wrap_u32]; done)), HS.out.sub (.cons _ (.cons _ (.cons _ .slnil)))⟩
                  · replace AL5125 := if_no c5131 AL5125
                    have c5131b0 : decide (x5128 < (wrap64 (a1))) = false := decide_eq_false c5131
                    clear c5131
                    have ho := some_eq AL5125
                    subst ho
                    clear AL5125
                    have H := lp_out H
                    go_wp2_with fail
                    obtain ⟨o5155, AL5156, H⟩ := bind_some H
                    go_loopg [71] k (fun kq v71 wc => ∃ (x5159 : Int) (x5160 : List Int) (x5161 : Int), v71 = .int .i64 x5159 ∧ Aside0 (quitrentlaw13_TintTurns.lo1 kq a1 l2 t4943 x5159 x5160 x5161 = some o5155) ∧ Aside0 (Sep (fps []) w [b7 g4956 g4958 t4943.2.1 t4943.2.2.1 t4943.2.2.2.1 t4943.2.2.2.2.1, b6 g4958 A4968 ((t4943.2.2.2.2.2.2.2.2.2.2.1).length) n4970 x5161, r5 A4968 ((t4943.2.2.2.2.2.2.2.2.2.2.1).length) n4970 x5160] wc))
                    case atStart => exact ⟨(0), (x5129), (x5130), (by first | rfl | (simp [IntKind.wrap_u32]; done)), AL5156, ⟨HS.out⟩⟩
                    case round =>
                      clear AL5156 HS
                      obtain ⟨x5159, x5160, x5161, rfl, AL5156, HS⟩ := hrel
                      obtain ⟨w5157, rfl⟩ : ∃ x : World, x = wr := ⟨_, rfl⟩
                      cases gk with
                      | zero => exact absurd AL5156.out (by simp [quitrentlaw13_TintTurns.lo1])
                      | succ k5158 =>
                        have AL0 := AL5156.out
                        rw [quitrentlaw13_TintTurns.lo1] at AL0
                        clear AL5156
                        have AL5156 := Aside0.mk AL0
                        clear AL0
                        by_cases c5162 : x5159 < (l2.length : Int)
                        · replace AL5156 := if_yes c5162 AL5156
                          have c5162b0 : decide (x5159 < (l2.length : Int)) = true := decide_eq_true c5162
                          clear c5162
                          by_cases c5163 : 0 ≤ x5159
                          · replace AL5156 := if_yes c5163 AL5156
                            have c5163b0 : decide (0 ≤ x5159) = true := decide_eq_true c5163
                            have c5163p : (0 ≤ x5159) = True := eq_true c5163
                            clear c5163
                            have ip5164 : (x5159 < (l2.length : Int)) = True := eq_true (of_decide_eq_true c5162b0)
                            by_cases c5166 : a1 = 0
                            · replace AL5156 := if_yes c5166 AL5156
                              have c5166b0 : (a1 == 0) = true := beq_iff_eq.mpr c5166
                              have c5166b1 : (a1 != 0) = false := bne_eq_false_iff_eq.mpr c5166
                              exact (none_no AL5156).elim
                            · replace AL5156 := if_no c5166 AL5156
                              have c5166b0 : (a1 == 0) = false := beq_eq_false_iff_ne.mpr c5166
                              have c5166b1 : (a1 != 0) = true := bne_iff_ne.mpr c5166
                              obtain ⟨hx5165a, hx5165e, hx5165⟩ := Kd.at_int (Rd.read (fun _ _ _ _ h => h) HR5.out HS.out.fr) x5159 (of_decide_eq_true c5163b0) (of_decide_eq_true c5162b0); cases hx5165e
                              skip
                              go_wp2_with fail
                              clear hx5165 c5166
                              obtain ⟨t5152, HA5167, AL5156⟩ := bind_some AL5156
                              refine (tint_Deepen.calls _ x5160 x5161 t4943.2.1 t4943.2.2.1 t4943.2.2.2.1 t4943.2.2.2.2.1 (wrap64 ((wrap64 (Int.tmod (rd l2 x5159) a1)) + 1)) g4956 g4958 A4968 ((t4943.2.2.2.2.2.2.2.2.2.2.1).length) n4970 t5152 _ ⟨HGl0.out.pass HS.out⟩ ⟨HS.out.begin⟩ HA5167).mono ?_
                              rintro e_ w5168 ⟨rfl, hS⟩
                              replace HS : Aside0 (Sep (fps []) w [b7 g4956 g4958 t4943.2.1 t4943.2.2.1 t4943.2.2.2.1 t4943.2.2.2.2.1, b6 g4958 A4968 ((t4943.2.2.2.2.2.2.2.2.2.2.1).length) n4970 t5152.2.1, r5 A4968 ((t4943.2.2.2.2.2.2.2.2.2.2.1).length) n4970 t5152.2.2] w5168) := ⟨HS.out.call hS⟩
                              clear hS
                              go_wp2_with fail
                              go_roundg k5158
                              case measure => exact Nat.lt_succ_self _
                              case rel => exact ⟨(wrap64 (x5159 + 1)), (t5152.2.2), (t5152.2.1), (by first | rfl | (simp [IntKind.wrap_u32]; done)), Aside0.mk AL5156.out, ⟨HS.out⟩⟩
                          · replace AL5156 := if_no c5163 AL5156
                            have c5163b0 : decide (0 ≤ x5159) = false := decide_eq_false c5163
                            clear c5163
                            exact (none_no AL5156).elim
                        · replace AL5156 := if_no c5162 AL5156
                          have c5162b0 : decide (x5159 < (l2.length : Int)) = false := decide_eq_false c5162
                          clear c5162
                          have ho := some_eq AL5156
                          subst ho
                          clear AL5156
                          go_wp2_with fail
                          obtain ⟨t5169, HA5170, H⟩ := bind_some H
                          refine (tint_Parity.calls x5160 x5161 t4943.2.1 t4943.2.2.1 t4943.2.2.2.1 t4943.2.2.2.2.1 g4956 g4958 A4968 ((t4943.2.2.2.2.2.2.2.2.2.2.1).length) n4970 t5169 _ ⟨HGl0.out.pass HS.out⟩ ⟨HS.out.begin⟩ HA5170).mono ?_
                          rintro e_ w5171 ⟨rfl, hS⟩
                          replace HS : Aside0 (Sep (fps []) w [b7 g4956 g4958 t4943.2.1 t4943.2.2.1 t4943.2.2.2.1 t4943.2.2.2.2.1, b6 g4958 A4968 ((t4943.2.2.2.2.2.2.2.2.2.2.1).length) n4970 t5169.2, r5 A4968 ((t4943.2.2.2.2.2.2.2.2.2.2.1).length) n4970 x5160] w5171) := ⟨HS.out.call hS⟩
                          clear hS
                          go_wp2_with fail
                          obtain ⟨t5172, HA5173, H⟩ := bind_some H
                          refine (tint_Turn.calls x5160 t5169.2 t4943.2.1 t4943.2.2.1 t4943.2.2.2.1 t4943.2.2.2.2.1 g4956 g4958 A4968 ((t4943.2.2.2.2.2.2.2.2.2.2.1).length) n4970 t5172 _ ⟨HGl0.out.pass HS.out⟩ ⟨HS.out.begin⟩ HA5173).mono ?_
                          rintro e_ w5174 ⟨rfl, hS⟩
                          replace HS : Aside0 (Sep (fps []) w [b7 g4956 g4958 t4943.2.1 t4943.2.2.1 t4943.2.2.2.1 t4943.2.2.2.2.1, b6 g4958 A4968 ((t4943.2.2.2.2.2.2.2.2.2.2.1).length) n4970 t5172.1, r5 A4968 ((t4943.2.2.2.2.2.2.2.2.2.2.1).length) n4970 t5172.2] w5174) := ⟨HS.out.call hS⟩
                          clear hS
                          go_wp2_with fail
                          obtain ⟨o5273, AL5274, H⟩ := bind_some H
                          go_loopg [16] k (fun kq v16 wc => ∃ (x5277 : Int) (x5278 : List Int) (x5279 : Int), v16 = .int .i64 x5277 ∧ Aside0 (quitrentlaw13_TintTurns.lo2 kq a1 t4943 x5277 x5278 x5279 = some o5273) ∧ Aside0 (Sep (fps []) w [b7 g4956 g4958 t4943.2.1 t4943.2.2.1 t4943.2.2.2.1 t4943.2.2.2.2.1, b6 g4958 A4968 ((t4943.2.2.2.2.2.2.2.2.2.2.1).length) n4970 x5279, r5 A4968 ((t4943.2.2.2.2.2.2.2.2.2.2.1).length) n4970 x5278] wc))
                          case atStart => exact ⟨(1), (t5172.2), (t5172.1), (by first | rfl | (simp [IntKind.wrap_u32]; done)), AL5274, ⟨HS.out⟩⟩
                          case round =>
                            clear AL5274 HS
                            obtain ⟨x5277, x5278, x5279, rfl, AL5274, HS⟩ := hrel
                            obtain ⟨w5275, rfl⟩ : ∃ x : World, x = wr := ⟨_, rfl⟩
                            cases gk with
                            | zero => exact absurd AL5274.out (by simp [quitrentlaw13_TintTurns.lo2])
                            | succ k5276 =>
                              have AL0 := AL5274.out
                              rw [quitrentlaw13_TintTurns.lo2] at AL0
                              clear AL5274
                              have AL5274 := Aside0.mk AL0
                              clear AL0
                              by_cases c5280 : x5277 ≤ (wrap64 (a1))
                              · replace AL5274 := if_yes c5280 AL5274
                                have c5280b0 : decide (x5277 ≤ (wrap64 (a1))) = true := decide_eq_true c5280
                                clear c5280
                                go_wp2_with fail
                                obtain ⟨t5182, HA5281, AL5274⟩ := bind_some AL5274
                                refine (tint_Black.calls x5278 x5279 t4943.2.1 t4943.2.2.1 t4943.2.2.2.1 t4943.2.2.2.2.1 x5277 g4956 g4958 A4968 ((t4943.2.2.2.2.2.2.2.2.2.2.1).length) n4970 t5182 _ ⟨HGl0.out.pass HS.out⟩ ⟨HS.out.begin⟩ HA5281).mono ?_
                                rintro e_ w5282 ⟨rfl, hS⟩
                                replace HS : Aside0 (Sep (fps []) w [b7 g4956 g4958 t4943.2.1 t4943.2.2.1 t4943.2.2.2.1 t4943.2.2.2.2.1, b6 g4958 A4968 ((t4943.2.2.2.2.2.2.2.2.2.2.1).length) n4970 t5182.2, r5 A4968 ((t4943.2.2.2.2.2.2.2.2.2.2.1).length) n4970 x5278] w5282) := ⟨HS.out.call hS⟩
                                clear hS
                                by_cases c5283 : t5182.1 = true
                                · replace AL5274 := if_yes c5283 AL5274
                                  have c5283b0 : t5182.1 = true := c5283
                                  have c5283b1 : (!t5182.1) = false := by rw [c5283b0]; rfl
                                  clear c5283
                                  go_wp2_with fail
                                  have ho := some_eq AL5274
                                  subst ho
                                  have H := lp_ret H
                                  go_ret
                                  rw [← some_eq H]
                                  exact ⟨(by first | rfl | (simp [IntKind.wrap_u32]; done)), HS.out.sub (.cons _ (.cons _ (.cons _ .slnil)))⟩
                                · replace AL5274 := if_no c5283 AL5274
                                  have c5283b0 : t5182.1 = false := by simpa using c5283
                                  have c5283b1 : (!t5182.1) = true := by rw [c5283b0]; rfl
                                  clear c5283
                                  go_wp2_with fail
                                  obtain ⟨t5195, HA5284, AL5274⟩ := bind_some AL5274
                                  refine (tint_Counted.calls x5278 t5182.2 t4943.2.1 t4943.2.2.1 t4943.2.2.2.1 t4943.2.2.2.2.1 x5277 0 g4956 g4958 A4968 ((t4943.2.2.2.2.2.2.2.2.2.2.1).length) n4970 t5195 _ ⟨HGl0.out.pass HS.out⟩ ⟨HS.out.begin⟩ HA5284).mono ?_
                                  rintro e_ w5285 ⟨rfl, hS⟩
                                  replace HS : Aside0 (Sep (fps []) w [b7 g4956 g4958 t4943.2.1 t4943.2.2.1 t4943.2.2.2.1 t4943.2.2.2.2.1, b6 g4958 A4968 ((t4943.2.2.2.2.2.2.2.2.2.2.1).length) n4970 t5195.2, r5 A4968 ((t4943.2.2.2.2.2.2.2.2.2.2.1).length) n4970 x5278] w5285) := ⟨HS.out.call hS⟩
                                  clear hS
                                  by_cases c5286 : t5195.1 = true
                                  · replace AL5274 := if_yes c5286 AL5274
                                    have c5286b0 : t5195.1 = true := c5286
                                    have c5286b1 : (!t5195.1) = false := by rw [c5286b0]; rfl
                                    clear c5286
                                    go_wp2_with fail
                                    have ho := some_eq AL5274
                                    subst ho
                                    have H := lp_ret H
                                    go_ret
                                    rw [← some_eq H]
                                    exact ⟨(by first | rfl | (simp [IntKind.wrap_u32]; done)), HS.out.sub (.cons _ (.cons _ (.cons _ .slnil)))⟩
                                  · replace AL5274 := if_no c5286 AL5274
                                    have c5286b0 : t5195.1 = false := by simpa using c5286
                                    have c5286b1 : (!t5195.1) = true := by rw [c5286b0]; rfl
                                    clear c5286
                                    go_wp2_with fail
                                    obtain ⟨t5199, HA5287, AL5274⟩ := bind_some AL5274
                                    refine (tint_Shadow.calls x5278 t5195.2 t4943.2.1 t4943.2.2.1 t4943.2.2.2.1 t4943.2.2.2.2.1 x5277 g4956 g4958 A4968 ((t4943.2.2.2.2.2.2.2.2.2.2.1).length) n4970 t5199 _ ⟨HGl0.out.pass HS.out⟩ ⟨HS.out.begin⟩ HA5287).mono ?_
                                    rintro e_ w5288 ⟨rfl, hS⟩
                                    replace HS : Aside0 (Sep (fps []) w [b7 g4956 g4958 t4943.2.1 t4943.2.2.1 t4943.2.2.2.1 t4943.2.2.2.2.1, b6 g4958 A4968 ((t4943.2.2.2.2.2.2.2.2.2.2.1).length) n4970 t5199.2, r5 A4968 ((t4943.2.2.2.2.2.2.2.2.2.2.1).length) n4970 x5278] w5288) := ⟨HS.out.call hS⟩
                                    clear hS
                                    by_cases c5289 : t5199.1 = 0
                                    · replace AL5274 := if_yes c5289 AL5274
                                      have c5289b0 : (t5199.1 == 0) = true := beq_iff_eq.mpr c5289
                                      have c5289b1 : (t5199.1 != 0) = false := bne_eq_false_iff_eq.mpr c5289
                                      clear c5289
                                      go_wp2_with fail
                                      obtain ⟨t5203, HA5290, AL5274⟩ := bind_some AL5274
                                      refine (tint_Touch.calls _ x5278 t5199.2 t4943.2.1 t4943.2.2.1 t4943.2.2.2.1 t4943.2.2.2.2.1 x5277 g4956 g4958 A4968 ((t4943.2.2.2.2.2.2.2.2.2.2.1).length) n4970 t5203 _ ⟨HGl0.out.pass HS.out⟩ ⟨HS.out.begin⟩ HA5290).mono ?_
                                      rintro e_ w5291 ⟨rfl, hS⟩
                                      replace HS : Aside0 (Sep (fps []) w [b7 g4956 g4958 t4943.2.1 t4943.2.2.1 t4943.2.2.2.1 t4943.2.2.2.2.1, b6 g4958 A4968 ((t4943.2.2.2.2.2.2.2.2.2.2.1).length) n4970 t5203.2.1, r5 A4968 ((t4943.2.2.2.2.2.2.2.2.2.2.1).length) n4970 t5203.2.2] w5291) := ⟨HS.out.call hS⟩
                                      clear hS
                                      by_cases c5292 : t5203.1 = true
                                      · replace AL5274 := if_yes c5292 AL5274
                                        have c5292b0 : t5203.1 = true := c5292
                                        have c5292b1 : (!t5203.1) = false := by rw [c5292b0]; rfl
                                        try rw [c5292b1]
                                        clear c5292
                                        go_wp2_with fail
                                        obtain ⟨t5207, HA5293, AL5274⟩ := bind_some AL5274
                                        refine (tint_Black.calls t5203.2.2 t5203.2.1 t4943.2.1 t4943.2.2.1 t4943.2.2.2.1 t4943.2.2.2.2.1 x5277 g4956 g4958 A4968 ((t4943.2.2.2.2.2.2.2.2.2.2.1).length) n4970 t5207 _ ⟨HGl0.out.pass HS.out⟩ ⟨HS.out.begin⟩ HA5293).mono ?_
                                        rintro e_ w5294 ⟨rfl, hS⟩
                                        replace HS : Aside0 (Sep (fps []) w [b7 g4956 g4958 t4943.2.1 t4943.2.2.1 t4943.2.2.2.1 t4943.2.2.2.2.1, b6 g4958 A4968 ((t4943.2.2.2.2.2.2.2.2.2.2.1).length) n4970 t5207.2, r5 A4968 ((t4943.2.2.2.2.2.2.2.2.2.2.1).length) n4970 t5203.2.2] w5294) := ⟨HS.out.call hS⟩
                                        clear hS
                                        by_cases c5295 : t5207.1 = true
                                        · replace AL5274 := if_yes c5295 AL5274
                                          have c5295b0 : t5207.1 = true := c5295
                                          have c5295b1 : (!t5207.1) = false := by rw [c5295b0]; rfl
                                          try rw [c5295b1]
                                          clear c5295
                                          go_wp2_with fail
                                          obtain ⟨t5269, HA5296, AL5274⟩ := bind_some AL5274
                                          refine (ring_Has.calls t5203.2.2 t5207.2 t4943.2.1 t4943.2.2.1 t4943.2.2.2.1 t4943.2.2.2.2.1 (wrap64 (x5277 - 1)) g4956 g4958 A4968 ((t4943.2.2.2.2.2.2.2.2.2.2.1).length) n4970 t5269 _ ⟨HGl0.out.pass HS.out⟩ ⟨HS.out.begin⟩ HA5296).mono ?_
                                          rintro e_ w5297 ⟨rfl, hS⟩
                                          replace HS : Aside0 (Sep (fps []) w [b7 g4956 g4958 t4943.2.1 t4943.2.2.1 t4943.2.2.2.1 t4943.2.2.2.2.1, b6 g4958 A4968 ((t4943.2.2.2.2.2.2.2.2.2.2.1).length) n4970 t5269.2, r5 A4968 ((t4943.2.2.2.2.2.2.2.2.2.2.1).length) n4970 t5203.2.2] w5297) := ⟨HS.out.call hS⟩
                                          clear hS
                                          by_cases c5298 : t5269.1 = true
                                          · replace AL5274 := if_yes c5298 AL5274
                                            have c5298b0 : t5269.1 = true := c5298
                                            have c5298b1 : (!t5269.1) = false := by rw [c5298b0]; rfl
                                            try rw [c5298b1]
                                            clear c5298
                                            go_wp2_with fail
                                            go_roundg k5276
                                            case measure => exact Nat.lt_succ_self _
                                            case rel => exact ⟨(wrap64 (x5277 + 1)), (t5203.2.2), (t5269.2), (by first | rfl | (simp [IntKind.wrap_u32]; done)), Aside0.mk AL5274.out, ⟨HS.out⟩⟩
                                          · replace AL5274 := if_no c5298 AL5274
                                            have c5298b0 : t5269.1 = false := by simpa using c5298
                                            have c5298b1 : (!t5269.1) = true := by rw [c5298b0]; rfl
                                            try rw [c5298b1]
                                            clear c5298
                                            go_wp2_with fail
                                            have ho := some_eq AL5274
                                            subst ho
                                            have H := lp_ret H
                                            go_ret
                                            rw [← some_eq H]
                                            exact ⟨(by first | rfl | (simp [IntKind.wrap_u32]; done)), HS.out.sub (.cons _ (.cons _ (.cons _ .slnil)))⟩
                                        · replace AL5274 := if_no c5295 AL5274
                                          have c5295b0 : t5207.1 = false := by simpa using c5295
                                          have c5295b1 : (!t5207.1) = true := by rw [c5295b0]; rfl
                                          try rw [c5295b1]
                                          clear c5295
                                          go_wp2_with fail
                                          have ho := some_eq AL5274
                                          subst ho
                                          have H := lp_ret H
                                          go_ret
                                          rw [← some_eq H]
                                          exact ⟨(by first | rfl | (simp [IntKind.wrap_u32]; done)), HS.out.sub (.cons _ (.cons _ (.cons _ .slnil)))⟩
                                      · replace AL5274 := if_no c5292 AL5274
                                        have c5292b0 : t5203.1 = false := by simpa using c5292
                                        have c5292b1 : (!t5203.1) = true := by rw [c5292b0]; rfl
                                        try rw [c5292b1]
                                        clear c5292
                                        go_wp2_with fail
                                        have ho := some_eq AL5274
                                        subst ho
                                        have H := lp_ret H
                                        go_ret
                                        rw [← some_eq H]
                                        exact ⟨(by first | rfl | (simp [IntKind.wrap_u32]; done)), HS.out.sub (.cons _ (.cons _ (.cons _ .slnil)))⟩
                                    · replace AL5274 := if_no c5289 AL5274
                                      have c5289b0 : (t5199.1 == 0) = false := beq_eq_false_iff_ne.mpr c5289
                                      have c5289b1 : (t5199.1 != 0) = true := bne_iff_ne.mpr c5289
                                      clear c5289
                                      go_wp2_with fail
                                      have ho := some_eq AL5274
                                      subst ho
                                      have H := lp_ret H
                                      go_ret
                                      rw [← some_eq H]
                                      exact ⟨(by first | rfl | (simp [IntKind.wrap_u32]; done)), HS.out.sub (.cons _ (.cons _ (.cons _ .slnil)))⟩
                              · replace AL5274 := if_no c5280 AL5274
                                have c5280b0 : decide (x5277 ≤ (wrap64 (a1))) = false := decide_eq_false c5280
                                clear c5280
                                have ho := some_eq AL5274
                                subst ho
                                clear AL5274
                                have H := lp_out H
                                go_wp2_with fail
                                obtain ⟨t5299, HA5300, H⟩ := bind_some H
                                refine (quitrentlaw13_begun.calls _ t5299 _ ⟨HGl0.out.pass (l := []) HS.out⟩ ⟨Sep.start _⟩ HA5300).mono ?_
                                rintro e_ w5301 ⟨rfl, hS⟩
                                replace HS : Aside0 (Sep (fps []) w [b7 g4956 g4958 t4943.2.1 t4943.2.2.1 t4943.2.2.2.1 t4943.2.2.2.2.1, b6 g4958 A4968 ((t4943.2.2.2.2.2.2.2.2.2.2.1).length) n4970 x5279, r5 A4968 ((t4943.2.2.2.2.2.2.2.2.2.2.1).length) n4970 x5278] w5301) := ⟨HS.out.call hS⟩
                                clear hS
                                by_cases c5302 : t5299 = true
                                · replace H := if_yes c5302 H
                                  have c5302b0 : t5299 = true := c5302
                                  have c5302b1 : (!t5299) = false := by rw [c5302b0]; rfl
                                  clear c5302
                                  go_wp2_with fail
                                  obtain ⟨t5303, HA5304, H⟩ := bind_some H
                                  refine (tint_Parity.calls x5278 x5279 t4943.2.1 t4943.2.2.1 t4943.2.2.2.1 t4943.2.2.2.2.1 g4956 g4958 A4968 ((t4943.2.2.2.2.2.2.2.2.2.2.1).length) n4970 t5303 _ ⟨HGl0.out.pass HS.out⟩ ⟨HS.out.begin⟩ HA5304).mono ?_
                                  rintro e_ w5305 ⟨rfl, hS⟩
                                  replace HS : Aside0 (Sep (fps []) w [b7 g4956 g4958 t4943.2.1 t4943.2.2.1 t4943.2.2.2.1 t4943.2.2.2.2.1, b6 g4958 A4968 ((t4943.2.2.2.2.2.2.2.2.2.2.1).length) n4970 t5303.2, r5 A4968 ((t4943.2.2.2.2.2.2.2.2.2.2.1).length) n4970 x5278] w5305) := ⟨HS.out.call hS⟩
                                  clear hS
                                  by_cases c5306 : t5303.1 = (wrap64 (1 - t5169.1))
                                  · replace H := if_yes c5306 H
                                    have c5306b0 : (t5303.1 == (wrap64 (1 - t5169.1))) = true := beq_iff_eq.mpr c5306
                                    have c5306b1 : (t5303.1 != (wrap64 (1 - t5169.1))) = false := bne_eq_false_iff_eq.mpr c5306
                                    clear c5306
                                    go_wp2_with fail
                                    obtain ⟨t5328, HA5329, H⟩ := bind_some H
                                    refine (ring_Len.calls x5278 t5303.2 t4943.2.1 t4943.2.2.1 t4943.2.2.2.1 t4943.2.2.2.2.1 g4956 g4958 A4968 ((t4943.2.2.2.2.2.2.2.2.2.2.1).length) n4970 t5328 _ ⟨HGl0.out.pass HS.out⟩ ⟨HS.out.begin⟩ HA5329).mono ?_
                                    rintro e_ w5330 ⟨rfl, hS⟩
                                    replace HS : Aside0 (Sep (fps []) w [b7 g4956 g4958 t4943.2.1 t4943.2.2.1 t4943.2.2.2.1 t4943.2.2.2.2.1, b6 g4958 A4968 ((t4943.2.2.2.2.2.2.2.2.2.2.1).length) n4970 t5328.2, r5 A4968 ((t4943.2.2.2.2.2.2.2.2.2.2.1).length) n4970 x5278] w5330) := ⟨HS.out.call hS⟩
                                    clear hS
                                    replace HS : Aside0 (Sep (fps []) w [] w5330) := ⟨HS.out.sub (.cons _ (.cons _ (.cons _ .slnil)))⟩
                                    go_wp2_with fail
                                    go_ret
                                    rw [← some_eq H]
                                    exact ⟨(by first | rfl | (simp [IntKind.wrap_u32]; done)), HS.out⟩
                                  · replace H := if_no c5306 H
                                    have c5306b0 : (t5303.1 == (wrap64 (1 - t5169.1))) = false := beq_eq_false_iff_ne.mpr c5306
                                    have c5306b1 : (t5303.1 != (wrap64 (1 - t5169.1))) = true := bne_iff_ne.mpr c5306
                                    clear c5306
                                    replace HS : Aside0 (Sep (fps []) w [] w5305) := ⟨HS.out.sub (.cons _ (.cons _ (.cons _ .slnil)))⟩
                                    go_wp2_with fail
                                    go_ret
                                    rw [← some_eq H]
                                    exact ⟨(by first | rfl | (simp [IntKind.wrap_u32]; done)), HS.out⟩
                                · replace H := if_no c5302 H
                                  have c5302b0 : t5299 = false := by simpa using c5302
                                  have c5302b1 : (!t5299) = true := by rw [c5302b0]; rfl
                                  clear c5302
                                  replace HS : Aside0 (Sep (fps []) w [] w5301) := ⟨HS.out.sub (.cons _ (.cons _ (.cons _ .slnil)))⟩
                                  go_wp2_with fail
                                  go_ret
                                  rw [← some_eq H]
                                  exact ⟨(by first | rfl | (simp [IntKind.wrap_u32]; done)), HS.out⟩
            · replace H := if_no c4977 H
              have c4977b0 : a6 = false := by simpa using c4977
              have c4977b1 : (!a6) = true := by rw [c4977b0]; rfl
              clear c4977
              replace HS : Aside0 (Sep (fps []) w [b7 g4956 g4958 t4943.2.1 t4943.2.2.1 t4943.2.2.2.1 t4943.2.2.2.2.1, b6 g4958 A4968 ((t4943.2.2.2.2.2.2.2.2.2.2.1).length) n4970 t4943.2.2.2.2.2.1, r5 A4968 ((t4943.2.2.2.2.2.2.2.2.2.2.1).length) n4970 t4943.2.2.2.2.2.2.2.2.2.2.1] w4947) := ⟨HS.out.sub (.cons_cons _ (.cons _ (.cons_cons _ (.cons _ (.cons _ (.cons _ (.cons_cons _ (.cons _ .slnil))))))))⟩
              go_wp2_with fail
              obtain ⟨t4981, HA5498, H⟩ := bind_some H
              refine (tint_Begin.calls _ t4943.2.2.2.2.2.2.2.2.2.2.1 t4943.2.2.2.2.2.1 t4943.2.1 t4943.2.2.1 t4943.2.2.2.1 t4943.2.2.2.2.1 2 g4956 g4958 A4968 ((t4943.2.2.2.2.2.2.2.2.2.2.1).length) n4970 t4981 _ ⟨HGl0.out.pass HS.out⟩ ⟨HS.out.begin⟩ HA5498).mono ?_
              rintro e_ w5499 ⟨rfl, hS⟩
              replace HS : Aside0 (Sep (fps []) w [b7 g4956 g4958 t4943.2.1 t4943.2.2.1 t4943.2.2.2.1 t4943.2.2.2.2.1, b6 g4958 A4968 ((t4943.2.2.2.2.2.2.2.2.2.2.1).length) n4970 t4981.2.1, r5 A4968 ((t4943.2.2.2.2.2.2.2.2.2.2.1).length) n4970 t4981.2.2] w5499) := ⟨HS.out.call hS⟩
              clear hS
              go_wp2_with fail
              obtain ⟨o5533, AL5534, H⟩ := bind_some H
              go_loopg [10] k (fun kq v10 wc => ∃ (x5537 : Int) (x5538 : List Int) (x5539 : Int), v10 = .int .i64 x5537 ∧ Aside0 (quitrentlaw13_TintTurns.lo3 kq a1 t4943 x5537 x5538 x5539 = some o5533) ∧ Aside0 (Sep (fps []) w [b7 g4956 g4958 t4943.2.1 t4943.2.2.1 t4943.2.2.2.1 t4943.2.2.2.2.1, b6 g4958 A4968 ((t4943.2.2.2.2.2.2.2.2.2.2.1).length) n4970 x5539, r5 A4968 ((t4943.2.2.2.2.2.2.2.2.2.2.1).length) n4970 x5538] wc))
              case atStart => exact ⟨(0), (t4981.2.2), (t4981.2.1), (by first | rfl | (simp [IntKind.wrap_u32]; done)), AL5534, ⟨HS.out⟩⟩
              case round =>
                clear AL5534 HS
                obtain ⟨x5537, x5538, x5539, rfl, AL5534, HS⟩ := hrel
                obtain ⟨w5535, rfl⟩ : ∃ x : World, x = wr := ⟨_, rfl⟩
                cases gk with
                | zero => exact absurd AL5534.out (by simp [quitrentlaw13_TintTurns.lo3])
                | succ k5536 =>
                  have AL0 := AL5534.out
                  rw [quitrentlaw13_TintTurns.lo3] at AL0
                  clear AL5534
                  have AL5534 := Aside0.mk AL0
                  clear AL0
                  by_cases c5540 : x5537 < (wrap64 (a1))
                  · replace AL5534 := if_yes c5540 AL5534
                    have c5540b0 : decide (x5537 < (wrap64 (a1))) = true := decide_eq_true c5540
                    clear c5540
                    go_wp2_with fail
                    obtain ⟨t4991, HA5541, AL5534⟩ := bind_some AL5534
                    refine (obj_Make.calls _ x5538 x5539 t4943.2.1 t4943.2.2.1 t4943.2.2.2.1 t4943.2.2.2.2.1 1 0 g4956 g4958 A4968 ((t4943.2.2.2.2.2.2.2.2.2.2.1).length) n4970 t4991 _ ⟨HGl0.out.pass HS.out⟩ ⟨HS.out.begin⟩ HA5541).mono ?_
                    rintro e_ w5542 ⟨rfl, hS⟩
                    replace HS : Aside0 (Sep (fps []) w [b7 g4956 g4958 t4943.2.1 t4943.2.2.1 t4943.2.2.2.1 t4943.2.2.2.2.1, b6 g4958 A4968 ((t4943.2.2.2.2.2.2.2.2.2.2.1).length) n4970 t4991.2.2.1, r5 A4968 ((t4943.2.2.2.2.2.2.2.2.2.2.1).length) n4970 t4991.2.2.2] w5542) := ⟨HS.out.call hS⟩
                    clear hS
                    by_cases c5543 : t4991.2.1 = 0
                    · replace AL5534 := if_yes c5543 AL5534
                      have c5543b0 : (t4991.2.1 == 0) = true := beq_iff_eq.mpr c5543
                      have c5543b1 : (t4991.2.1 != 0) = false := bne_eq_false_iff_eq.mpr c5543
                      clear c5543
                      go_wp2_with fail
                      obtain ⟨t4995, HA5544, AL5534⟩ := bind_some AL5534
                      refine (tint_Dye.calls _ t4991.2.2.2 t4991.2.2.1 t4943.2.1 t4943.2.2.1 t4943.2.2.2.1 t4943.2.2.2.2.1 t4991.1 g4956 g4958 A4968 ((t4943.2.2.2.2.2.2.2.2.2.2.1).length) n4970 t4995 _ ⟨HGl0.out.pass HS.out⟩ ⟨HS.out.begin⟩ HA5544).mono ?_
                      rintro e_ w5545 ⟨rfl, hS⟩
                      replace HS : Aside0 (Sep (fps []) w [b7 g4956 g4958 t4943.2.1 t4943.2.2.1 t4943.2.2.2.1 t4943.2.2.2.2.1, b6 g4958 A4968 ((t4943.2.2.2.2.2.2.2.2.2.2.1).length) n4970 t4995.2.1, r5 A4968 ((t4943.2.2.2.2.2.2.2.2.2.2.1).length) n4970 t4995.2.2] w5545) := ⟨HS.out.call hS⟩
                      clear hS
                      by_cases c5546 : t4995.1 = true
                      · replace AL5534 := if_yes c5546 AL5534
                        have c5546b0 : t4995.1 = true := c5546
                        have c5546b1 : (!t4995.1) = false := by rw [c5546b0]; rfl
                        try rw [c5546b1]
                        clear c5546
                        go_wp2_with fail
                        obtain ⟨t5103, HA5547, AL5534⟩ := bind_some AL5534
                        refine (tint_Counted.calls t4995.2.2 t4995.2.1 t4943.2.1 t4943.2.2.1 t4943.2.2.2.1 t4943.2.2.2.2.1 t4991.1 0 g4956 g4958 A4968 ((t4943.2.2.2.2.2.2.2.2.2.2.1).length) n4970 t5103 _ ⟨HGl0.out.pass HS.out⟩ ⟨HS.out.begin⟩ HA5547).mono ?_
                        rintro e_ w5548 ⟨rfl, hS⟩
                        replace HS : Aside0 (Sep (fps []) w [b7 g4956 g4958 t4943.2.1 t4943.2.2.1 t4943.2.2.2.1 t4943.2.2.2.2.1, b6 g4958 A4968 ((t4943.2.2.2.2.2.2.2.2.2.2.1).length) n4970 t5103.2, r5 A4968 ((t4943.2.2.2.2.2.2.2.2.2.2.1).length) n4970 t4995.2.2] w5548) := ⟨HS.out.call hS⟩
                        clear hS
                        by_cases c5549 : t5103.1 = true
                        · replace AL5534 := if_yes c5549 AL5534
                          have c5549b0 : t5103.1 = true := c5549
                          have c5549b1 : (!t5103.1) = false := by rw [c5549b0]; rfl
                          try rw [c5549b1]
                          clear c5549
                          go_wp2_with fail
                          go_roundg k5536
                          case measure => exact Nat.lt_succ_self _
                          case rel => exact ⟨(wrap64 (x5537 + 1)), (t4995.2.2), (t5103.2), (by first | rfl | (simp [IntKind.wrap_u32]; done)), Aside0.mk AL5534.out, ⟨HS.out⟩⟩
                        · replace AL5534 := if_no c5549 AL5534
                          have c5549b0 : t5103.1 = false := by simpa using c5549
                          have c5549b1 : (!t5103.1) = true := by rw [c5549b0]; rfl
                          try rw [c5549b1]
                          clear c5549
                          go_wp2_with fail
                          have ho := some_eq AL5534
                          subst ho
                          have H := lp_ret H
                          go_ret
                          rw [← some_eq H]
                          exact ⟨(by first | rfl | (simp [IntKind.wrap_u32]; done)), HS.out.sub (.cons _ (.cons _ (.cons _ .slnil)))⟩
                      · replace AL5534 := if_no c5546 AL5534
                        have c5546b0 : t4995.1 = false := by simpa using c5546
                        have c5546b1 : (!t4995.1) = true := by rw [c5546b0]; rfl
                        try rw [c5546b1]
                        clear c5546
                        go_wp2_with fail
                        have ho := some_eq AL5534
                        subst ho
                        have H := lp_ret H
                        go_ret
                        rw [← some_eq H]
                        exact ⟨(by first | rfl | (simp [IntKind.wrap_u32]; done)), HS.out.sub (.cons _ (.cons _ (.cons _ .slnil)))⟩
                    · replace AL5534 := if_no c5543 AL5534
                      have c5543b0 : (t4991.2.1 == 0) = false := beq_eq_false_iff_ne.mpr c5543
                      have c5543b1 : (t4991.2.1 != 0) = true := bne_iff_ne.mpr c5543
                      clear c5543
                      go_wp2_with fail
                      have ho := some_eq AL5534
                      subst ho
                      have H := lp_ret H
                      go_ret
                      rw [← some_eq H]
                      exact ⟨(by first | rfl | (simp [IntKind.wrap_u32]; done)), HS.out.sub (.cons _ (.cons _ (.cons _ .slnil)))⟩
                  · replace AL5534 := if_no c5540 AL5534
                    have c5540b0 : decide (x5537 < (wrap64 (a1))) = false := decide_eq_false c5540
                    clear c5540
                    have ho := some_eq AL5534
                    subst ho
                    clear AL5534
                    have H := lp_out H
                    go_wp2_with fail
                    obtain ⟨o5563, AL5564, H⟩ := bind_some H
                    go_loopg [71] k (fun kq v71 wc => ∃ (x5567 : Int) (x5568 : List Int) (x5569 : Int), v71 = .int .i64 x5567 ∧ Aside0 (quitrentlaw13_TintTurns.lo4 kq a1 l2 t4943 x5567 x5568 x5569 = some o5563) ∧ Aside0 (Sep (fps []) w [b7 g4956 g4958 t4943.2.1 t4943.2.2.1 t4943.2.2.2.1 t4943.2.2.2.2.1, b6 g4958 A4968 ((t4943.2.2.2.2.2.2.2.2.2.2.1).length) n4970 x5569, r5 A4968 ((t4943.2.2.2.2.2.2.2.2.2.2.1).length) n4970 x5568] wc))
                    case atStart => exact ⟨(0), (x5538), (x5539), (by first | rfl | (simp [IntKind.wrap_u32]; done)), AL5564, ⟨HS.out⟩⟩
                    case round =>
                      clear AL5564 HS
                      obtain ⟨x5567, x5568, x5569, rfl, AL5564, HS⟩ := hrel
                      obtain ⟨w5565, rfl⟩ : ∃ x : World, x = wr := ⟨_, rfl⟩
                      cases gk with
                      | zero => exact absurd AL5564.out (by simp [quitrentlaw13_TintTurns.lo4])
                      | succ k5566 =>
                        have AL0 := AL5564.out
                        rw [quitrentlaw13_TintTurns.lo4] at AL0
                        clear AL5564
                        have AL5564 := Aside0.mk AL0
                        clear AL0
                        by_cases c5570 : x5567 < (l2.length : Int)
                        · replace AL5564 := if_yes c5570 AL5564
                          have c5570b0 : decide (x5567 < (l2.length : Int)) = true := decide_eq_true c5570
                          clear c5570
                          by_cases c5571 : 0 ≤ x5567
                          · replace AL5564 := if_yes c5571 AL5564
                            have c5571b0 : decide (0 ≤ x5567) = true := decide_eq_true c5571
                            have c5571p : (0 ≤ x5567) = True := eq_true c5571
                            clear c5571
                            have ip5572 : (x5567 < (l2.length : Int)) = True := eq_true (of_decide_eq_true c5570b0)
                            by_cases c5574 : a1 = 0
                            · replace AL5564 := if_yes c5574 AL5564
                              have c5574b0 : (a1 == 0) = true := beq_iff_eq.mpr c5574
                              have c5574b1 : (a1 != 0) = false := bne_eq_false_iff_eq.mpr c5574
                              exact (none_no AL5564).elim
                            · replace AL5564 := if_no c5574 AL5564
                              have c5574b0 : (a1 == 0) = false := beq_eq_false_iff_ne.mpr c5574
                              have c5574b1 : (a1 != 0) = true := bne_iff_ne.mpr c5574
                              obtain ⟨hx5573a, hx5573e, hx5573⟩ := Kd.at_int (Rd.read (fun _ _ _ _ h => h) HR5.out HS.out.fr) x5567 (of_decide_eq_true c5571b0) (of_decide_eq_true c5570b0); cases hx5573e
                              skip
                              go_wp2_with fail
                              clear hx5573 c5574
                              obtain ⟨t5152, HA5575, AL5564⟩ := bind_some AL5564
                              refine (tint_Deepen.calls _ x5568 x5569 t4943.2.1 t4943.2.2.1 t4943.2.2.2.1 t4943.2.2.2.2.1 (wrap64 ((wrap64 (Int.tmod (rd l2 x5567) a1)) + 1)) g4956 g4958 A4968 ((t4943.2.2.2.2.2.2.2.2.2.2.1).length) n4970 t5152 _ ⟨HGl0.out.pass HS.out⟩ ⟨HS.out.begin⟩ HA5575).mono ?_
                              rintro e_ w5576 ⟨rfl, hS⟩
                              replace HS : Aside0 (Sep (fps []) w [b7 g4956 g4958 t4943.2.1 t4943.2.2.1 t4943.2.2.2.1 t4943.2.2.2.2.1, b6 g4958 A4968 ((t4943.2.2.2.2.2.2.2.2.2.2.1).length) n4970 t5152.2.1, r5 A4968 ((t4943.2.2.2.2.2.2.2.2.2.2.1).length) n4970 t5152.2.2] w5576) := ⟨HS.out.call hS⟩
                              clear hS
                              go_wp2_with fail
                              go_roundg k5566
                              case measure => exact Nat.lt_succ_self _
                              case rel => exact ⟨(wrap64 (x5567 + 1)), (t5152.2.2), (t5152.2.1), (by first | rfl | (simp [IntKind.wrap_u32]; done)), Aside0.mk AL5564.out, ⟨HS.out⟩⟩
                          · replace AL5564 := if_no c5571 AL5564
                            have c5571b0 : decide (0 ≤ x5567) = false := decide_eq_false c5571
                            clear c5571
                            exact (none_no AL5564).elim
                        · replace AL5564 := if_no c5570 AL5564
                          have c5570b0 : decide (x5567 < (l2.length : Int)) = false := decide_eq_false c5570
                          clear c5570
                          have ho := some_eq AL5564
                          subst ho
                          clear AL5564
                          go_wp2_with fail
                          obtain ⟨t5169, HA5577, H⟩ := bind_some H
                          refine (tint_Parity.calls x5568 x5569 t4943.2.1 t4943.2.2.1 t4943.2.2.2.1 t4943.2.2.2.2.1 g4956 g4958 A4968 ((t4943.2.2.2.2.2.2.2.2.2.2.1).length) n4970 t5169 _ ⟨HGl0.out.pass HS.out⟩ ⟨HS.out.begin⟩ HA5577).mono ?_
                          rintro e_ w5578 ⟨rfl, hS⟩
                          replace HS : Aside0 (Sep (fps []) w [b7 g4956 g4958 t4943.2.1 t4943.2.2.1 t4943.2.2.2.1 t4943.2.2.2.2.1, b6 g4958 A4968 ((t4943.2.2.2.2.2.2.2.2.2.2.1).length) n4970 t5169.2, r5 A4968 ((t4943.2.2.2.2.2.2.2.2.2.2.1).length) n4970 x5568] w5578) := ⟨HS.out.call hS⟩
                          clear hS
                          go_wp2_with fail
                          obtain ⟨t5172, HA5579, H⟩ := bind_some H
                          refine (tint_Turn.calls x5568 t5169.2 t4943.2.1 t4943.2.2.1 t4943.2.2.2.1 t4943.2.2.2.2.1 g4956 g4958 A4968 ((t4943.2.2.2.2.2.2.2.2.2.2.1).length) n4970 t5172 _ ⟨HGl0.out.pass HS.out⟩ ⟨HS.out.begin⟩ HA5579).mono ?_
                          rintro e_ w5580 ⟨rfl, hS⟩
                          replace HS : Aside0 (Sep (fps []) w [b7 g4956 g4958 t4943.2.1 t4943.2.2.1 t4943.2.2.2.1 t4943.2.2.2.2.1, b6 g4958 A4968 ((t4943.2.2.2.2.2.2.2.2.2.2.1).length) n4970 t5172.1, r5 A4968 ((t4943.2.2.2.2.2.2.2.2.2.2.1).length) n4970 t5172.2] w5580) := ⟨HS.out.call hS⟩
                          clear hS
                          go_wp2_with fail
                          obtain ⟨o5615, AL5616, H⟩ := bind_some H
                          go_loopg [16] k (fun kq v16 wc => ∃ (x5619 : Int) (x5620 : List Int) (x5621 : Int), v16 = .int .i64 x5619 ∧ Aside0 (quitrentlaw13_TintTurns.lo5 kq a1 t4943 x5619 x5620 x5621 = some o5615) ∧ Aside0 (Sep (fps []) w [b7 g4956 g4958 t4943.2.1 t4943.2.2.1 t4943.2.2.2.1 t4943.2.2.2.2.1, b6 g4958 A4968 ((t4943.2.2.2.2.2.2.2.2.2.2.1).length) n4970 x5621, r5 A4968 ((t4943.2.2.2.2.2.2.2.2.2.2.1).length) n4970 x5620] wc))
                          case atStart => exact ⟨(1), (t5172.2), (t5172.1), (by first | rfl | (simp [IntKind.wrap_u32]; done)), AL5616, ⟨HS.out⟩⟩
                          case round =>
                            clear AL5616 HS
                            obtain ⟨x5619, x5620, x5621, rfl, AL5616, HS⟩ := hrel
                            obtain ⟨w5617, rfl⟩ : ∃ x : World, x = wr := ⟨_, rfl⟩
                            cases gk with
                            | zero => exact absurd AL5616.out (by simp [quitrentlaw13_TintTurns.lo5])
                            | succ k5618 =>
                              have AL0 := AL5616.out
                              rw [quitrentlaw13_TintTurns.lo5] at AL0
                              clear AL5616
                              have AL5616 := Aside0.mk AL0
                              clear AL0
                              by_cases c5622 : x5619 ≤ (wrap64 (a1))
                              · replace AL5616 := if_yes c5622 AL5616
                                have c5622b0 : decide (x5619 ≤ (wrap64 (a1))) = true := decide_eq_true c5622
                                clear c5622
                                go_wp2_with fail
                                obtain ⟨t5182, HA5623, AL5616⟩ := bind_some AL5616
                                refine (tint_Black.calls x5620 x5621 t4943.2.1 t4943.2.2.1 t4943.2.2.2.1 t4943.2.2.2.2.1 x5619 g4956 g4958 A4968 ((t4943.2.2.2.2.2.2.2.2.2.2.1).length) n4970 t5182 _ ⟨HGl0.out.pass HS.out⟩ ⟨HS.out.begin⟩ HA5623).mono ?_
                                rintro e_ w5624 ⟨rfl, hS⟩
                                replace HS : Aside0 (Sep (fps []) w [b7 g4956 g4958 t4943.2.1 t4943.2.2.1 t4943.2.2.2.1 t4943.2.2.2.2.1, b6 g4958 A4968 ((t4943.2.2.2.2.2.2.2.2.2.2.1).length) n4970 t5182.2, r5 A4968 ((t4943.2.2.2.2.2.2.2.2.2.2.1).length) n4970 x5620] w5624) := ⟨HS.out.call hS⟩
                                clear hS
                                by_cases c5625 : t5182.1 = true
                                · replace AL5616 := if_yes c5625 AL5616
                                  have c5625b0 : t5182.1 = true := c5625
                                  have c5625b1 : (!t5182.1) = false := by rw [c5625b0]; rfl
                                  clear c5625
                                  go_wp2_with fail
                                  have ho := some_eq AL5616
                                  subst ho
                                  have H := lp_ret H
                                  go_ret
                                  rw [← some_eq H]
                                  exact ⟨(by first | rfl | (simp [IntKind.wrap_u32]; done)), HS.out.sub (.cons _ (.cons _ (.cons _ .slnil)))⟩
                                · replace AL5616 := if_no c5625 AL5616
                                  have c5625b0 : t5182.1 = false := by simpa using c5625
                                  have c5625b1 : (!t5182.1) = true := by rw [c5625b0]; rfl
                                  clear c5625
                                  go_wp2_with fail
                                  obtain ⟨t5195, HA5626, AL5616⟩ := bind_some AL5616
                                  refine (tint_Counted.calls x5620 t5182.2 t4943.2.1 t4943.2.2.1 t4943.2.2.2.1 t4943.2.2.2.2.1 x5619 0 g4956 g4958 A4968 ((t4943.2.2.2.2.2.2.2.2.2.2.1).length) n4970 t5195 _ ⟨HGl0.out.pass HS.out⟩ ⟨HS.out.begin⟩ HA5626).mono ?_
                                  rintro e_ w5627 ⟨rfl, hS⟩
                                  replace HS : Aside0 (Sep (fps []) w [b7 g4956 g4958 t4943.2.1 t4943.2.2.1 t4943.2.2.2.1 t4943.2.2.2.2.1, b6 g4958 A4968 ((t4943.2.2.2.2.2.2.2.2.2.2.1).length) n4970 t5195.2, r5 A4968 ((t4943.2.2.2.2.2.2.2.2.2.2.1).length) n4970 x5620] w5627) := ⟨HS.out.call hS⟩
                                  clear hS
                                  by_cases c5628 : t5195.1 = true
                                  · replace AL5616 := if_yes c5628 AL5616
                                    have c5628b0 : t5195.1 = true := c5628
                                    have c5628b1 : (!t5195.1) = false := by rw [c5628b0]; rfl
                                    clear c5628
                                    go_wp2_with fail
                                    have ho := some_eq AL5616
                                    subst ho
                                    have H := lp_ret H
                                    go_ret
                                    rw [← some_eq H]
                                    exact ⟨(by first | rfl | (simp [IntKind.wrap_u32]; done)), HS.out.sub (.cons _ (.cons _ (.cons _ .slnil)))⟩
                                  · replace AL5616 := if_no c5628 AL5616
                                    have c5628b0 : t5195.1 = false := by simpa using c5628
                                    have c5628b1 : (!t5195.1) = true := by rw [c5628b0]; rfl
                                    clear c5628
                                    go_wp2_with fail
                                    obtain ⟨t5199, HA5629, AL5616⟩ := bind_some AL5616
                                    refine (tint_Shadow.calls x5620 t5195.2 t4943.2.1 t4943.2.2.1 t4943.2.2.2.1 t4943.2.2.2.2.1 x5619 g4956 g4958 A4968 ((t4943.2.2.2.2.2.2.2.2.2.2.1).length) n4970 t5199 _ ⟨HGl0.out.pass HS.out⟩ ⟨HS.out.begin⟩ HA5629).mono ?_
                                    rintro e_ w5630 ⟨rfl, hS⟩
                                    replace HS : Aside0 (Sep (fps []) w [b7 g4956 g4958 t4943.2.1 t4943.2.2.1 t4943.2.2.2.1 t4943.2.2.2.2.1, b6 g4958 A4968 ((t4943.2.2.2.2.2.2.2.2.2.2.1).length) n4970 t5199.2, r5 A4968 ((t4943.2.2.2.2.2.2.2.2.2.2.1).length) n4970 x5620] w5630) := ⟨HS.out.call hS⟩
                                    clear hS
                                    by_cases c5631 : t5199.1 = 0
                                    · replace AL5616 := if_yes c5631 AL5616
                                      have c5631b0 : (t5199.1 == 0) = true := beq_iff_eq.mpr c5631
                                      have c5631b1 : (t5199.1 != 0) = false := bne_eq_false_iff_eq.mpr c5631
                                      clear c5631
                                      go_wp2_with fail
                                      obtain ⟨t5203, HA5632, AL5616⟩ := bind_some AL5616
                                      refine (tint_Touch.calls _ x5620 t5199.2 t4943.2.1 t4943.2.2.1 t4943.2.2.2.1 t4943.2.2.2.2.1 x5619 g4956 g4958 A4968 ((t4943.2.2.2.2.2.2.2.2.2.2.1).length) n4970 t5203 _ ⟨HGl0.out.pass HS.out⟩ ⟨HS.out.begin⟩ HA5632).mono ?_
                                      rintro e_ w5633 ⟨rfl, hS⟩
                                      replace HS : Aside0 (Sep (fps []) w [b7 g4956 g4958 t4943.2.1 t4943.2.2.1 t4943.2.2.2.1 t4943.2.2.2.2.1, b6 g4958 A4968 ((t4943.2.2.2.2.2.2.2.2.2.2.1).length) n4970 t5203.2.1, r5 A4968 ((t4943.2.2.2.2.2.2.2.2.2.2.1).length) n4970 t5203.2.2] w5633) := ⟨HS.out.call hS⟩
                                      clear hS
                                      by_cases c5634 : t5203.1 = true
                                      · replace AL5616 := if_yes c5634 AL5616
                                        have c5634b0 : t5203.1 = true := c5634
                                        have c5634b1 : (!t5203.1) = false := by rw [c5634b0]; rfl
                                        try rw [c5634b1]
                                        clear c5634
                                        go_wp2_with fail
                                        obtain ⟨t5207, HA5635, AL5616⟩ := bind_some AL5616
                                        refine (tint_Black.calls t5203.2.2 t5203.2.1 t4943.2.1 t4943.2.2.1 t4943.2.2.2.1 t4943.2.2.2.2.1 x5619 g4956 g4958 A4968 ((t4943.2.2.2.2.2.2.2.2.2.2.1).length) n4970 t5207 _ ⟨HGl0.out.pass HS.out⟩ ⟨HS.out.begin⟩ HA5635).mono ?_
                                        rintro e_ w5636 ⟨rfl, hS⟩
                                        replace HS : Aside0 (Sep (fps []) w [b7 g4956 g4958 t4943.2.1 t4943.2.2.1 t4943.2.2.2.1 t4943.2.2.2.2.1, b6 g4958 A4968 ((t4943.2.2.2.2.2.2.2.2.2.2.1).length) n4970 t5207.2, r5 A4968 ((t4943.2.2.2.2.2.2.2.2.2.2.1).length) n4970 t5203.2.2] w5636) := ⟨HS.out.call hS⟩
                                        clear hS
                                        by_cases c5637 : t5207.1 = true
                                        · replace AL5616 := if_yes c5637 AL5616
                                          have c5637b0 : t5207.1 = true := c5637
                                          have c5637b1 : (!t5207.1) = false := by rw [c5637b0]; rfl
                                          try rw [c5637b1]
                                          clear c5637
                                          go_wp2_with fail
                                          obtain ⟨t5269, HA5638, AL5616⟩ := bind_some AL5616
                                          refine (ring_Has.calls t5203.2.2 t5207.2 t4943.2.1 t4943.2.2.1 t4943.2.2.2.1 t4943.2.2.2.2.1 (wrap64 (x5619 - 1)) g4956 g4958 A4968 ((t4943.2.2.2.2.2.2.2.2.2.2.1).length) n4970 t5269 _ ⟨HGl0.out.pass HS.out⟩ ⟨HS.out.begin⟩ HA5638).mono ?_
                                          rintro e_ w5639 ⟨rfl, hS⟩
                                          replace HS : Aside0 (Sep (fps []) w [b7 g4956 g4958 t4943.2.1 t4943.2.2.1 t4943.2.2.2.1 t4943.2.2.2.2.1, b6 g4958 A4968 ((t4943.2.2.2.2.2.2.2.2.2.2.1).length) n4970 t5269.2, r5 A4968 ((t4943.2.2.2.2.2.2.2.2.2.2.1).length) n4970 t5203.2.2] w5639) := ⟨HS.out.call hS⟩
                                          clear hS
                                          by_cases c5640 : t5269.1 = true
                                          · replace AL5616 := if_yes c5640 AL5616
                                            have c5640b0 : t5269.1 = true := c5640
                                            have c5640b1 : (!t5269.1) = false := by rw [c5640b0]; rfl
                                            try rw [c5640b1]
                                            clear c5640
                                            go_wp2_with fail
                                            go_roundg k5618
                                            case measure => exact Nat.lt_succ_self _
                                            case rel => exact ⟨(wrap64 (x5619 + 1)), (t5203.2.2), (t5269.2), (by first | rfl | (simp [IntKind.wrap_u32]; done)), Aside0.mk AL5616.out, ⟨HS.out⟩⟩
                                          · replace AL5616 := if_no c5640 AL5616
                                            have c5640b0 : t5269.1 = false := by simpa using c5640
                                            have c5640b1 : (!t5269.1) = true := by rw [c5640b0]; rfl
                                            try rw [c5640b1]
                                            clear c5640
                                            go_wp2_with fail
                                            have ho := some_eq AL5616
                                            subst ho
                                            have H := lp_ret H
                                            go_ret
                                            rw [← some_eq H]
                                            exact ⟨(by first | rfl | (simp [IntKind.wrap_u32]; done)), HS.out.sub (.cons _ (.cons _ (.cons _ .slnil)))⟩
                                        · replace AL5616 := if_no c5637 AL5616
                                          have c5637b0 : t5207.1 = false := by simpa using c5637
                                          have c5637b1 : (!t5207.1) = true := by rw [c5637b0]; rfl
                                          try rw [c5637b1]
                                          clear c5637
                                          go_wp2_with fail
                                          have ho := some_eq AL5616
                                          subst ho
                                          have H := lp_ret H
                                          go_ret
                                          rw [← some_eq H]
                                          exact ⟨(by first | rfl | (simp [IntKind.wrap_u32]; done)), HS.out.sub (.cons _ (.cons _ (.cons _ .slnil)))⟩
                                      · replace AL5616 := if_no c5634 AL5616
                                        have c5634b0 : t5203.1 = false := by simpa using c5634
                                        have c5634b1 : (!t5203.1) = true := by rw [c5634b0]; rfl
                                        try rw [c5634b1]
                                        clear c5634
                                        go_wp2_with fail
                                        have ho := some_eq AL5616
                                        subst ho
                                        have H := lp_ret H
                                        go_ret
                                        rw [← some_eq H]
                                        exact ⟨(by first | rfl | (simp [IntKind.wrap_u32]; done)), HS.out.sub (.cons _ (.cons _ (.cons _ .slnil)))⟩
                                    · replace AL5616 := if_no c5631 AL5616
                                      have c5631b0 : (t5199.1 == 0) = false := beq_eq_false_iff_ne.mpr c5631
                                      have c5631b1 : (t5199.1 != 0) = true := bne_iff_ne.mpr c5631
                                      clear c5631
                                      go_wp2_with fail
                                      have ho := some_eq AL5616
                                      subst ho
                                      have H := lp_ret H
                                      go_ret
                                      rw [← some_eq H]
                                      exact ⟨(by first | rfl | (simp [IntKind.wrap_u32]; done)), HS.out.sub (.cons _ (.cons _ (.cons _ .slnil)))⟩
                              · replace AL5616 := if_no c5622 AL5616
                                have c5622b0 : decide (x5619 ≤ (wrap64 (a1))) = false := decide_eq_false c5622
                                clear c5622
                                have ho := some_eq AL5616
                                subst ho
                                clear AL5616
                                have H := lp_out H
                                go_wp2_with fail
                                obtain ⟨t5299, HA5641, H⟩ := bind_some H
                                refine (quitrentlaw13_begun.calls _ t5299 _ ⟨HGl0.out.pass (l := []) HS.out⟩ ⟨Sep.start _⟩ HA5641).mono ?_
                                rintro e_ w5642 ⟨rfl, hS⟩
                                replace HS : Aside0 (Sep (fps []) w [b7 g4956 g4958 t4943.2.1 t4943.2.2.1 t4943.2.2.2.1 t4943.2.2.2.2.1, b6 g4958 A4968 ((t4943.2.2.2.2.2.2.2.2.2.2.1).length) n4970 x5621, r5 A4968 ((t4943.2.2.2.2.2.2.2.2.2.2.1).length) n4970 x5620] w5642) := ⟨HS.out.call hS⟩
                                clear hS
                                by_cases c5643 : t5299 = true
                                · replace H := if_yes c5643 H
                                  have c5643b0 : t5299 = true := c5643
                                  have c5643b1 : (!t5299) = false := by rw [c5643b0]; rfl
                                  clear c5643
                                  go_wp2_with fail
                                  obtain ⟨t5303, HA5644, H⟩ := bind_some H
                                  refine (tint_Parity.calls x5620 x5621 t4943.2.1 t4943.2.2.1 t4943.2.2.2.1 t4943.2.2.2.2.1 g4956 g4958 A4968 ((t4943.2.2.2.2.2.2.2.2.2.2.1).length) n4970 t5303 _ ⟨HGl0.out.pass HS.out⟩ ⟨HS.out.begin⟩ HA5644).mono ?_
                                  rintro e_ w5645 ⟨rfl, hS⟩
                                  replace HS : Aside0 (Sep (fps []) w [b7 g4956 g4958 t4943.2.1 t4943.2.2.1 t4943.2.2.2.1 t4943.2.2.2.2.1, b6 g4958 A4968 ((t4943.2.2.2.2.2.2.2.2.2.2.1).length) n4970 t5303.2, r5 A4968 ((t4943.2.2.2.2.2.2.2.2.2.2.1).length) n4970 x5620] w5645) := ⟨HS.out.call hS⟩
                                  clear hS
                                  by_cases c5646 : t5303.1 = (wrap64 (1 - t5169.1))
                                  · replace H := if_yes c5646 H
                                    have c5646b0 : (t5303.1 == (wrap64 (1 - t5169.1))) = true := beq_iff_eq.mpr c5646
                                    have c5646b1 : (t5303.1 != (wrap64 (1 - t5169.1))) = false := bne_eq_false_iff_eq.mpr c5646
                                    clear c5646
                                    go_wp2_with fail
                                    obtain ⟨t5328, HA5647, H⟩ := bind_some H
                                    refine (ring_Len.calls x5620 t5303.2 t4943.2.1 t4943.2.2.1 t4943.2.2.2.1 t4943.2.2.2.2.1 g4956 g4958 A4968 ((t4943.2.2.2.2.2.2.2.2.2.2.1).length) n4970 t5328 _ ⟨HGl0.out.pass HS.out⟩ ⟨HS.out.begin⟩ HA5647).mono ?_
                                    rintro e_ w5648 ⟨rfl, hS⟩
                                    replace HS : Aside0 (Sep (fps []) w [b7 g4956 g4958 t4943.2.1 t4943.2.2.1 t4943.2.2.2.1 t4943.2.2.2.2.1, b6 g4958 A4968 ((t4943.2.2.2.2.2.2.2.2.2.2.1).length) n4970 t5328.2, r5 A4968 ((t4943.2.2.2.2.2.2.2.2.2.2.1).length) n4970 x5620] w5648) := ⟨HS.out.call hS⟩
                                    clear hS
                                    replace HS : Aside0 (Sep (fps []) w [] w5648) := ⟨HS.out.sub (.cons _ (.cons _ (.cons _ .slnil)))⟩
                                    go_wp2_with fail
                                    go_ret
                                    rw [← some_eq H]
                                    exact ⟨(by first | rfl | (simp [IntKind.wrap_u32]; done)), HS.out⟩
                                  · replace H := if_no c5646 H
                                    have c5646b0 : (t5303.1 == (wrap64 (1 - t5169.1))) = false := beq_eq_false_iff_ne.mpr c5646
                                    have c5646b1 : (t5303.1 != (wrap64 (1 - t5169.1))) = true := bne_iff_ne.mpr c5646
                                    clear c5646
                                    replace HS : Aside0 (Sep (fps []) w [] w5645) := ⟨HS.out.sub (.cons _ (.cons _ (.cons _ .slnil)))⟩
                                    go_wp2_with fail
                                    go_ret
                                    rw [← some_eq H]
                                    exact ⟨(by first | rfl | (simp [IntKind.wrap_u32]; done)), HS.out⟩
                                · replace H := if_no c5643 H
                                  have c5643b0 : t5299 = false := by simpa using c5643
                                  have c5643b1 : (!t5299) = true := by rw [c5643b0]; rfl
                                  clear c5643
                                  replace HS : Aside0 (Sep (fps []) w [] w5642) := ⟨HS.out.sub (.cons _ (.cons _ (.cons _ .slnil)))⟩
                                  go_wp2_with fail
                                  go_ret
                                  rw [← some_eq H]
                                  exact ⟨(by first | rfl | (simp [IntKind.wrap_u32]; done)), HS.out⟩
          · replace H := if_no c4976 H
            have c4976b0 : t4943.1 = false := by simpa using c4976
            have c4976b1 : (!t4943.1) = true := by rw [c4976b0]; rfl
            try rw [c4976b1]
            clear c4976
            replace HS : Aside0 (Sep (fps []) w [b7 g4956 g4958 t4943.2.1 t4943.2.2.1 t4943.2.2.2.1 t4943.2.2.2.2.1, b6 g4958 A4968 ((t4943.2.2.2.2.2.2.2.2.2.2.1).length) n4970 t4943.2.2.2.2.2.1, r5 A4968 ((t4943.2.2.2.2.2.2.2.2.2.2.1).length) n4970 t4943.2.2.2.2.2.2.2.2.2.2.1] w4947) := ⟨HS.out.sub (.cons_cons _ (.cons _ (.cons_cons _ (.cons _ (.cons _ (.cons _ (.cons_cons _ (.cons _ .slnil))))))))⟩
            replace HS : Aside0 (Sep (fps []) w [] w4947) := ⟨HS.out.sub (.cons _ (.cons _ (.cons _ .slnil)))⟩
            go_wp2_with fail
            go_ret
            rw [← some_eq H]
            exact ⟨(by first | rfl | (simp [IntKind.wrap_u32]; done)), HS.out⟩
end Go.Proofs.YtobeonkddamnoaaGreatDoor.C

/- The laws of the group PoN on the plain functions. No condition. -/
import Derived.Test.YtobeonkddamnoaaMPo
import Derived.DataShut
import Derived.Laws.Bits64
import Derived.Laws.BitsLemmas
import Derived.RowKit
import Derived.KernelRfl
namespace Go.Proofs.Ytobeonkddamnoaa.V
open Go.RowKit Go.Proofs.Ytobeonkddamnoaa.C Go.Proofs.Ytobeonkddamnoaa.M Go.Proofs.YtobeonkddamnoaaW.PrintWords
theorem begun : quitrentlaw10_begun.f 300 = some true := by decide +kernel
/-- What PoolNobody asks of a pool of m + 1 blocks, for each block that there is. -/
def chk (m : Nat) : Bool :=
  match ground_New.f 300 ((m : Int) + 1) 16 1 1 with
  | some (.inr (.inl (N, W, R, K, ws))) =>
    match pool_Open.f 300 ws 0 N W R K with
    | some (o1, me, l) => o1 && (match pool_Open.f 300 l me N W R K with
       | some (o2, me2, l2) => !o2 && (match pool_Len.f l2 me2 N W R K with
          | some (c, me3) => c == (m : Int) + 1 && N == (m : Int) + 1 && (List.range (m + 1)).all fun b => match pool_Give.f l2 me3 N W R K (b : Int) with
            | some (g, _, _) => !g
            | none => false
          | none => false)
       | none => false)
    | none => false
  | _ => false
set_option maxHeartbeats 4000000 in
theorem chk0 : (List.range' 0 10).all chk = true := by kernel_rfl
set_option maxHeartbeats 4000000 in
theorem chk1 : (List.range' 10 8).all chk = true := by kernel_rfl
set_option maxHeartbeats 4000000 in
theorem chk2 : (List.range' 18 6).all chk = true := by kernel_rfl
set_option maxHeartbeats 4000000 in
theorem chk3 : (List.range' 24 5).all chk = true := by kernel_rfl
set_option maxHeartbeats 4000000 in
theorem chk4 : (List.range' 29 4).all chk = true := by kernel_rfl
set_option maxHeartbeats 4000000 in
theorem chk5 : (List.range' 33 4).all chk = true := by kernel_rfl
set_option maxHeartbeats 4000000 in
theorem chk6 : (List.range' 37 3).all chk = true := by kernel_rfl
set_option maxHeartbeats 4000000 in
theorem chk7 : (List.range' 40 3).all chk = true := by kernel_rfl
set_option maxHeartbeats 4000000 in
theorem chk8 : (List.range' 43 3).all chk = true := by kernel_rfl
set_option maxHeartbeats 4000000 in
theorem chk9 : (List.range' 46 2).all chk = true := by kernel_rfl
set_option maxHeartbeats 4000000 in
theorem chk10 : (List.range' 48 2).all chk = true := by kernel_rfl
theorem chk_all (m : Nat) (hm : m < 50) : chk m = true := by
  rcases Nat.lt_or_ge m 10 with h0 | h0
  · exact List.all_eq_true.1 chk0 m (List.mem_range'_1.2 (by omega))
  rcases Nat.lt_or_ge m 18 with h1 | h1
  · exact List.all_eq_true.1 chk1 m (List.mem_range'_1.2 (by omega))
  rcases Nat.lt_or_ge m 24 with h2 | h2
  · exact List.all_eq_true.1 chk2 m (List.mem_range'_1.2 (by omega))
  rcases Nat.lt_or_ge m 29 with h3 | h3
  · exact List.all_eq_true.1 chk3 m (List.mem_range'_1.2 (by omega))
  rcases Nat.lt_or_ge m 33 with h4 | h4
  · exact List.all_eq_true.1 chk4 m (List.mem_range'_1.2 (by omega))
  rcases Nat.lt_or_ge m 37 with h5 | h5
  · exact List.all_eq_true.1 chk5 m (List.mem_range'_1.2 (by omega))
  rcases Nat.lt_or_ge m 40 with h6 | h6
  · exact List.all_eq_true.1 chk6 m (List.mem_range'_1.2 (by omega))
  rcases Nat.lt_or_ge m 43 with h7 | h7
  · exact List.all_eq_true.1 chk7 m (List.mem_range'_1.2 (by omega))
  rcases Nat.lt_or_ge m 46 with h8 | h8
  · exact List.all_eq_true.1 chk8 m (List.mem_range'_1.2 (by omega))
  rcases Nat.lt_or_ge m 48 with h9 | h9
  · exact List.all_eq_true.1 chk9 m (List.mem_range'_1.2 (by omega))
  rcases Nat.lt_or_ge m 50 with h10 | h10
  · exact List.all_eq_true.1 chk10 m (List.mem_range'_1.2 (by omega))
  omega
theorem give_out (l : List Int) (me N W R K b : Int) (hb : b < 0 ∨ N ≤ b) : ∃ me' l', pool_Give.f l me N W R K b = some (false, me', l') := by
  have hw : ground_within.f b N 0 = some (-1) := by
    unfold ground_within.f
    by_cases h : b < 0
    · rw [if_pos h]
    · rw [if_neg h, if_pos (by omega)]
  refine ⟨me, l, ?_⟩
  unfold pool_Give.f ground_Ground_Word.f ground_Ground_all.f ground_Ground_word.f ground_Ground_Conf.f
  simp only [Option.bind_some]
  rw [hw]
  simp only [Option.bind_some, if_true]
  unfold store_Store_Get.f store_Store_has.f
  rw [if_neg (by decide)]
  simp only [Option.bind_some]
  rw [if_neg (by decide)]
  simp only [Option.bind_some]
  rw [show tag_Unpack.f 0 = some (0, 0, 0, 0, 0, 0, 0) by kernel_rfl]
  simp
theorem PoolNobody (b n : Int) (_ : (Lit.int .i64 b).wf = true) (hn : (Lit.int .u8 n).wf = true) : ∃ k, quitrentlaw10_PoolNobody.f k b n = some true := by
  rw [Lit.wf_int_iff] at hn
  have q0 : 0 ≤ n := hn.1
  have q1 : n ≤ 255 := hn.2
  refine ⟨300, ?_⟩
  obtain ⟨m, hm, hm50⟩ : ∃ m : Nat, Int.tmod n 50 = (m : Int) ∧ m < 50 := ⟨(Int.tmod n 50).toNat, by rw [Int.tmod_eq_emod_of_nonneg q0]; omega, by rw [Int.tmod_eq_emod_of_nonneg q0]; omega⟩
  have hc := chk_all m hm50
  have hw : wrap64 (wrap64 (m : Int) + 1) = (m : Int) + 1 := by unfold wrap64; omega
  unfold quitrentlaw10_PoolNobody.f
  rw [show pool_Take_nil.f 300 = some (0, false) by decide +kernel, show pool_Open_nil.f = some false by decide +kernel, show pool_Len_nil.f = some 0 by decide +kernel, show pool_List_nil.f 300 = some [] by decide +kernel]
  have hg : pool_Give_nil.f b = some false := by
    unfold pool_Give_nil.f ground_Ground_Word_nil.f ground_Ground_all_nil.f ground_Ground_word_nil.f ground_Ground_Conf_nil.f
    have hw0 : ground_within.f b 0 0 = some (-1) := by
      unfold ground_within.f
      by_cases h : b < 0
      · rw [if_pos h]
      · rw [if_neg h, if_pos (by omega)]
    simp only [Option.bind_some]
    rw [hw0]
    simp only [Option.bind_some, if_true]
    rw [show store_Store_Get_nil.f (-1) = some 0 by kernel_rfl]
    simp only [Option.bind_some]
    rw [show tag_Unpack.f 0 = some (0, 0, 0, 0, 0, 0, 0) by kernel_rfl]
    simp
  rw [hg, hm, hw]
  simp only [Option.bind_some, Bool.false_eq_true, if_false, if_true, List.length_nil]
  unfold chk at hc
  cases h1 : ground_New.f 300 ((m : Int) + 1) 16 1 1 with
  | none => rw [h1] at hc; cases hc
  | some s =>
    rw [h1] at hc
    rcases s with s | s | s
    · cases hc
    · obtain ⟨N, W, R, K, ws⟩ := s
      simp only [Option.bind_some, Sum.elim_inr, Sum.elim_inl] at hc ⊢
      cases h2 : pool_Open.f 300 ws 0 N W R K with
      | none => rw [h2] at hc; cases hc
      | some s =>
        obtain ⟨o1, me, l⟩ := s
        rw [h2] at hc
        simp only [Bool.and_eq_true] at hc
        obtain ⟨rfl, hc⟩ := hc
        simp only [Option.bind_some, if_true]
        cases h3 : pool_Open.f 300 l me N W R K with
        | none => rw [h3] at hc; cases hc
        | some s =>
          obtain ⟨o2, me2, l2⟩ := s
          rw [h3] at hc
          simp only [Bool.and_eq_true, Bool.not_eq_true'] at hc
          obtain ⟨rfl, hc⟩ := hc
          simp only [Option.bind_some, Bool.false_eq_true, if_false]
          cases h4 : pool_Len.f l2 me2 N W R K with
          | none => rw [h4] at hc; cases hc
          | some s =>
            obtain ⟨c, me3⟩ := s
            rw [h4] at hc
            simp only [Bool.and_eq_true, beq_iff_eq, List.all_eq_true, List.mem_range] at hc
            obtain ⟨⟨rfl, rfl⟩, hb⟩ := hc
            have hgive : ∃ me' l', pool_Give.f l2 me3 ((m : Int) + 1) W R K b = some (false, me', l') := by
              by_cases hr : b < 0 ∨ (m : Int) + 1 ≤ b
              · exact give_out _ _ _ _ _ _ _ hr
              · have := hb b.toNat (by omega)
                rw [show ((b.toNat : Nat) : Int) = b by omega] at this
                cases h5 : pool_Give.f l2 me3 ((m : Int) + 1) W R K b with
                | none => rw [h5] at this; cases this
                | some s =>
                  obtain ⟨g, x, y⟩ := s
                  rw [h5] at this
                  simp at this
                  subst this
                  exact ⟨x, y, rfl⟩
            obtain ⟨x, y, hx⟩ := hgive
            simp only [Option.bind_some, if_true]
            rw [hx, begun]
            simp
    · cases hc
end Go.Proofs.Ytobeonkddamnoaa.V

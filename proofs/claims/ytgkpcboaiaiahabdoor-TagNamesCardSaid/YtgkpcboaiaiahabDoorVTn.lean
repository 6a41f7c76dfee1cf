/- The laws of the group Tn on the plain functions. No condition. -/
import Derived.Test.YtgkpcboaiaiahabDoorMTn
import Derived.DataShut
import Derived.Laws.Bits64
import Derived.Laws.BitsLemmas
import Derived.RowKit
import Derived.KernelRfl
namespace Go.Proofs.YtgkpcboaiaiahabDoor.V
open Go.RowKit Go.Proofs.YtgkpcboaiaiahabDoor.C Go.Proofs.YtgkpcboaiaiahabDoor.M Go.Proofs.YtgkpcboaiaiahabDoorW.PrintWords
set_option linter.unusedVariables false
set_option linter.unusedSimpArgs false
theorem ba_ne (a b c : List UInt8) (hab : (a == b) = false) (h : (a == c) = true) (k : (b == c) = true) : False := by
  have := (eq_of_beq h).trans (eq_of_beq k).symm
  subst this
  rw [beq_self_eq_true] at hab
  cases hab
theorem bind_is {α β : Type} {x : Option α} {a : α} (h : x = some a) (f : α → Option β) : x.bind f = f a := by rw [h]; rfl
theorem begun : quitrentlaw06_begun.f 300 = some true := by decide +kernel
theorem N0 : quitrentref06_Name.f 0 = some (.inl ()) := by decide +kernel
theorem N1 : quitrentref06_Name.f 1 = some (.inr (.inl ())) := by decide +kernel
theorem N2 : quitrentref06_Name.f 2 = some (.inr (.inr (.inl ()))) := by decide +kernel
theorem N3 : quitrentref06_Name.f 3 = some (.inr (.inr (.inr (.inl ())))) := by decide +kernel
theorem w0 : wrap64 (0 + 1) = 1 := by unfold wrap64; decide
theorem w1 : wrap64 (1 + 1) = 2 := by unfold wrap64; decide
theorem w2 : wrap64 (2 + 1) = 3 := by unfold wrap64; decide
theorem w3 : wrap64 (3 + 1) = 4 := by unfold wrap64; decide
theorem w4 : wrap64 (4 + 1) = 5 := by unfold wrap64; decide
theorem K4 (a : ByteArray) (k : Nat) : tag_Kind.lo0 (k + 1) a 4 = some (.out ()) := by rw [tag_Kind.lo0, if_neg (by decide)]
theorem K3 (a : ByteArray) (k : Nat) : tag_Kind.lo0 (k + 2) a 3 = some (if (([108, 101, 97, 102] : List UInt8) == a.toList) = true then .ret (3, true) else .out ()) := by
  rw [tag_Kind.lo0, if_pos (by decide), if_pos (by decide), if_neg (by decide), if_neg (by decide), if_neg (by decide), w3]
  by_cases h : (([108, 101, 97, 102] : List UInt8) == a.toList) = true
  · rw [if_pos h, if_pos h]
  · rw [if_neg h, if_neg h, K4]
theorem K2 (a : ByteArray) (k : Nat) : tag_Kind.lo0 (k + 3) a 2 = if (([115, 112, 105, 110, 101] : List UInt8) == a.toList) = true then some (.ret (2, true)) else tag_Kind.lo0 (k + 2) a 3 := by
  rw [tag_Kind.lo0, if_pos (by decide), if_pos (by decide), if_neg (by decide), if_neg (by decide), if_pos rfl, w2]
theorem K1 (a : ByteArray) (k : Nat) : tag_Kind.lo0 (k + 4) a 1 = if (([115, 109, 97, 108, 108] : List UInt8) == a.toList) = true then some (.ret (1, true)) else tag_Kind.lo0 (k + 3) a 2 := by
  rw [tag_Kind.lo0, if_pos (by decide), if_pos (by decide), if_neg (by decide), if_pos rfl, w1]
theorem K0 (a : ByteArray) (k : Nat) : tag_Kind.lo0 (k + 5) a 0 = if (([102, 114, 101, 101] : List UInt8) == a.toList) = true then some (.ret (0, true)) else tag_Kind.lo0 (k + 4) a 1 := by
  rw [tag_Kind.lo0, if_pos (by decide), if_pos (by decide), if_pos rfl, w0]
theorem S0_4 (a : ByteArray) (k : Nat) (x : Int) (b : Bool) : quitrentlaw06_TagNames.lo0 (k + 1) a x b 4 = some (x, b) := by rw [quitrentlaw06_TagNames.lo0, if_neg (by decide)]
theorem S0_3 (a : ByteArray) (k : Nat) (x : Int) (b : Bool) : quitrentlaw06_TagNames.lo0 (k + 2) a x b 3 = if (([108, 101, 97, 102] : List UInt8) == a.toList) = true then quitrentlaw06_TagNames.lo0 (k + 1) a 3 true 4 else quitrentlaw06_TagNames.lo0 (k + 1) a x b 4 := by
  rw [quitrentlaw06_TagNames.lo0, if_pos (by decide), N3, w3]
  rfl
theorem S0_2 (a : ByteArray) (k : Nat) (x : Int) (b : Bool) : quitrentlaw06_TagNames.lo0 (k + 3) a x b 2 = if (([115, 112, 105, 110, 101] : List UInt8) == a.toList) = true then quitrentlaw06_TagNames.lo0 (k + 2) a 2 true 3 else quitrentlaw06_TagNames.lo0 (k + 2) a x b 3 := by
  rw [quitrentlaw06_TagNames.lo0, if_pos (by decide), N2, w2]
  rfl
theorem S0_1 (a : ByteArray) (k : Nat) (x : Int) (b : Bool) : quitrentlaw06_TagNames.lo0 (k + 4) a x b 1 = if (([115, 109, 97, 108, 108] : List UInt8) == a.toList) = true then quitrentlaw06_TagNames.lo0 (k + 3) a 1 true 2 else quitrentlaw06_TagNames.lo0 (k + 3) a x b 2 := by
  rw [quitrentlaw06_TagNames.lo0, if_pos (by decide), N1, w1]
  rfl
theorem S0_0 (a : ByteArray) (k : Nat) (x : Int) (b : Bool) : quitrentlaw06_TagNames.lo0 (k + 5) a x b 0 = if (([102, 114, 101, 101] : List UInt8) == a.toList) = true then quitrentlaw06_TagNames.lo0 (k + 4) a 0 true 1 else quitrentlaw06_TagNames.lo0 (k + 4) a x b 1 := by
  rw [quitrentlaw06_TagNames.lo0, if_pos (by decide), N0, w0]
  rfl
theorem tail0 (a : ByteArray) (k : Nat) (hb : quitrentlaw06_begun.f (k + 5) = some true) : ((tag_Kind.f (k + 5) a).bind fun t139 => (quitrentlaw06_TagNames.lo0 (k + 5) a 0 false 0).bind fun o => (quitrentlaw06_begun.f (k + 5)).bind fun t526 => if t526 = true then (if t139.1 = o.1 then (if t139.2 = true then (if o.2 = true then (some true) else (some false)) else (if o.2 = true then (some false) else (some true))) else (some false)) else (some false)) = some true := by
  unfold tag_Kind.f
  rw [hb, K0, S0_0]
  by_cases h0 : (([102, 114, 101, 101] : List UInt8) == a.toList) = true
  · by_cases h1 : (([115, 109, 97, 108, 108] : List UInt8) == a.toList) = true
    · by_cases h2 : (([115, 112, 105, 110, 101] : List UInt8) == a.toList) = true
      · by_cases h3 : (([108, 101, 97, 102] : List UInt8) == a.toList) = true
        · exact (ba_ne [102, 114, 101, 101] [115, 109, 97, 108, 108] a.toList (by decide +kernel) h0 h1).elim
        · exact (ba_ne [102, 114, 101, 101] [115, 109, 97, 108, 108] a.toList (by decide +kernel) h0 h1).elim
      · by_cases h3 : (([108, 101, 97, 102] : List UInt8) == a.toList) = true
        · exact (ba_ne [102, 114, 101, 101] [115, 109, 97, 108, 108] a.toList (by decide +kernel) h0 h1).elim
        · exact (ba_ne [102, 114, 101, 101] [115, 109, 97, 108, 108] a.toList (by decide +kernel) h0 h1).elim
    · by_cases h2 : (([115, 112, 105, 110, 101] : List UInt8) == a.toList) = true
      · by_cases h3 : (([108, 101, 97, 102] : List UInt8) == a.toList) = true
        · exact (ba_ne [102, 114, 101, 101] [115, 112, 105, 110, 101] a.toList (by decide +kernel) h0 h2).elim
        · exact (ba_ne [102, 114, 101, 101] [115, 112, 105, 110, 101] a.toList (by decide +kernel) h0 h2).elim
      · by_cases h3 : (([108, 101, 97, 102] : List UInt8) == a.toList) = true
        · exact (ba_ne [102, 114, 101, 101] [108, 101, 97, 102] a.toList (by decide +kernel) h0 h3).elim
        · simp only [K1, K2, K3, S0_1, S0_2, S0_3, S0_4, h0, h1, h2, h3, if_true, if_false, Bool.false_eq_true, Option.bind_some, M.Lp.elim]
          first | done | rfl | decide
  · by_cases h1 : (([115, 109, 97, 108, 108] : List UInt8) == a.toList) = true
    · by_cases h2 : (([115, 112, 105, 110, 101] : List UInt8) == a.toList) = true
      · by_cases h3 : (([108, 101, 97, 102] : List UInt8) == a.toList) = true
        · exact (ba_ne [115, 109, 97, 108, 108] [115, 112, 105, 110, 101] a.toList (by decide +kernel) h1 h2).elim
        · exact (ba_ne [115, 109, 97, 108, 108] [115, 112, 105, 110, 101] a.toList (by decide +kernel) h1 h2).elim
      · by_cases h3 : (([108, 101, 97, 102] : List UInt8) == a.toList) = true
        · exact (ba_ne [115, 109, 97, 108, 108] [108, 101, 97, 102] a.toList (by decide +kernel) h1 h3).elim
        · simp only [K1, K2, K3, S0_1, S0_2, S0_3, S0_4, h0, h1, h2, h3, if_true, if_false, Bool.false_eq_true, Option.bind_some, M.Lp.elim]
          first | done | rfl | decide
    · by_cases h2 : (([115, 112, 105, 110, 101] : List UInt8) == a.toList) = true
      · by_cases h3 : (([108, 101, 97, 102] : List UInt8) == a.toList) = true
        · exact (ba_ne [115, 112, 105, 110, 101] [108, 101, 97, 102] a.toList (by decide +kernel) h2 h3).elim
        · simp only [K1, K2, K3, S0_1, S0_2, S0_3, S0_4, h0, h1, h2, h3, if_true, if_false, Bool.false_eq_true, Option.bind_some, M.Lp.elim]
          first | done | rfl | decide
      · by_cases h3 : (([108, 101, 97, 102] : List UInt8) == a.toList) = true
        · simp only [K1, K2, K3, S0_1, S0_2, S0_3, S0_4, h0, h1, h2, h3, if_true, if_false, Bool.false_eq_true, Option.bind_some, M.Lp.elim]
          first | done | rfl | decide
        · simp only [K1, K2, K3, S0_1, S0_2, S0_3, S0_4, h0, h1, h2, h3, if_true, if_false, Bool.false_eq_true, Option.bind_some, M.Lp.elim]
          first | done | rfl | decide
theorem S1_4 (a : ByteArray) (k : Nat) (x : Int) (b : Bool) : quitrentlaw06_TagNames.lo1 (k + 1) a x b 4 = some (x, b) := by rw [quitrentlaw06_TagNames.lo1, if_neg (by decide)]
theorem S1_3 (a : ByteArray) (k : Nat) (x : Int) (b : Bool) : quitrentlaw06_TagNames.lo1 (k + 2) a x b 3 = if (([108, 101, 97, 102] : List UInt8) == a.toList) = true then quitrentlaw06_TagNames.lo1 (k + 1) a 3 true 4 else quitrentlaw06_TagNames.lo1 (k + 1) a x b 4 := by
  rw [quitrentlaw06_TagNames.lo1, if_pos (by decide), N3, w3]
  rfl
theorem S1_2 (a : ByteArray) (k : Nat) (x : Int) (b : Bool) : quitrentlaw06_TagNames.lo1 (k + 3) a x b 2 = if (([115, 112, 105, 110, 101] : List UInt8) == a.toList) = true then quitrentlaw06_TagNames.lo1 (k + 2) a 2 true 3 else quitrentlaw06_TagNames.lo1 (k + 2) a x b 3 := by
  rw [quitrentlaw06_TagNames.lo1, if_pos (by decide), N2, w2]
  rfl
theorem S1_1 (a : ByteArray) (k : Nat) (x : Int) (b : Bool) : quitrentlaw06_TagNames.lo1 (k + 4) a x b 1 = if (([115, 109, 97, 108, 108] : List UInt8) == a.toList) = true then quitrentlaw06_TagNames.lo1 (k + 3) a 1 true 2 else quitrentlaw06_TagNames.lo1 (k + 3) a x b 2 := by
  rw [quitrentlaw06_TagNames.lo1, if_pos (by decide), N1, w1]
  rfl
theorem S1_0 (a : ByteArray) (k : Nat) (x : Int) (b : Bool) : quitrentlaw06_TagNames.lo1 (k + 5) a x b 0 = if (([102, 114, 101, 101] : List UInt8) == a.toList) = true then quitrentlaw06_TagNames.lo1 (k + 4) a 0 true 1 else quitrentlaw06_TagNames.lo1 (k + 4) a x b 1 := by
  rw [quitrentlaw06_TagNames.lo1, if_pos (by decide), N0, w0]
  rfl
theorem tail1 (a : ByteArray) (k : Nat) (hb : quitrentlaw06_begun.f (k + 5) = some true) : ((tag_Kind.f (k + 5) a).bind fun t139 => (quitrentlaw06_TagNames.lo1 (k + 5) a 0 false 0).bind fun o => (quitrentlaw06_begun.f (k + 5)).bind fun t526 => if t526 = true then (if t139.1 = o.1 then (if t139.2 = true then (if o.2 = true then (some true) else (some false)) else (if o.2 = true then (some false) else (some true))) else (some false)) else (some false)) = some true := by
  unfold tag_Kind.f
  rw [hb, K0, S1_0]
  by_cases h0 : (([102, 114, 101, 101] : List UInt8) == a.toList) = true
  · by_cases h1 : (([115, 109, 97, 108, 108] : List UInt8) == a.toList) = true
    · by_cases h2 : (([115, 112, 105, 110, 101] : List UInt8) == a.toList) = true
      · by_cases h3 : (([108, 101, 97, 102] : List UInt8) == a.toList) = true
        · exact (ba_ne [102, 114, 101, 101] [115, 109, 97, 108, 108] a.toList (by decide +kernel) h0 h1).elim
        · exact (ba_ne [102, 114, 101, 101] [115, 109, 97, 108, 108] a.toList (by decide +kernel) h0 h1).elim
      · by_cases h3 : (([108, 101, 97, 102] : List UInt8) == a.toList) = true
        · exact (ba_ne [102, 114, 101, 101] [115, 109, 97, 108, 108] a.toList (by decide +kernel) h0 h1).elim
        · exact (ba_ne [102, 114, 101, 101] [115, 109, 97, 108, 108] a.toList (by decide +kernel) h0 h1).elim
    · by_cases h2 : (([115, 112, 105, 110, 101] : List UInt8) == a.toList) = true
      · by_cases h3 : (([108, 101, 97, 102] : List UInt8) == a.toList) = true
        · exact (ba_ne [102, 114, 101, 101] [115, 112, 105, 110, 101] a.toList (by decide +kernel) h0 h2).elim
        · exact (ba_ne [102, 114, 101, 101] [115, 112, 105, 110, 101] a.toList (by decide +kernel) h0 h2).elim
      · by_cases h3 : (([108, 101, 97, 102] : List UInt8) == a.toList) = true
        · exact (ba_ne [102, 114, 101, 101] [108, 101, 97, 102] a.toList (by decide +kernel) h0 h3).elim
        · simp only [K1, K2, K3, S1_1, S1_2, S1_3, S1_4, h0, h1, h2, h3, if_true, if_false, Bool.false_eq_true, Option.bind_some, M.Lp.elim]
          first | done | rfl | decide
  · by_cases h1 : (([115, 109, 97, 108, 108] : List UInt8) == a.toList) = true
    · by_cases h2 : (([115, 112, 105, 110, 101] : List UInt8) == a.toList) = true
      · by_cases h3 : (([108, 101, 97, 102] : List UInt8) == a.toList) = true
        · exact (ba_ne [115, 109, 97, 108, 108] [115, 112, 105, 110, 101] a.toList (by decide +kernel) h1 h2).elim
        · exact (ba_ne [115, 109, 97, 108, 108] [115, 112, 105, 110, 101] a.toList (by decide +kernel) h1 h2).elim
      · by_cases h3 : (([108, 101, 97, 102] : List UInt8) == a.toList) = true
        · exact (ba_ne [115, 109, 97, 108, 108] [108, 101, 97, 102] a.toList (by decide +kernel) h1 h3).elim
        · simp only [K1, K2, K3, S1_1, S1_2, S1_3, S1_4, h0, h1, h2, h3, if_true, if_false, Bool.false_eq_true, Option.bind_some, M.Lp.elim]
          first | done | rfl | decide
    · by_cases h2 : (([115, 112, 105, 110, 101] : List UInt8) == a.toList) = true
      · by_cases h3 : (([108, 101, 97, 102] : List UInt8) == a.toList) = true
        · exact (ba_ne [115, 112, 105, 110, 101] [108, 101, 97, 102] a.toList (by decide +kernel) h2 h3).elim
        · simp only [K1, K2, K3, S1_1, S1_2, S1_3, S1_4, h0, h1, h2, h3, if_true, if_false, Bool.false_eq_true, Option.bind_some, M.Lp.elim]
          first | done | rfl | decide
      · by_cases h3 : (([108, 101, 97, 102] : List UInt8) == a.toList) = true
        · simp only [K1, K2, K3, S1_1, S1_2, S1_3, S1_4, h0, h1, h2, h3, if_true, if_false, Bool.false_eq_true, Option.bind_some, M.Lp.elim]
          first | done | rfl | decide
        · simp only [K1, K2, K3, S1_1, S1_2, S1_3, S1_4, h0, h1, h2, h3, if_true, if_false, Bool.false_eq_true, Option.bind_some, M.Lp.elim]
          first | done | rfl | decide
theorem S2_4 (a : ByteArray) (k : Nat) (x : Int) (b : Bool) : quitrentlaw06_TagNames.lo2 (k + 1) a x b 4 = some (x, b) := by rw [quitrentlaw06_TagNames.lo2, if_neg (by decide)]
theorem S2_3 (a : ByteArray) (k : Nat) (x : Int) (b : Bool) : quitrentlaw06_TagNames.lo2 (k + 2) a x b 3 = if (([108, 101, 97, 102] : List UInt8) == a.toList) = true then quitrentlaw06_TagNames.lo2 (k + 1) a 3 true 4 else quitrentlaw06_TagNames.lo2 (k + 1) a x b 4 := by
  rw [quitrentlaw06_TagNames.lo2, if_pos (by decide), N3, w3]
  rfl
theorem S2_2 (a : ByteArray) (k : Nat) (x : Int) (b : Bool) : quitrentlaw06_TagNames.lo2 (k + 3) a x b 2 = if (([115, 112, 105, 110, 101] : List UInt8) == a.toList) = true then quitrentlaw06_TagNames.lo2 (k + 2) a 2 true 3 else quitrentlaw06_TagNames.lo2 (k + 2) a x b 3 := by
  rw [quitrentlaw06_TagNames.lo2, if_pos (by decide), N2, w2]
  rfl
theorem S2_1 (a : ByteArray) (k : Nat) (x : Int) (b : Bool) : quitrentlaw06_TagNames.lo2 (k + 4) a x b 1 = if (([115, 109, 97, 108, 108] : List UInt8) == a.toList) = true then quitrentlaw06_TagNames.lo2 (k + 3) a 1 true 2 else quitrentlaw06_TagNames.lo2 (k + 3) a x b 2 := by
  rw [quitrentlaw06_TagNames.lo2, if_pos (by decide), N1, w1]
  rfl
theorem S2_0 (a : ByteArray) (k : Nat) (x : Int) (b : Bool) : quitrentlaw06_TagNames.lo2 (k + 5) a x b 0 = if (([102, 114, 101, 101] : List UInt8) == a.toList) = true then quitrentlaw06_TagNames.lo2 (k + 4) a 0 true 1 else quitrentlaw06_TagNames.lo2 (k + 4) a x b 1 := by
  rw [quitrentlaw06_TagNames.lo2, if_pos (by decide), N0, w0]
  rfl
theorem tail2 (a : ByteArray) (k : Nat) (hb : quitrentlaw06_begun.f (k + 5) = some true) : ((tag_Kind.f (k + 5) a).bind fun t139 => (quitrentlaw06_TagNames.lo2 (k + 5) a 0 false 0).bind fun o => (quitrentlaw06_begun.f (k + 5)).bind fun t526 => if t526 = true then (if t139.1 = o.1 then (if t139.2 = true then (if o.2 = true then (some true) else (some false)) else (if o.2 = true then (some false) else (some true))) else (some false)) else (some false)) = some true := by
  unfold tag_Kind.f
  rw [hb, K0, S2_0]
  by_cases h0 : (([102, 114, 101, 101] : List UInt8) == a.toList) = true
  · by_cases h1 : (([115, 109, 97, 108, 108] : List UInt8) == a.toList) = true
    · by_cases h2 : (([115, 112, 105, 110, 101] : List UInt8) == a.toList) = true
      · by_cases h3 : (([108, 101, 97, 102] : List UInt8) == a.toList) = true
        · exact (ba_ne [102, 114, 101, 101] [115, 109, 97, 108, 108] a.toList (by decide +kernel) h0 h1).elim
        · exact (ba_ne [102, 114, 101, 101] [115, 109, 97, 108, 108] a.toList (by decide +kernel) h0 h1).elim
      · by_cases h3 : (([108, 101, 97, 102] : List UInt8) == a.toList) = true
        · exact (ba_ne [102, 114, 101, 101] [115, 109, 97, 108, 108] a.toList (by decide +kernel) h0 h1).elim
        · exact (ba_ne [102, 114, 101, 101] [115, 109, 97, 108, 108] a.toList (by decide +kernel) h0 h1).elim
    · by_cases h2 : (([115, 112, 105, 110, 101] : List UInt8) == a.toList) = true
      · by_cases h3 : (([108, 101, 97, 102] : List UInt8) == a.toList) = true
        · exact (ba_ne [102, 114, 101, 101] [115, 112, 105, 110, 101] a.toList (by decide +kernel) h0 h2).elim
        · exact (ba_ne [102, 114, 101, 101] [115, 112, 105, 110, 101] a.toList (by decide +kernel) h0 h2).elim
      · by_cases h3 : (([108, 101, 97, 102] : List UInt8) == a.toList) = true
        · exact (ba_ne [102, 114, 101, 101] [108, 101, 97, 102] a.toList (by decide +kernel) h0 h3).elim
        · simp only [K1, K2, K3, S2_1, S2_2, S2_3, S2_4, h0, h1, h2, h3, if_true, if_false, Bool.false_eq_true, Option.bind_some, M.Lp.elim]
          first | done | rfl | decide
  · by_cases h1 : (([115, 109, 97, 108, 108] : List UInt8) == a.toList) = true
    · by_cases h2 : (([115, 112, 105, 110, 101] : List UInt8) == a.toList) = true
      · by_cases h3 : (([108, 101, 97, 102] : List UInt8) == a.toList) = true
        · exact (ba_ne [115, 109, 97, 108, 108] [115, 112, 105, 110, 101] a.toList (by decide +kernel) h1 h2).elim
        · exact (ba_ne [115, 109, 97, 108, 108] [115, 112, 105, 110, 101] a.toList (by decide +kernel) h1 h2).elim
      · by_cases h3 : (([108, 101, 97, 102] : List UInt8) == a.toList) = true
        · exact (ba_ne [115, 109, 97, 108, 108] [108, 101, 97, 102] a.toList (by decide +kernel) h1 h3).elim
        · simp only [K1, K2, K3, S2_1, S2_2, S2_3, S2_4, h0, h1, h2, h3, if_true, if_false, Bool.false_eq_true, Option.bind_some, M.Lp.elim]
          first | done | rfl | decide
    · by_cases h2 : (([115, 112, 105, 110, 101] : List UInt8) == a.toList) = true
      · by_cases h3 : (([108, 101, 97, 102] : List UInt8) == a.toList) = true
        · exact (ba_ne [115, 112, 105, 110, 101] [108, 101, 97, 102] a.toList (by decide +kernel) h2 h3).elim
        · simp only [K1, K2, K3, S2_1, S2_2, S2_3, S2_4, h0, h1, h2, h3, if_true, if_false, Bool.false_eq_true, Option.bind_some, M.Lp.elim]
          first | done | rfl | decide
      · by_cases h3 : (([108, 101, 97, 102] : List UInt8) == a.toList) = true
        · simp only [K1, K2, K3, S2_1, S2_2, S2_3, S2_4, h0, h1, h2, h3, if_true, if_false, Bool.false_eq_true, Option.bind_some, M.Lp.elim]
          first | done | rfl | decide
        · simp only [K1, K2, K3, S2_1, S2_2, S2_3, S2_4, h0, h1, h2, h3, if_true, if_false, Bool.false_eq_true, Option.bind_some, M.Lp.elim]
          first | done | rfl | decide
theorem S3_4 (a : ByteArray) (k : Nat) (x : Int) (b : Bool) : quitrentlaw06_TagNames.lo3 (k + 1) a x b 4 = some (x, b) := by rw [quitrentlaw06_TagNames.lo3, if_neg (by decide)]
theorem S3_3 (a : ByteArray) (k : Nat) (x : Int) (b : Bool) : quitrentlaw06_TagNames.lo3 (k + 2) a x b 3 = if (([108, 101, 97, 102] : List UInt8) == a.toList) = true then quitrentlaw06_TagNames.lo3 (k + 1) a 3 true 4 else quitrentlaw06_TagNames.lo3 (k + 1) a x b 4 := by
  rw [quitrentlaw06_TagNames.lo3, if_pos (by decide), N3, w3]
  rfl
theorem S3_2 (a : ByteArray) (k : Nat) (x : Int) (b : Bool) : quitrentlaw06_TagNames.lo3 (k + 3) a x b 2 = if (([115, 112, 105, 110, 101] : List UInt8) == a.toList) = true then quitrentlaw06_TagNames.lo3 (k + 2) a 2 true 3 else quitrentlaw06_TagNames.lo3 (k + 2) a x b 3 := by
  rw [quitrentlaw06_TagNames.lo3, if_pos (by decide), N2, w2]
  rfl
theorem S3_1 (a : ByteArray) (k : Nat) (x : Int) (b : Bool) : quitrentlaw06_TagNames.lo3 (k + 4) a x b 1 = if (([115, 109, 97, 108, 108] : List UInt8) == a.toList) = true then quitrentlaw06_TagNames.lo3 (k + 3) a 1 true 2 else quitrentlaw06_TagNames.lo3 (k + 3) a x b 2 := by
  rw [quitrentlaw06_TagNames.lo3, if_pos (by decide), N1, w1]
  rfl
theorem S3_0 (a : ByteArray) (k : Nat) (x : Int) (b : Bool) : quitrentlaw06_TagNames.lo3 (k + 5) a x b 0 = if (([102, 114, 101, 101] : List UInt8) == a.toList) = true then quitrentlaw06_TagNames.lo3 (k + 4) a 0 true 1 else quitrentlaw06_TagNames.lo3 (k + 4) a x b 1 := by
  rw [quitrentlaw06_TagNames.lo3, if_pos (by decide), N0, w0]
  rfl
theorem tail3 (a : ByteArray) (k : Nat) (hb : quitrentlaw06_begun.f (k + 5) = some true) : ((tag_Kind.f (k + 5) a).bind fun t139 => (quitrentlaw06_TagNames.lo3 (k + 5) a 0 false 0).bind fun o => (quitrentlaw06_begun.f (k + 5)).bind fun t526 => if t526 = true then (if t139.1 = o.1 then (if t139.2 = true then (if o.2 = true then (some true) else (some false)) else (if o.2 = true then (some false) else (some true))) else (some false)) else (some false)) = some true := by
  unfold tag_Kind.f
  rw [hb, K0, S3_0]
  by_cases h0 : (([102, 114, 101, 101] : List UInt8) == a.toList) = true
  · by_cases h1 : (([115, 109, 97, 108, 108] : List UInt8) == a.toList) = true
    · by_cases h2 : (([115, 112, 105, 110, 101] : List UInt8) == a.toList) = true
      · by_cases h3 : (([108, 101, 97, 102] : List UInt8) == a.toList) = true
        · exact (ba_ne [102, 114, 101, 101] [115, 109, 97, 108, 108] a.toList (by decide +kernel) h0 h1).elim
        · exact (ba_ne [102, 114, 101, 101] [115, 109, 97, 108, 108] a.toList (by decide +kernel) h0 h1).elim
      · by_cases h3 : (([108, 101, 97, 102] : List UInt8) == a.toList) = true
        · exact (ba_ne [102, 114, 101, 101] [115, 109, 97, 108, 108] a.toList (by decide +kernel) h0 h1).elim
        · exact (ba_ne [102, 114, 101, 101] [115, 109, 97, 108, 108] a.toList (by decide +kernel) h0 h1).elim
    · by_cases h2 : (([115, 112, 105, 110, 101] : List UInt8) == a.toList) = true
      · by_cases h3 : (([108, 101, 97, 102] : List UInt8) == a.toList) = true
        · exact (ba_ne [102, 114, 101, 101] [115, 112, 105, 110, 101] a.toList (by decide +kernel) h0 h2).elim
        · exact (ba_ne [102, 114, 101, 101] [115, 112, 105, 110, 101] a.toList (by decide +kernel) h0 h2).elim
      · by_cases h3 : (([108, 101, 97, 102] : List UInt8) == a.toList) = true
        · exact (ba_ne [102, 114, 101, 101] [108, 101, 97, 102] a.toList (by decide +kernel) h0 h3).elim
        · simp only [K1, K2, K3, S3_1, S3_2, S3_3, S3_4, h0, h1, h2, h3, if_true, if_false, Bool.false_eq_true, Option.bind_some, M.Lp.elim]
          first | done | rfl | decide
  · by_cases h1 : (([115, 109, 97, 108, 108] : List UInt8) == a.toList) = true
    · by_cases h2 : (([115, 112, 105, 110, 101] : List UInt8) == a.toList) = true
      · by_cases h3 : (([108, 101, 97, 102] : List UInt8) == a.toList) = true
        · exact (ba_ne [115, 109, 97, 108, 108] [115, 112, 105, 110, 101] a.toList (by decide +kernel) h1 h2).elim
        · exact (ba_ne [115, 109, 97, 108, 108] [115, 112, 105, 110, 101] a.toList (by decide +kernel) h1 h2).elim
      · by_cases h3 : (([108, 101, 97, 102] : List UInt8) == a.toList) = true
        · exact (ba_ne [115, 109, 97, 108, 108] [108, 101, 97, 102] a.toList (by decide +kernel) h1 h3).elim
        · simp only [K1, K2, K3, S3_1, S3_2, S3_3, S3_4, h0, h1, h2, h3, if_true, if_false, Bool.false_eq_true, Option.bind_some, M.Lp.elim]
          first | done | rfl | decide
    · by_cases h2 : (([115, 112, 105, 110, 101] : List UInt8) == a.toList) = true
      · by_cases h3 : (([108, 101, 97, 102] : List UInt8) == a.toList) = true
        · exact (ba_ne [115, 112, 105, 110, 101] [108, 101, 97, 102] a.toList (by decide +kernel) h2 h3).elim
        · simp only [K1, K2, K3, S3_1, S3_2, S3_3, S3_4, h0, h1, h2, h3, if_true, if_false, Bool.false_eq_true, Option.bind_some, M.Lp.elim]
          first | done | rfl | decide
      · by_cases h3 : (([108, 101, 97, 102] : List UInt8) == a.toList) = true
        · simp only [K1, K2, K3, S3_1, S3_2, S3_3, S3_4, h0, h1, h2, h3, if_true, if_false, Bool.false_eq_true, Option.bind_some, M.Lp.elim]
          first | done | rfl | decide
        · simp only [K1, K2, K3, S3_1, S3_2, S3_3, S3_4, h0, h1, h2, h3, if_true, if_false, Bool.false_eq_true, Option.bind_some, M.Lp.elim]
          first | done | rfl | decide
theorem S4_4 (a : ByteArray) (k : Nat) (x : Int) (b : Bool) : quitrentlaw06_TagNames.lo4 (k + 1) a x b 4 = some (x, b) := by rw [quitrentlaw06_TagNames.lo4, if_neg (by decide)]
theorem S4_3 (a : ByteArray) (k : Nat) (x : Int) (b : Bool) : quitrentlaw06_TagNames.lo4 (k + 2) a x b 3 = if (([108, 101, 97, 102] : List UInt8) == a.toList) = true then quitrentlaw06_TagNames.lo4 (k + 1) a 3 true 4 else quitrentlaw06_TagNames.lo4 (k + 1) a x b 4 := by
  rw [quitrentlaw06_TagNames.lo4, if_pos (by decide), N3, w3]
  rfl
theorem S4_2 (a : ByteArray) (k : Nat) (x : Int) (b : Bool) : quitrentlaw06_TagNames.lo4 (k + 3) a x b 2 = if (([115, 112, 105, 110, 101] : List UInt8) == a.toList) = true then quitrentlaw06_TagNames.lo4 (k + 2) a 2 true 3 else quitrentlaw06_TagNames.lo4 (k + 2) a x b 3 := by
  rw [quitrentlaw06_TagNames.lo4, if_pos (by decide), N2, w2]
  rfl
theorem S4_1 (a : ByteArray) (k : Nat) (x : Int) (b : Bool) : quitrentlaw06_TagNames.lo4 (k + 4) a x b 1 = if (([115, 109, 97, 108, 108] : List UInt8) == a.toList) = true then quitrentlaw06_TagNames.lo4 (k + 3) a 1 true 2 else quitrentlaw06_TagNames.lo4 (k + 3) a x b 2 := by
  rw [quitrentlaw06_TagNames.lo4, if_pos (by decide), N1, w1]
  rfl
theorem S4_0 (a : ByteArray) (k : Nat) (x : Int) (b : Bool) : quitrentlaw06_TagNames.lo4 (k + 5) a x b 0 = if (([102, 114, 101, 101] : List UInt8) == a.toList) = true then quitrentlaw06_TagNames.lo4 (k + 4) a 0 true 1 else quitrentlaw06_TagNames.lo4 (k + 4) a x b 1 := by
  rw [quitrentlaw06_TagNames.lo4, if_pos (by decide), N0, w0]
  rfl
theorem tail4 (a : ByteArray) (k : Nat) (hb : quitrentlaw06_begun.f (k + 5) = some true) : ((tag_Kind.f (k + 5) a).bind fun t139 => (quitrentlaw06_TagNames.lo4 (k + 5) a 0 false 0).bind fun o => (quitrentlaw06_begun.f (k + 5)).bind fun t526 => if t526 = true then (if t139.1 = o.1 then (if t139.2 = true then (if o.2 = true then (some true) else (some false)) else (if o.2 = true then (some false) else (some true))) else (some false)) else (some false)) = some true := by
  unfold tag_Kind.f
  rw [hb, K0, S4_0]
  by_cases h0 : (([102, 114, 101, 101] : List UInt8) == a.toList) = true
  · by_cases h1 : (([115, 109, 97, 108, 108] : List UInt8) == a.toList) = true
    · by_cases h2 : (([115, 112, 105, 110, 101] : List UInt8) == a.toList) = true
      · by_cases h3 : (([108, 101, 97, 102] : List UInt8) == a.toList) = true
        · exact (ba_ne [102, 114, 101, 101] [115, 109, 97, 108, 108] a.toList (by decide +kernel) h0 h1).elim
        · exact (ba_ne [102, 114, 101, 101] [115, 109, 97, 108, 108] a.toList (by decide +kernel) h0 h1).elim
      · by_cases h3 : (([108, 101, 97, 102] : List UInt8) == a.toList) = true
        · exact (ba_ne [102, 114, 101, 101] [115, 109, 97, 108, 108] a.toList (by decide +kernel) h0 h1).elim
        · exact (ba_ne [102, 114, 101, 101] [115, 109, 97, 108, 108] a.toList (by decide +kernel) h0 h1).elim
    · by_cases h2 : (([115, 112, 105, 110, 101] : List UInt8) == a.toList) = true
      · by_cases h3 : (([108, 101, 97, 102] : List UInt8) == a.toList) = true
        · exact (ba_ne [102, 114, 101, 101] [115, 112, 105, 110, 101] a.toList (by decide +kernel) h0 h2).elim
        · exact (ba_ne [102, 114, 101, 101] [115, 112, 105, 110, 101] a.toList (by decide +kernel) h0 h2).elim
      · by_cases h3 : (([108, 101, 97, 102] : List UInt8) == a.toList) = true
        · exact (ba_ne [102, 114, 101, 101] [108, 101, 97, 102] a.toList (by decide +kernel) h0 h3).elim
        · simp only [K1, K2, K3, S4_1, S4_2, S4_3, S4_4, h0, h1, h2, h3, if_true, if_false, Bool.false_eq_true, Option.bind_some, M.Lp.elim]
          first | done | rfl | decide
  · by_cases h1 : (([115, 109, 97, 108, 108] : List UInt8) == a.toList) = true
    · by_cases h2 : (([115, 112, 105, 110, 101] : List UInt8) == a.toList) = true
      · by_cases h3 : (([108, 101, 97, 102] : List UInt8) == a.toList) = true
        · exact (ba_ne [115, 109, 97, 108, 108] [115, 112, 105, 110, 101] a.toList (by decide +kernel) h1 h2).elim
        · exact (ba_ne [115, 109, 97, 108, 108] [115, 112, 105, 110, 101] a.toList (by decide +kernel) h1 h2).elim
      · by_cases h3 : (([108, 101, 97, 102] : List UInt8) == a.toList) = true
        · exact (ba_ne [115, 109, 97, 108, 108] [108, 101, 97, 102] a.toList (by decide +kernel) h1 h3).elim
        · simp only [K1, K2, K3, S4_1, S4_2, S4_3, S4_4, h0, h1, h2, h3, if_true, if_false, Bool.false_eq_true, Option.bind_some, M.Lp.elim]
          first | done | rfl | decide
    · by_cases h2 : (([115, 112, 105, 110, 101] : List UInt8) == a.toList) = true
      · by_cases h3 : (([108, 101, 97, 102] : List UInt8) == a.toList) = true
        · exact (ba_ne [115, 112, 105, 110, 101] [108, 101, 97, 102] a.toList (by decide +kernel) h2 h3).elim
        · simp only [K1, K2, K3, S4_1, S4_2, S4_3, S4_4, h0, h1, h2, h3, if_true, if_false, Bool.false_eq_true, Option.bind_some, M.Lp.elim]
          first | done | rfl | decide
      · by_cases h3 : (([108, 101, 97, 102] : List UInt8) == a.toList) = true
        · simp only [K1, K2, K3, S4_1, S4_2, S4_3, S4_4, h0, h1, h2, h3, if_true, if_false, Bool.false_eq_true, Option.bind_some, M.Lp.elim]
          first | done | rfl | decide
        · simp only [K1, K2, K3, S4_1, S4_2, S4_3, S4_4, h0, h1, h2, h3, if_true, if_false, Bool.false_eq_true, Option.bind_some, M.Lp.elim]
          first | done | rfl | decide
theorem TagNames (a1 : Int) (a2 : ByteArray) (_ : (Lit.int .i64 a1).wf = true) : ∃ k, quitrentlaw06_TagNames.f k a1 a2 = some true := by
  have hb : quitrentlaw06_begun.f (295 + 5) = some true := begun
  generalize 295 = k at hb
  refine ⟨k + 5, ?_⟩
  by_cases h0 : a1 = 0
  · subst h0
    exact tail1 a2 k hb
  by_cases h1 : a1 = 1
  · subst h1
    exact tail2 a2 k hb
  by_cases h2 : a1 = 2
  · subst h2
    exact tail3 a2 k hb
  by_cases h3 : a1 = 3
  · subst h3
    exact tail4 a2 k hb
  have e1 : tag_Name.f a1 = some (.inl ()) := by
    unfold tag_Name.f
    by_cases h : a1 < 0
    · rw [if_pos h]
    · rw [if_neg h, if_pos (by omega)]
  have e2 : quitrentref06_Name.f a1 = some (.inr (.inr (.inr (.inr ())))) := by
    unfold quitrentref06_Name.f
    rw [if_neg h0, if_neg h1, if_neg h2, if_neg h3]
  unfold quitrentlaw06_TagNames.f
  rw [e1, e2]
  exact tail0 a2 k hb
end Go.Proofs.YtgkpcboaiaiahabDoor.V

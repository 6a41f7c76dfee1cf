/- Plain functions: what the program's functions answer, for the group PlanH. No condition. -/
import Derived.Test.YtgkpcboaiaiahaaQm
namespace Go.Proofs.Ytgkpcboaiaiahaa.C
open Go.RowKit Go.Proofs.Ytgkpcboaiaiahaa.M Go.Proofs.YtgkpcboaiaiahaaW.PrintWords
set_option linter.unusedVariables false
set_option linter.unusedSimpArgs false
def ratio_Clamp.f (a37 : Int) (a38 : Int) (a39 : Int) : Option (Int) := if a37 > a39 then (some a39) else (if a37 < a38 then (some a38) else (some a37))
def plan_within.f (a34 : Int) (a35 : Int) (a36 : Int) : Option (Bool) := (ratio_Clamp.f a34 a35 a36).bind fun t42 => some (t42 == a34)
def plan_Check.f (a26 : Int) (a27 : Int) (a28 : Int) (a29 : Int) : Option (Int) := (plan_within.f a26 1 1048576).bind fun t45 => if t45 = true then ((plan_within.f a27 16 256).bind fun t50 => if t50 = true then ((plan_within.f a28 1 4096).bind fun t55 => if t55 = true then ((plan_within.f a29 1 65536).bind fun t60 => if t60 = true then (if (wrap64 (a26 * a27)) ≤ 4194304 then (some 0) else (some 1)) else (some 1)) else (some 1)) else (some 1)) else (some 1)
def ratio_counts.f (a99 : Int) : Option (Int) := (ratio_Clamp.f a99 0 1125899906842624).bind fun t100 => some t100
def ratio_zero.f (a98 : Int) : Option (Bool) := (ratio_counts.f a98).bind fun t103 => some (t103 == 0)
def slices_IndexFunc_int_int.lo0 : Nat → (List Int) → (Int) → Option (M.Lp (Unit) (Int))
  | 0, _, _ => none
  | k + 1, l84, x114 => if x114 < (l84.length : Int) then (if 0 ≤ x114 then ((ratio_zero.f (rd l84 x114)).bind fun t106 => if t106 = true then (some (.ret x114)) else (slices_IndexFunc_int_int.lo0 k l84 (wrap64 (x114 + 1)))) else (none)) else (some (.out ()))
def slices_IndexFunc_int_int.f (k : Nat) (l84 : List Int) : Option (Int) := (slices_IndexFunc_int_int.lo0 k l84 0).bind fun o88q => M.Lp.elim o88q (fun r => some r) (fun o88 => some (-1))
def slices_ContainsFunc_int_int.f (k : Nat) (l80 : List Int) : Option (Bool) := (slices_IndexFunc_int_int.f k l80).bind fun t123 => some (decide (t123 ≥ 0))
def ratio_Mul.lo0 : Nat → (List Int) → (Int) → (Int) → Option (Int)
  | 0, _, _, _ => none
  | k + 1, l76, x135, x136 => if x136 < (l76.length : Int) then (if 0 ≤ x136 then ((ratio_counts.f (rd l76 x136)).bind fun t141 => if t141 = 0 then (none) else (if x135 ≤ (wrap64 (Int.tdiv (1125899906842624 : Int) t141)) then (ratio_Mul.lo0 k l76 (wrap64 (x135 * t141)) (wrap64 (x136 + 1))) else (ratio_Mul.lo0 k l76 1125899906842624 (wrap64 (x136 + 1))))) else (none)) else (some x135)
def ratio_Mul.f (k : Nat) (l76 : List Int) : Option (Int) := (slices_ContainsFunc_int_int.f k l76).bind fun t126 => if t126 = true then (some 0) else ((ratio_Mul.lo0 k l76 1 0).bind fun o130 => some o130)
def ratio_Add.lo0 : Nat → (List Int) → (Int) → (Int) → Option (Int)
  | 0, _, _, _ => none
  | k + 1, l153, x162, x163 => if x163 < (l153.length : Int) then (if 0 ≤ x163 then ((ratio_counts.f (rd l153 x163)).bind fun t168 => if 1125899906842624 < (wrap64 (x162 + t168)) then (ratio_Add.lo0 k l153 1125899906842624 (wrap64 (x163 + 1))) else (ratio_Add.lo0 k l153 (wrap64 (x162 + t168)) (wrap64 (x163 + 1)))) else (none)) else (some x162)
def ratio_Add.f (k : Nat) (l153 : List Int) : Option (Int) := (ratio_Add.lo0 k l153 0 0).bind fun o157 => some o157
def ratio_by.f (a382 : Int) : Option (Int) := (ratio_counts.f a382).bind fun t383 => if t383 < 1 then (some 1) else (some t383)
def ratio_Up.f (a377 : Int) (a378 : Int) : Option (Int) := (ratio_counts.f a377).bind fun t379 => (ratio_by.f a378).bind fun t387 => (ratio_by.f a378).bind fun t390 => if t390 = 0 then (none) else (some (wrap64 (Int.tdiv (wrap64 ((wrap64 (t379 + t387)) - 1)) t390)))
def plan_Of.f (k : Nat) (a12 : Int) (a13 : Int) (a14 : Int) (a15 : Int) : Option (Int × Int × Int × Int × Int × Int × Int × Int × Int) := (plan_Check.f a12 a13 a14 a15).bind fun t67 => if t67 = 0 then ((ratio_Mul.f k [a12, a13]).bind fun t147 => (ratio_Add.f k [24, a14, t147]).bind fun t173 => (ratio_Mul.f k [wrap64 (a13 - 8), wrap64 (a13 - 1)]).bind fun t342 => (ratio_Mul.f k [a12, wrap64 (a13 + 1)]).bind fun t353 => (ratio_Mul.f k [3, t353]).bind fun t363 => (ratio_Add.f k [t363, 4]).bind fun t369 => (ratio_Up.f t369 a15).bind fun t394 => (ratio_Mul.f k [2, t394]).bind fun t400 => (ratio_Mul.f k [2, wrap64 ((wrap64 (a13 - 8)) + 1)]).bind fun t406 => (ratio_Add.f k [t400, t406]).bind fun t412 => (ratio_Add.f k [t369, t369, t353]).bind fun t499 => (ratio_Up.f t499 a15).bind fun t502 => (ratio_Add.f k [t502, 2]).bind fun t508 => some (t173, wrap64 (a13 - 8), wrap64 ((wrap64 (a13 - 8)) + 1), t342, t369, t353, t412, t508, 0)) else (some (0, 0, 0, 0, 0, 0, 0, 0, t67))
def quitrentlaw03_begun.f (k : Nat)  : Option (Bool) := (plan_Of.f k 100 16 4 2000).bind fun t599 => if t599.2.2.2.2.2.2.2.2 = 0 then (if t599.1 = 1628 then (if t599.2.1 = 8 then (if t599.2.2.1 = 9 then (if t599.2.2.2.1 = 120 then (if t599.2.2.2.2.1 = 5104 then (if t599.2.2.2.2.2.1 = 1700 then (if t599.2.2.2.2.2.2.1 = 24 then (if t599.2.2.2.2.2.2.2.1 = 8 then ((plan_Check.f 0 0 0 0).bind fun t639 => some (t639 == 1)) else (some false)) else (some false)) else (some false)) else (some false)) else (some false)) else (some false)) else (some false)) else (some false)) else (some false)
def quitrentlaw03_PlanHalf.f (k : Nat) (a1 : Int) (a2 : Int) (a3 : Int) (a4 : Int) : Option (Bool) := (plan_Of.f k a1 a2 a3 a4).bind fun t572 => if t572.2.2.2.2.2.2.2.2 = 0 then (if a4 < (wrap64 (24 * (wrap64 (a2 + 1)))) then ((quitrentlaw03_begun.f k).bind fun t642 => some t642) else (if a1 < (wrap64 (40 * a2)) then ((quitrentlaw03_begun.f k).bind fun t642 => some t642) else ((quitrentlaw03_begun.f k).bind fun t649 => if t649 = true then (some (decide (t572.2.2.2.2.2.2.1 < (wrap64 (Int.tdiv (wrap64 (a1 + 1)) 2))))) else (some false)))) else ((quitrentlaw03_begun.f k).bind fun t642 => some t642)
end Go.Proofs.Ytgkpcboaiaiahaa.C

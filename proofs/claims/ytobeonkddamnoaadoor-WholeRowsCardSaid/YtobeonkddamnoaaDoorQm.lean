/- What the plain functions of this seat's walks are made of: how a loop ends, a slice's length. No condition. -/
import Derived.Test.YtobeonkddamnoaaDoorWp
import Derived.Laws.BitsLemmas
namespace Go.Proofs.YtobeonkddamnoaaDoor.M
/-- How a loop ends that may end its function. -/
inductive Lp (S R : Type) where
  | out (s : S)
  | ret (r : R)
def Lp.elim {S R T : Type} : Lp S R → (R → Option T) → (S → Option T) → Option T
  | .ret x, g, _ => g x
  | .out s, _, f => f s
/-- A slice's length, as make takes it. -/
def mkLen (N : Nat) (a : Int) : Option Nat := if 0 ≤ a ∧ a ≤ N then some a.toNat else none
end Go.Proofs.YtobeonkddamnoaaDoor.M

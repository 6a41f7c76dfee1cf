/- Words for this seat's walks: an array of any values, indexed. No condition. -/
import Derived.Test.YtgkpcboaiaiahabDoorQw
namespace Go.Proofs.YtgkpcboaiaiahabDoor.Q
open Go.RowKit Go.Proofs.YtgkpcboaiaiahabDoorW.PrintWords
set_option linter.unusedSimpArgs false
theorem run_index_val {P : Program} (t e n : Nat) (kx : IntKind) (cs : Array Value) (i : Int) (j : Nat) (v : Value) (hi : i = (j : Int)) (hj : j < n) (h : P.underlying t = some (.array n e)) (aE : ∀ w, (isAgg e).run P w = .ok false w) (zE : ∀ w, (Go.sizeOf e).run P w = .ok 1 w) (hv : cs[j]? = some v) (w : World) :
    (Instr.index t (.agg cs) (.int kx i)).run P w = .ok v w := by
  subst hi
  have hn : (0 : Int) ≤ (j : Int) ∧ (j : Int) < (n : Int) := by omega
  simp [Instr.index, run_underlying h, asIntOf, hn, hj, Nat.not_le.mpr hj, go_sem, aE, zE, part, hv]
end Go.Proofs.YtgkpcboaiaiahabDoor.Q

/-
  No cell of these rows narrows 'for every input' (looked for: loops, veiled, ifaces, maps, wideKeys, modest, calm, conditions, laid).
  DERIVED. THE GIVEN ROWS OF THIS SEAT. 14 by the template 'for every input the law returns true; each argument reads behind the call as it read before'; 0 by the template 'total and deterministic' (their statements: YtobeonkddamnoaaTotals.lean).
  GIVEN WITH THE SEED: the statements are not yours to turn. If you find one false, say at which input.
  Laid BY PROGRAM, IN A SANDBOX (cutbox-rows.mjs): the forced cells as the released guide's own fill.sh prints them over the translation eefe79f91a3bd36d… (all of the seat's roots in one cut). By AI agents, Wed Nov 11 2026. No macro, syntax, notation, axiom, sorry.
-/
import Derived.Test.YtobeonkddamnoaaChecked
import GoSem.Claim
import GoSem.ClaimJoined
import GoSem.ClaimMapViews
import Derived.JoinedTies
import Derived.KernelRfl
namespace Go.Proofs.Ytobeonkddamnoaa
/- THE CELL 'sum', in the pinned program and in every row, IS THE sha256 OF THE DUMP (.gsa) THAT YtobeonkddamnoaaProg.lean LOADS. Nothing in Lean hashes anything: it is a label: what it is worth is what the hold of that sum in a sandbox is worth. -/
noncomputable def Try.pinned : Pinned := { name := "ytobeonkddamnoaa", sum := "eefe79f91a3bd36d7433dce016064c8438d0a599495982cf8b236a09eb5bbdf4", checked := Try.checked }
namespace Rows
def none {H : Type} : Left H := { results := [], args := [] }

/-- 'quitrentlaw04.StoreKeeps': WHATEVER THE INPUT: true; the input reads as it did. -/
def storeKeepsSpec : ChangeSpec := { name := "storeKeeps", fn := fun _ => fun
  | [d1, d2, d3, d4] => { results := [.lit (.bool true)], args := [d1, d2, d3, d4] }
  | _ => none }
def storeKeepsRow : OpenClaim := { program := "ytobeonkddamnoaa", sum := "eefe79f91a3bd36d7433dce016064c8438d0a599495982cf8b236a09eb5bbdf4", func := "quitrent/quitrentlaw04.StoreKeeps", spec := "storeKeeps", inPlace := ["sync/atomic.AddUint64", "sync/atomic.LoadUint64"], apart := false }
def StoreKeepsSaid : Prop := storeKeepsRow.holds Try.pinned (OpenSpec.ofChange storeKeepsSpec)

/-- ITS FALSE NEIGHBOUR: 'it returns false'. Refute it at one input. -/
def storeKeepsWrong : ChangeSpec := { name := "storeKeeps", fn := fun _ => fun
  | [d1, d2, d3, d4] => { results := [.lit (.bool false)], args := [d1, d2, d3, d4] }
  | _ => none }
def StoreKeepsWrongFalsely : Prop := storeKeepsRow.holds Try.pinned (OpenSpec.ofChange storeKeepsWrong)

/-- 'quitrentlaw04.StorePlays': WHATEVER THE INPUT: true; the input reads as it did. -/
def storePlaysSpec : ChangeSpec := { name := "storePlays", fn := fun _ => fun
  | [d1, d2] => { results := [.lit (.bool true)], args := [d1, d2] }
  | _ => none }
def storePlaysRow : OpenClaim := { program := "ytobeonkddamnoaa", sum := "eefe79f91a3bd36d7433dce016064c8438d0a599495982cf8b236a09eb5bbdf4", func := "quitrent/quitrentlaw04.StorePlays", spec := "storePlays", inPlace := ["sync/atomic.AddUint64", "sync/atomic.LoadUint64"], apart := false }
def StorePlaysSaid : Prop := storePlaysRow.holds Try.pinned (OpenSpec.ofChange storePlaysSpec)

/-- ITS FALSE NEIGHBOUR: 'it returns false'. Refute it at one input. -/
def storePlaysWrong : ChangeSpec := { name := "storePlays", fn := fun _ => fun
  | [d1, d2] => { results := [.lit (.bool false)], args := [d1, d2] }
  | _ => none }
def StorePlaysWrongFalsely : Prop := storePlaysRow.holds Try.pinned (OpenSpec.ofChange storePlaysWrong)

/-- 'quitrentlaw04.StoreMakes': WHATEVER THE INPUT: true; the input reads as it did. -/
def storeMakesSpec : ChangeSpec := { name := "storeMakes", fn := fun _ => fun
  | [d1, d2] => { results := [.lit (.bool true)], args := [d1, d2] }
  | _ => none }
def storeMakesRow : OpenClaim := { program := "ytobeonkddamnoaa", sum := "eefe79f91a3bd36d7433dce016064c8438d0a599495982cf8b236a09eb5bbdf4", func := "quitrent/quitrentlaw04.StoreMakes", spec := "storeMakes", inPlace := ["sync/atomic.AddUint64", "sync/atomic.LoadUint64"], apart := false }
def StoreMakesSaid : Prop := storeMakesRow.holds Try.pinned (OpenSpec.ofChange storeMakesSpec)

/-- ITS FALSE NEIGHBOUR: 'it returns false'. Refute it at one input. -/
def storeMakesWrong : ChangeSpec := { name := "storeMakes", fn := fun _ => fun
  | [d1, d2] => { results := [.lit (.bool false)], args := [d1, d2] }
  | _ => none }
def StoreMakesWrongFalsely : Prop := storeMakesRow.holds Try.pinned (OpenSpec.ofChange storeMakesWrong)

/-- 'quitrentlaw04.StoreNobody': WHATEVER THE INPUT: true; the input reads as it did. -/
def storeNobodySpec : ChangeSpec := { name := "storeNobody", fn := fun _ => fun
  | [d1, d2] => { results := [.lit (.bool true)], args := [d1, d2] }
  | _ => none }
def storeNobodyRow : OpenClaim := { program := "ytobeonkddamnoaa", sum := "eefe79f91a3bd36d7433dce016064c8438d0a599495982cf8b236a09eb5bbdf4", func := "quitrent/quitrentlaw04.StoreNobody", spec := "storeNobody", inPlace := ["sync/atomic.AddUint64", "sync/atomic.LoadUint64"], apart := false }
def StoreNobodySaid : Prop := storeNobodyRow.holds Try.pinned (OpenSpec.ofChange storeNobodySpec)

/-- ITS FALSE NEIGHBOUR: 'it returns false'. Refute it at one input. -/
def storeNobodyWrong : ChangeSpec := { name := "storeNobody", fn := fun _ => fun
  | [d1, d2] => { results := [.lit (.bool false)], args := [d1, d2] }
  | _ => none }
def StoreNobodyWrongFalsely : Prop := storeNobodyRow.holds Try.pinned (OpenSpec.ofChange storeNobodyWrong)

/-- 'quitrentlaw05.GroundLoads': WHATEVER THE INPUT: true; the input reads as it did. -/
def groundLoadsSpec : ChangeSpec := { name := "groundLoads", fn := fun _ => fun
  | [d1, d2, d3] => { results := [.lit (.bool true)], args := [d1, d2, d3] }
  | _ => none }
def groundLoadsRow : OpenClaim := { program := "ytobeonkddamnoaa", sum := "eefe79f91a3bd36d7433dce016064c8438d0a599495982cf8b236a09eb5bbdf4", func := "quitrent/quitrentlaw05.GroundLoads", spec := "groundLoads", inPlace := ["sync/atomic.AddUint64", "sync/atomic.LoadUint64"], unfollowed := true, recurses := true, apart := false }
def GroundLoadsSaid : Prop := groundLoadsRow.holds Try.pinned (OpenSpec.ofChange groundLoadsSpec)

/-- ITS FALSE NEIGHBOUR: 'it returns false'. Refute it at one input. -/
def groundLoadsWrong : ChangeSpec := { name := "groundLoads", fn := fun _ => fun
  | [d1, d2, d3] => { results := [.lit (.bool false)], args := [d1, d2, d3] }
  | _ => none }
def GroundLoadsWrongFalsely : Prop := groundLoadsRow.holds Try.pinned (OpenSpec.ofChange groundLoadsWrong)

/-- 'quitrentlaw05.GroundApart': WHATEVER THE INPUT: true; the input reads as it did. -/
def groundApartSpec : ChangeSpec := { name := "groundApart", fn := fun _ => fun
  | [d1, d2, d3] => { results := [.lit (.bool true)], args := [d1, d2, d3] }
  | _ => none }
def groundApartRow : OpenClaim := { program := "ytobeonkddamnoaa", sum := "eefe79f91a3bd36d7433dce016064c8438d0a599495982cf8b236a09eb5bbdf4", func := "quitrent/quitrentlaw05.GroundApart", spec := "groundApart", inPlace := ["sync/atomic.AddUint64", "sync/atomic.LoadUint64"], unfollowed := true, recurses := true, apart := false }
def GroundApartSaid : Prop := groundApartRow.holds Try.pinned (OpenSpec.ofChange groundApartSpec)

/-- ITS FALSE NEIGHBOUR: 'it returns false'. Refute it at one input. -/
def groundApartWrong : ChangeSpec := { name := "groundApart", fn := fun _ => fun
  | [d1, d2, d3] => { results := [.lit (.bool false)], args := [d1, d2, d3] }
  | _ => none }
def GroundApartWrongFalsely : Prop := groundApartRow.holds Try.pinned (OpenSpec.ofChange groundApartWrong)

/-- 'quitrentlaw05.GroundPlays': WHATEVER THE INPUT: true; the input reads as it did. -/
def groundPlaysSpec : ChangeSpec := { name := "groundPlays", fn := fun _ => fun
  | [d1, d2] => { results := [.lit (.bool true)], args := [d1, d2] }
  | _ => none }
def groundPlaysRow : OpenClaim := { program := "ytobeonkddamnoaa", sum := "eefe79f91a3bd36d7433dce016064c8438d0a599495982cf8b236a09eb5bbdf4", func := "quitrent/quitrentlaw05.GroundPlays", spec := "groundPlays", inPlace := ["sync/atomic.AddUint64", "sync/atomic.LoadUint64"], unfollowed := true, recurses := true, apart := false }
def GroundPlaysSaid : Prop := groundPlaysRow.holds Try.pinned (OpenSpec.ofChange groundPlaysSpec)

/-- ITS FALSE NEIGHBOUR: 'it returns false'. Refute it at one input. -/
def groundPlaysWrong : ChangeSpec := { name := "groundPlays", fn := fun _ => fun
  | [d1, d2] => { results := [.lit (.bool false)], args := [d1, d2] }
  | _ => none }
def GroundPlaysWrongFalsely : Prop := groundPlaysRow.holds Try.pinned (OpenSpec.ofChange groundPlaysWrong)

/-- 'quitrentlaw05.GroundNobody': WHATEVER THE INPUT: true; the input reads as it did. -/
def groundNobodySpec : ChangeSpec := { name := "groundNobody", fn := fun _ => fun
  | [d1, d2, d3] => { results := [.lit (.bool true)], args := [d1, d2, d3] }
  | _ => none }
def groundNobodyRow : OpenClaim := { program := "ytobeonkddamnoaa", sum := "eefe79f91a3bd36d7433dce016064c8438d0a599495982cf8b236a09eb5bbdf4", func := "quitrent/quitrentlaw05.GroundNobody", spec := "groundNobody", inPlace := ["sync/atomic.AddUint64", "sync/atomic.LoadUint64"], unfollowed := true, recurses := true, apart := false }
def GroundNobodySaid : Prop := groundNobodyRow.holds Try.pinned (OpenSpec.ofChange groundNobodySpec)

/-- ITS FALSE NEIGHBOUR: 'it returns false'. Refute it at one input. -/
def groundNobodyWrong : ChangeSpec := { name := "groundNobody", fn := fun _ => fun
  | [d1, d2, d3] => { results := [.lit (.bool false)], args := [d1, d2, d3] }
  | _ => none }
def GroundNobodyWrongFalsely : Prop := groundNobodyRow.holds Try.pinned (OpenSpec.ofChange groundNobodyWrong)

/-- 'quitrentlaw08.ChainOrder': WHATEVER THE INPUT: true; the input reads as it did. -/
def chainOrderSpec : ChangeSpec := { name := "chainOrder", fn := fun _ => fun
  | [d1, d2, d3] => { results := [.lit (.bool true)], args := [d1, d2, d3] }
  | _ => none }
def chainOrderRow : OpenClaim := { program := "ytobeonkddamnoaa", sum := "eefe79f91a3bd36d7433dce016064c8438d0a599495982cf8b236a09eb5bbdf4", func := "quitrent/quitrentlaw08.ChainOrder", spec := "chainOrder", inPlace := ["sync/atomic.AddUint64"], unfollowed := true, recurses := true, apart := false }
def ChainOrderSaid : Prop := chainOrderRow.holds Try.pinned (OpenSpec.ofChange chainOrderSpec)

/-- ITS FALSE NEIGHBOUR: 'it returns false'. Refute it at one input. -/
def chainOrderWrong : ChangeSpec := { name := "chainOrder", fn := fun _ => fun
  | [d1, d2, d3] => { results := [.lit (.bool false)], args := [d1, d2, d3] }
  | _ => none }
def ChainOrderWrongFalsely : Prop := chainOrderRow.holds Try.pinned (OpenSpec.ofChange chainOrderWrong)

/-- 'quitrentlaw08.ChainNobody': WHATEVER THE INPUT: true; the input reads as it did. -/
def chainNobodySpec : ChangeSpec := { name := "chainNobody", fn := fun _ => fun
  | [d1, d2] => { results := [.lit (.bool true)], args := [d1, d2] }
  | _ => none }
def chainNobodyRow : OpenClaim := { program := "ytobeonkddamnoaa", sum := "eefe79f91a3bd36d7433dce016064c8438d0a599495982cf8b236a09eb5bbdf4", func := "quitrent/quitrentlaw08.ChainNobody", spec := "chainNobody", inPlace := ["sync/atomic.AddUint64"], unfollowed := true, recurses := true, apart := false }
def ChainNobodySaid : Prop := chainNobodyRow.holds Try.pinned (OpenSpec.ofChange chainNobodySpec)

/-- ITS FALSE NEIGHBOUR: 'it returns false'. Refute it at one input. -/
def chainNobodyWrong : ChangeSpec := { name := "chainNobody", fn := fun _ => fun
  | [d1, d2] => { results := [.lit (.bool false)], args := [d1, d2] }
  | _ => none }
def ChainNobodyWrongFalsely : Prop := chainNobodyRow.holds Try.pinned (OpenSpec.ofChange chainNobodyWrong)

/-- 'quitrentlaw08.ChainPlays': WHATEVER THE INPUT: true; the input reads as it did. -/
def chainPlaysSpec : ChangeSpec := { name := "chainPlays", fn := fun _ => fun
  | [d1, d2] => { results := [.lit (.bool true)], args := [d1, d2] }
  | _ => none }
def chainPlaysRow : OpenClaim := { program := "ytobeonkddamnoaa", sum := "eefe79f91a3bd36d7433dce016064c8438d0a599495982cf8b236a09eb5bbdf4", func := "quitrent/quitrentlaw08.ChainPlays", spec := "chainPlays", inPlace := ["sync/atomic.AddUint64", "sync/atomic.LoadUint64"], unfollowed := true, recurses := true, apart := false }
def ChainPlaysSaid : Prop := chainPlaysRow.holds Try.pinned (OpenSpec.ofChange chainPlaysSpec)

/-- ITS FALSE NEIGHBOUR: 'it returns false'. Refute it at one input. -/
def chainPlaysWrong : ChangeSpec := { name := "chainPlays", fn := fun _ => fun
  | [d1, d2] => { results := [.lit (.bool false)], args := [d1, d2] }
  | _ => none }
def ChainPlaysWrongFalsely : Prop := chainPlaysRow.holds Try.pinned (OpenSpec.ofChange chainPlaysWrong)

/-- 'quitrentlaw10.PoolKeeps': WHATEVER THE INPUT: true; the input reads as it did. -/
def poolKeepsSpec : ChangeSpec := { name := "poolKeeps", fn := fun _ => fun
  | [d1, d2] => { results := [.lit (.bool true)], args := [d1, d2] }
  | _ => none }
def poolKeepsRow : OpenClaim := { program := "ytobeonkddamnoaa", sum := "eefe79f91a3bd36d7433dce016064c8438d0a599495982cf8b236a09eb5bbdf4", func := "quitrent/quitrentlaw10.PoolKeeps", spec := "poolKeeps", inPlace := ["sync/atomic.AddUint64"], unfollowed := true, recurses := true, apart := false }
def PoolKeepsSaid : Prop := poolKeepsRow.holds Try.pinned (OpenSpec.ofChange poolKeepsSpec)

/-- ITS FALSE NEIGHBOUR: 'it returns false'. Refute it at one input. -/
def poolKeepsWrong : ChangeSpec := { name := "poolKeeps", fn := fun _ => fun
  | [d1, d2] => { results := [.lit (.bool false)], args := [d1, d2] }
  | _ => none }
def PoolKeepsWrongFalsely : Prop := poolKeepsRow.holds Try.pinned (OpenSpec.ofChange poolKeepsWrong)

/-- 'quitrentlaw10.PoolNobody': WHATEVER THE INPUT: true; the input reads as it did. -/
def poolNobodySpec : ChangeSpec := { name := "poolNobody", fn := fun _ => fun
  | [d1, d2] => { results := [.lit (.bool true)], args := [d1, d2] }
  | _ => none }
def poolNobodyRow : OpenClaim := { program := "ytobeonkddamnoaa", sum := "eefe79f91a3bd36d7433dce016064c8438d0a599495982cf8b236a09eb5bbdf4", func := "quitrent/quitrentlaw10.PoolNobody", spec := "poolNobody", inPlace := ["sync/atomic.AddUint64"], unfollowed := true, recurses := true, apart := false }
def PoolNobodySaid : Prop := poolNobodyRow.holds Try.pinned (OpenSpec.ofChange poolNobodySpec)

/-- ITS FALSE NEIGHBOUR: 'it returns false'. Refute it at one input. -/
def poolNobodyWrong : ChangeSpec := { name := "poolNobody", fn := fun _ => fun
  | [d1, d2] => { results := [.lit (.bool false)], args := [d1, d2] }
  | _ => none }
def PoolNobodyWrongFalsely : Prop := poolNobodyRow.holds Try.pinned (OpenSpec.ofChange poolNobodyWrong)

/-- 'quitrentlaw10.PoolPlays': WHATEVER THE INPUT: true; the input reads as it did. -/
def poolPlaysSpec : ChangeSpec := { name := "poolPlays", fn := fun _ => fun
  | [d1, d2] => { results := [.lit (.bool true)], args := [d1, d2] }
  | _ => none }
def poolPlaysRow : OpenClaim := { program := "ytobeonkddamnoaa", sum := "eefe79f91a3bd36d7433dce016064c8438d0a599495982cf8b236a09eb5bbdf4", func := "quitrent/quitrentlaw10.PoolPlays", spec := "poolPlays", inPlace := ["sync/atomic.AddUint64", "sync/atomic.LoadUint64"], unfollowed := true, recurses := true, apart := false }
def PoolPlaysSaid : Prop := poolPlaysRow.holds Try.pinned (OpenSpec.ofChange poolPlaysSpec)

/-- ITS FALSE NEIGHBOUR: 'it returns false'. Refute it at one input. -/
def poolPlaysWrong : ChangeSpec := { name := "poolPlays", fn := fun _ => fun
  | [d1, d2] => { results := [.lit (.bool false)], args := [d1, d2] }
  | _ => none }
def PoolPlaysWrongFalsely : Prop := poolPlaysRow.holds Try.pinned (OpenSpec.ofChange poolPlaysWrong)

/- THE SECOND FORM. 'bulk': how many values and letters a reading holds, each counted each time it is reached (what is shared counts as often as it is met; a slice's spare places count too). A statement '..UptoSaid' is the law's where the arguments, and the package variables that the reading takes, are together of bulk at most 1048576: NARROWER than '..Said'. Prove '..Said' where nothing that the law and all that it calls make is longer than what came in: it says more and counts as full. Else prove '..UptoSaid'. A law counts once. -/
mutual
def uptoBulk {H : Type} : DataW H → Nat
  | .lit (.string bytes) => bytes.length + 1
  | .lit _ => 1
  | .nil => 1
  | .ptr d => uptoBulk d + 1
  | .slice elems spare => uptoBulkAll elems + uptoBulkAll spare + 1
  | .agg parts => uptoBulkAll parts + 1
  | .iface _ d => uptoBulk d + 1
  | .map entries => uptoBulkEntries entries + 1
  | .held _ => 1
def uptoBulkAll {H : Type} : List (DataW H) → Nat
  | [] => 0
  | d :: r => uptoBulk d + uptoBulkAll r
def uptoBulkEntries {H : Type} : List (Lit × DataW H) → Nat
  | [] => 0
  | x :: r => uptoBulkEntry x + uptoBulkEntries r
def uptoBulkEntry {H : Type} : Lit × DataW H → Nat
  | (.string bytes, d) => bytes.length + uptoBulk d + 1
  | (_, d) => uptoBulk d + 1
 end
def uptoSmall : (H : Type) → List (DataW H) → Bool := fun _ ds => decide (uptoBulkAll ds ≤ 1048576)
def OpenSpec.upto (s : _root_.Go.ChangeSpec) : _root_.Go.OpenSpec := { _root_.Go.OpenSpec.ofChange s with cond := some uptoSmall }

/-- 'quitrentlaw04.StoreKeeps', WHERE WHAT IT READS IS OF BULK AT MOST 1048576: true; the input reads as it did. -/
def storeKeepsUptoRow : OpenClaim := { program := "ytobeonkddamnoaa", sum := "eefe79f91a3bd36d7433dce016064c8438d0a599495982cf8b236a09eb5bbdf4", func := "quitrent/quitrentlaw04.StoreKeeps", spec := "storeKeeps", inPlace := ["sync/atomic.AddUint64", "sync/atomic.LoadUint64"], apart := false, narrowed := true }
def StoreKeepsUptoSaid : Prop := storeKeepsUptoRow.holds Try.pinned (OpenSpec.upto storeKeepsSpec)

/-- 'quitrentlaw04.StorePlays', WHERE WHAT IT READS IS OF BULK AT MOST 1048576: true; the input reads as it did. -/
def storePlaysUptoRow : OpenClaim := { program := "ytobeonkddamnoaa", sum := "eefe79f91a3bd36d7433dce016064c8438d0a599495982cf8b236a09eb5bbdf4", func := "quitrent/quitrentlaw04.StorePlays", spec := "storePlays", inPlace := ["sync/atomic.AddUint64", "sync/atomic.LoadUint64"], apart := false, narrowed := true }
def StorePlaysUptoSaid : Prop := storePlaysUptoRow.holds Try.pinned (OpenSpec.upto storePlaysSpec)

/-- 'quitrentlaw04.StoreMakes', WHERE WHAT IT READS IS OF BULK AT MOST 1048576: true; the input reads as it did. -/
def storeMakesUptoRow : OpenClaim := { program := "ytobeonkddamnoaa", sum := "eefe79f91a3bd36d7433dce016064c8438d0a599495982cf8b236a09eb5bbdf4", func := "quitrent/quitrentlaw04.StoreMakes", spec := "storeMakes", inPlace := ["sync/atomic.AddUint64", "sync/atomic.LoadUint64"], apart := false, narrowed := true }
def StoreMakesUptoSaid : Prop := storeMakesUptoRow.holds Try.pinned (OpenSpec.upto storeMakesSpec)

/-- 'quitrentlaw04.StoreNobody', WHERE WHAT IT READS IS OF BULK AT MOST 1048576: true; the input reads as it did. -/
def storeNobodyUptoRow : OpenClaim := { program := "ytobeonkddamnoaa", sum := "eefe79f91a3bd36d7433dce016064c8438d0a599495982cf8b236a09eb5bbdf4", func := "quitrent/quitrentlaw04.StoreNobody", spec := "storeNobody", inPlace := ["sync/atomic.AddUint64", "sync/atomic.LoadUint64"], apart := false, narrowed := true }
def StoreNobodyUptoSaid : Prop := storeNobodyUptoRow.holds Try.pinned (OpenSpec.upto storeNobodySpec)

/-- 'quitrentlaw05.GroundLoads', WHERE WHAT IT READS IS OF BULK AT MOST 1048576: true; the input reads as it did. -/
def groundLoadsUptoRow : OpenClaim := { program := "ytobeonkddamnoaa", sum := "eefe79f91a3bd36d7433dce016064c8438d0a599495982cf8b236a09eb5bbdf4", func := "quitrent/quitrentlaw05.GroundLoads", spec := "groundLoads", inPlace := ["sync/atomic.AddUint64", "sync/atomic.LoadUint64"], unfollowed := true, recurses := true, apart := false, narrowed := true }
def GroundLoadsUptoSaid : Prop := groundLoadsUptoRow.holds Try.pinned (OpenSpec.upto groundLoadsSpec)

/-- 'quitrentlaw05.GroundApart', WHERE WHAT IT READS IS OF BULK AT MOST 1048576: true; the input reads as it did. -/
def groundApartUptoRow : OpenClaim := { program := "ytobeonkddamnoaa", sum := "eefe79f91a3bd36d7433dce016064c8438d0a599495982cf8b236a09eb5bbdf4", func := "quitrent/quitrentlaw05.GroundApart", spec := "groundApart", inPlace := ["sync/atomic.AddUint64", "sync/atomic.LoadUint64"], unfollowed := true, recurses := true, apart := false, narrowed := true }
def GroundApartUptoSaid : Prop := groundApartUptoRow.holds Try.pinned (OpenSpec.upto groundApartSpec)

/-- 'quitrentlaw05.GroundPlays', WHERE WHAT IT READS IS OF BULK AT MOST 1048576: true; the input reads as it did. -/
def groundPlaysUptoRow : OpenClaim := { program := "ytobeonkddamnoaa", sum := "eefe79f91a3bd36d7433dce016064c8438d0a599495982cf8b236a09eb5bbdf4", func := "quitrent/quitrentlaw05.GroundPlays", spec := "groundPlays", inPlace := ["sync/atomic.AddUint64", "sync/atomic.LoadUint64"], unfollowed := true, recurses := true, apart := false, narrowed := true }
def GroundPlaysUptoSaid : Prop := groundPlaysUptoRow.holds Try.pinned (OpenSpec.upto groundPlaysSpec)

/-- 'quitrentlaw05.GroundNobody', WHERE WHAT IT READS IS OF BULK AT MOST 1048576: true; the input reads as it did. -/
def groundNobodyUptoRow : OpenClaim := { program := "ytobeonkddamnoaa", sum := "eefe79f91a3bd36d7433dce016064c8438d0a599495982cf8b236a09eb5bbdf4", func := "quitrent/quitrentlaw05.GroundNobody", spec := "groundNobody", inPlace := ["sync/atomic.AddUint64", "sync/atomic.LoadUint64"], unfollowed := true, recurses := true, apart := false, narrowed := true }
def GroundNobodyUptoSaid : Prop := groundNobodyUptoRow.holds Try.pinned (OpenSpec.upto groundNobodySpec)

/-- 'quitrentlaw08.ChainOrder', WHERE WHAT IT READS IS OF BULK AT MOST 1048576: true; the input reads as it did. -/
def chainOrderUptoRow : OpenClaim := { program := "ytobeonkddamnoaa", sum := "eefe79f91a3bd36d7433dce016064c8438d0a599495982cf8b236a09eb5bbdf4", func := "quitrent/quitrentlaw08.ChainOrder", spec := "chainOrder", inPlace := ["sync/atomic.AddUint64"], unfollowed := true, recurses := true, apart := false, narrowed := true }
def ChainOrderUptoSaid : Prop := chainOrderUptoRow.holds Try.pinned (OpenSpec.upto chainOrderSpec)

/-- 'quitrentlaw08.ChainNobody', WHERE WHAT IT READS IS OF BULK AT MOST 1048576: true; the input reads as it did. -/
def chainNobodyUptoRow : OpenClaim := { program := "ytobeonkddamnoaa", sum := "eefe79f91a3bd36d7433dce016064c8438d0a599495982cf8b236a09eb5bbdf4", func := "quitrent/quitrentlaw08.ChainNobody", spec := "chainNobody", inPlace := ["sync/atomic.AddUint64"], unfollowed := true, recurses := true, apart := false, narrowed := true }
def ChainNobodyUptoSaid : Prop := chainNobodyUptoRow.holds Try.pinned (OpenSpec.upto chainNobodySpec)

/-- 'quitrentlaw08.ChainPlays', WHERE WHAT IT READS IS OF BULK AT MOST 1048576: true; the input reads as it did. -/
def chainPlaysUptoRow : OpenClaim := { program := "ytobeonkddamnoaa", sum := "eefe79f91a3bd36d7433dce016064c8438d0a599495982cf8b236a09eb5bbdf4", func := "quitrent/quitrentlaw08.ChainPlays", spec := "chainPlays", inPlace := ["sync/atomic.AddUint64", "sync/atomic.LoadUint64"], unfollowed := true, recurses := true, apart := false, narrowed := true }
def ChainPlaysUptoSaid : Prop := chainPlaysUptoRow.holds Try.pinned (OpenSpec.upto chainPlaysSpec)

/-- 'quitrentlaw10.PoolKeeps', WHERE WHAT IT READS IS OF BULK AT MOST 1048576: true; the input reads as it did. -/
def poolKeepsUptoRow : OpenClaim := { program := "ytobeonkddamnoaa", sum := "eefe79f91a3bd36d7433dce016064c8438d0a599495982cf8b236a09eb5bbdf4", func := "quitrent/quitrentlaw10.PoolKeeps", spec := "poolKeeps", inPlace := ["sync/atomic.AddUint64"], unfollowed := true, recurses := true, apart := false, narrowed := true }
def PoolKeepsUptoSaid : Prop := poolKeepsUptoRow.holds Try.pinned (OpenSpec.upto poolKeepsSpec)

/-- 'quitrentlaw10.PoolNobody', WHERE WHAT IT READS IS OF BULK AT MOST 1048576: true; the input reads as it did. -/
def poolNobodyUptoRow : OpenClaim := { program := "ytobeonkddamnoaa", sum := "eefe79f91a3bd36d7433dce016064c8438d0a599495982cf8b236a09eb5bbdf4", func := "quitrent/quitrentlaw10.PoolNobody", spec := "poolNobody", inPlace := ["sync/atomic.AddUint64"], unfollowed := true, recurses := true, apart := false, narrowed := true }
def PoolNobodyUptoSaid : Prop := poolNobodyUptoRow.holds Try.pinned (OpenSpec.upto poolNobodySpec)

/-- 'quitrentlaw10.PoolPlays', WHERE WHAT IT READS IS OF BULK AT MOST 1048576: true; the input reads as it did. -/
def poolPlaysUptoRow : OpenClaim := { program := "ytobeonkddamnoaa", sum := "eefe79f91a3bd36d7433dce016064c8438d0a599495982cf8b236a09eb5bbdf4", func := "quitrent/quitrentlaw10.PoolPlays", spec := "poolPlays", inPlace := ["sync/atomic.AddUint64", "sync/atomic.LoadUint64"], unfollowed := true, recurses := true, apart := false, narrowed := true }
def PoolPlaysUptoSaid : Prop := poolPlaysUptoRow.holds Try.pinned (OpenSpec.upto poolPlaysSpec)

end Rows
end Go.Proofs.Ytobeonkddamnoaa

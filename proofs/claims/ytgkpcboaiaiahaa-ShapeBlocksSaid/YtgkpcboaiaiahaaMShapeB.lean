/- Plain functions: what the program's functions answer, for the group ShapeB. No condition. -/
import Derived.Test.YtgkpcboaiaiahaaQm
namespace Go.Proofs.Ytgkpcboaiaiahaa.C
open Go.RowKit Go.Proofs.Ytgkpcboaiaiahaa.M Go.Proofs.YtgkpcboaiaiahaaW.PrintWords
set_option linter.unusedVariables false
set_option linter.unusedSimpArgs false
def shape_isWidth.f (a15 : Int) : Option (Bool) := if a15 ≥ 16 then (some (decide (a15 ≤ 256))) else (some false)
def shape_inHead.f (a22 : Int) : Option (Int) := some (wrap64 (a22 - 8))
def shape_inLeaf.f (a26 : Int) : Option (Int) := some (wrap64 (a26 - 1))
def shape_most.f (a21 : Int) : Option (Int) := (shape_inHead.f a21).bind fun t23 => (shape_inLeaf.f a21).bind fun t27 => some (wrap64 (t23 * t27))
def shape_wrong.lo0 : Nat → (List Int) → (Int) → (Int) → Option (M.Lp (Unit) (Int))
  | 0, _, _, _ => none
  | k + 1, l11, x49, x50 => if x50 < (l11.length : Int) then (if 0 ≤ x50 then (if (rd l11 x50) < 0 then (some (.ret 3)) else (if (rd l11 x50) > x49 then (some (.ret 3)) else (shape_wrong.lo0 k l11 (wrap64 (x49 - (rd l11 x50))) (wrap64 (x50 + 1))))) else (none)) else (some (.out ()))
def shape_wrong.f (k : Nat) (a10 : Int) (l11 : List Int) : Option (Int) := (shape_isWidth.f a10).bind fun t17 => if t17 = true then ((shape_most.f a10).bind fun t30 => (shape_wrong.lo0 k l11 t30 0).bind fun o33q => M.Lp.elim o33q (fun r => some r) (fun o33 => some 0)) else (some 1)
def ratio_Clamp.f (a74 : Int) (a75 : Int) (a76 : Int) : Option (Int) := if a74 > a76 then (some a76) else (if a74 < a75 then (some a75) else (some a74))
def ratio_counts.f (a73 : Int) : Option (Int) := (ratio_Clamp.f a73 0 1125899906842624).bind fun t79 => some t79
def ratio_by.f (a85 : Int) : Option (Int) := (ratio_counts.f a85).bind fun t86 => if t86 < 1 then (some 1) else (some t86)
def ratio_Up.f (a71 : Int) (a72 : Int) : Option (Int) := (ratio_counts.f a71).bind fun t82 => (ratio_by.f a72).bind fun t90 => (ratio_by.f a72).bind fun t93 => if t93 = 0 then (none) else (some (wrap64 (Int.tdiv (wrap64 ((wrap64 (t82 + t90)) - 1)) t93)))
def shape_leaves.f (a62 : Int) (a63 : Int) : Option (Int) := (shape_inHead.f a62).bind fun t64 => if a63 ≤ t64 then (some 0) else ((shape_inLeaf.f a62).bind fun t68 => (ratio_Up.f a63 t68).bind fun t97 => some t97)
def shape_Blocks.f (k : Nat) (a4 : Int) (a5 : Int) (a6 : Int) : Option (Int × Int) := (shape_wrong.f k a4 [a5, a6]).bind fun t58 => if t58 = 0 then ((shape_leaves.f a4 (wrap64 (a5 + a6))).bind fun t100 => some (wrap64 (1 + t100), 0)) else (some (0, t58))
def quitrentref07_Width.f (a109 : Int) : Option (Bool) := if a109 ≥ 16 then (some (decide (a109 ≤ 256))) else (some false)
def quitrentref07_Fields.f (a120 : Int) : Option (Int) := some (wrap64 ((wrap64 (a120 - 8)) * (wrap64 (a120 - 1))))
def quitrentref07_Size.f (a115 : Int) (a116 : Int) (a117 : Int) : Option (Bool) := if a116 ≥ 0 then (if a117 ≥ 0 then ((quitrentref07_Fields.f a115).bind fun t121 => if a116 ≤ t121 then ((quitrentref07_Fields.f a115).bind fun t125 => if a117 ≤ t125 then ((quitrentref07_Fields.f a115).bind fun t129 => some (decide ((wrap64 (a116 + a117)) ≤ t129))) else (some false)) else (some false)) else (some false)) else (some false)
def quitrentref07_Leaves.lo0 : Nat → (Int) → (Int) → (Int) → Option (Int)
  | 0, _, _, _ => none
  | k + 1, a136, a137, x144 => if (wrap64 (x144 * (wrap64 (a136 - 1)))) < a137 then (quitrentref07_Leaves.lo0 k a136 a137 (wrap64 (x144 + 1))) else (some x144)
def quitrentref07_Leaves.f (k : Nat) (a136 : Int) (a137 : Int) : Option (Int) := if a137 ≤ (wrap64 (a136 - 8)) then (some 0) else ((quitrentref07_Leaves.lo0 k a136 a137 0).bind fun o139 => some o139)
def quitrentref07_Blocks.f (k : Nat) (a106 : Int) (a107 : Int) (a108 : Int) : Option (Int × Int) := (quitrentref07_Width.f a106).bind fun t111 => if t111 = true then ((quitrentref07_Size.f a106 a107 a108).bind fun t132 => if t132 = true then ((quitrentref07_Leaves.f k a106 (wrap64 (a107 + a108))).bind fun t147 => some (wrap64 (1 + t147), 0)) else (some (0, 3))) else (some (0, 1))
def shape_Place.f (k : Nat) (a162 : Int) (a163 : Int) (a164 : Int) : Option (Int × Int × Int) := (shape_wrong.f k a162 [a163]).bind fun t168 => if t168 = 0 then (if a164 < 0 then (some (0, 0, 7)) else (if a164 ≥ a163 then (some (0, 0, 7)) else ((shape_leaves.f a162 a163).bind fun t174 => if t174 = 0 then (some ((-1), wrap64 (8 + a164), 0)) else ((shape_inLeaf.f a162).bind fun t180 => if t180 = 0 then (none) else ((shape_inLeaf.f a162).bind fun t184 => if t184 = 0 then (none) else (some (wrap64 (Int.tdiv a164 t180), wrap64 (1 + (Int.tmod a164 t184)), 0))))))) else (some (0, 0, t168))
def shape_Largest.f (a198 : Int) (a199 : Int) : Option (Int) := (shape_isWidth.f a198).bind fun t200 => if t200 = true then (if a199 < 1 then (some 0) else ((shape_inHead.f a198).bind fun t205 => if a199 > (wrap64 (t205 + 1)) then (some 0) else (if a199 = 1 then ((shape_inHead.f a198).bind fun t210 => some t210) else ((shape_inLeaf.f a198).bind fun t213 => some (wrap64 ((wrap64 (a199 - 1)) * t213)))))) else (some 0)
def quitrentlaw07_begun.f (k : Nat)  : Option (Bool) := (shape_Blocks.f k 16 4 4).bind fun t153 => (shape_Blocks.f k 16 9 0).bind fun t156 => (shape_Blocks.f k 16 8 8).bind fun t159 => (shape_Place.f k 16 16 15).bind fun t188 => if t153.1 = 1 then (if t156.1 = 2 then (if t159.1 = 3 then (if t159.2 = 0 then (if t188.1 = 1 then (if t188.2.1 = 1 then (if t188.2.2 = 0 then ((shape_Largest.f 16 2).bind fun t216 => some (t216 == 15)) else (some false)) else (some false)) else (some false)) else (some false)) else (some false)) else (some false)) else (some false)
def quitrentlaw07_ShapeBlocks.f (k : Nat) (a1 : Int) (a2 : Int) (a3 : Int) : Option (Bool) := (shape_Blocks.f k a1 a2 a3).bind fun t103 => (quitrentref07_Blocks.f k a1 a2 a3).bind fun t150 => (quitrentlaw07_begun.f k).bind fun t219 => if t219 = true then (if t103.1 = t150.1 then (some (t103.2 == t150.2)) else (some false)) else (some false)
end Go.Proofs.Ytgkpcboaiaiahaa.C

/- Written by a program of this session: functions of the translation as plain Lean functions, each with a proof that the call does what the plain function says; the conditions stand in each theorem. -/
import Derived.Test.YtfjomkjngolboaaQ0
import Derived.Test.YtfjomkjngolboaaQ1
import Derived.Test.YtfjomkjngolboaaQ2
import Derived.Test.YtfjomkjngolboaaQ4
import Derived.Test.YtfjomkjngolboaaQ6
import Derived.Test.YtfjomkjngolboaaQ12
namespace Go.Proofs.Ytfjomkjngolboaa.Q
open Go.RowKit Go.Proofs.YtfjomkjngolboaaW.PrintWords Go.Proofs.YtfjomkjngolboaaW.PrintLast Go.Proofs.YtfjomkjngolboaaW.PrintMore
attribute [local go_sem] max2_int min2_int max_two min_two max_three min_three max_four min_four   -- for this text's walks alone
set_option linter.unusedVariables false
set_option linter.unusedSimpArgs false

/-! ### spec_faParts: function 27 -/
mutual
def spec_faParts.l0 : Nat → List Bool → List (List Int) → List Int → Int → Int → Int → Int → List Int → Int → Int → Option ((List (List Int)))
 | 0, _, _, _, _, _, _, _, _, _, _ => none
 | k + 1, x5, x6, x19, x20, x21, x398000, x398001, x398002, x399000, x399001 => if x21 < x20 then (if 0 ≤ x21 then (if x21 < (x19.length : Int) then (if 0 ≤ (rd x19 x21) then (if (rd x19 x21) < (x5.length : Int) then (if rdOf false x5 (rd x19 x21) = true then (spec_faParts.l0 k x5 x6 x19 x20 (wrap64 (x21 + 1)) x398000 x398001 x398002 x399000 x399001) else ((spec_faFrom.f k x398000 x398001 x398002 x399000 x399001 (rd x19 x21)).bind fun t407 => (spec_faParts.l1 k x5 x6 ([] : List Int) x19 x20 x21 t407 (t407.length : Int) 0 x398000 x398001 x398002 x399000 x399001))) else (none)) else (none)) else (none)) else (none)) else (some x6)
def spec_faParts.l1 : Nat → List Bool → List (List Int) → List Int → List Int → Int → Int → List Int → Int → Int → Int → Int → List Int → Int → Int → Option ((List (List Int)))
 | 0, _, _, _, _, _, _, _, _, _, _, _, _, _, _ => none
 | k + 1, x5, x6, x9, x19, x20, x21, x32, x33, x34, x398000, x398001, x398002, x399000, x399001 => if x34 < x33 then (if 0 ≤ x34 then (if x34 < (x32.length : Int) then (if (rd x32 x34) ≥ 0 then (if x9.length < 17592186044416 then (if x34 < (x5.length : Int) then (spec_faParts.l1 k (x5.set (x34 : Int).toNat true) x6 (x9 ++ [x34]) x19 x20 x21 x32 x33 (wrap64 (x34 + 1)) x398000 x398001 x398002 x399000 x399001) else (none)) else (none)) else (spec_faParts.l1 k x5 x6 x9 x19 x20 x21 x32 x33 (wrap64 (x34 + 1)) x398000 x398001 x398002 x399000 x399001)) else (none)) else (none)) else (if x6.length < 5864062014805 then (spec_faParts.l0 k x5 (x6 ++ [x9]) x19 x20 (wrap64 (x21 + 1)) x398000 x398001 x398002 x399000 x399001) else (none))
end
def spec_faParts.f (k : Nat) (a0_0 : Int) (a0_1 : Int) (l0_2 : List Int) (a1_0 : Int) (a1_1 : Int) : Option ((List (List Int))) := if 0 ≤ (wrap64 (a0_0 * a0_1)) then (if (wrap64 (a0_0 * a0_1) : Int).toNat ≤ 281474976710656 then ((spec_boCells.f k a0_0 a0_1 l0_2).bind fun t402 => (spec_faParts.l0 k (List.replicate (wrap64 (a0_0 * a0_1) : Int).toNat false) ([] : List (List Int)) t402 (t402.length : Int) 0 a0_0 a0_1 l0_2 a1_0 a1_1)) else (none)) else (none)
/-! ### spec_PartsOfBoard: function 11 -/
/-! ### impl_PartsOfBoard: function 12 -/
/-! ### laws_eqIntSS: function 13 -/
/-! ### laws_markIntS: function 30 -/
def laws_markIntS.l0 : Nat → List Int → Int → Int → Option (Int × List Int)
 | 0, _, _, _ => none
 | k + 1, x0, x1, x5 => if x5 < (x0.length : Int) then (if 0 ≤ x5 then (laws_markIntS.l0 k (x0.set (x5 : Int).toNat x1) (wrap64 (x1 + 1)) (wrap64 (x5 + 1))) else (none)) else (some (x1, x0))
def laws_markIntS.f (k : Nat) (l0 : List Int) (a1 : Int) : Option (Int × List Int) := laws_markIntS.l0 k l0 a1 0
/-! ### laws_markBoard: function 14 -/
def laws_markBoard.f (k : Nat) (a0_0 : Int) (a0_1 : Int) (l0_2 : List Int) (a1 : Int) : Option (Int × List Int) := (laws_markIntS.f k l0_2 a1).bind fun bt443 => (some (bt443.1, bt443.2))
end Go.Proofs.Ytfjomkjngolboaa.Q

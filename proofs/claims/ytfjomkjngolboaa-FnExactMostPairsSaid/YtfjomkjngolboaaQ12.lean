/- Written by a program of this session: functions of the translation as plain Lean functions, each with a proof that the call does what the plain function says; the conditions stand in each theorem. -/
import Derived.Test.YtfjomkjngolboaaQ0
import Derived.Test.YtfjomkjngolboaaQ2
namespace Go.Proofs.Ytfjomkjngolboaa.Q
open Go.RowKit Go.Proofs.YtfjomkjngolboaaW.PrintWords Go.Proofs.YtfjomkjngolboaaW.PrintLast Go.Proofs.YtfjomkjngolboaaW.PrintMore
attribute [local go_sem] max2_int min2_int max_two min_two max_three min_three max_four min_four   -- for this text's walks alone
set_option linter.unusedVariables false
set_option linter.unusedSimpArgs false

/-! ### spec_boLeaps: function 50 -/
def spec_boLeaps.l0 : Nat → Int → List Int → List Int → Int → Int → Int → Int → List Int → Int → Int → Option (List Int)
 | 0, _, _, _, _, _, _, _, _, _, _ => none
 | k + 1, x2, x7, x11, x12, x13, x366000, x366001, x366002, x367000, x367001 => if x13 < x12 then (if 0 ≤ x13 then (if x13 < (x11.length : Int) then ((spec_boIs.f x366000 x366001 x366002 x367000 x367001 x2 (rd x11 x13)).bind fun t371 => (if t371 = true then (if x7.length < 17592186044416 then (spec_boLeaps.l0 k x2 (x7 ++ [rd x11 x13]) x11 x12 (wrap64 (x13 + 1)) x366000 x366001 x366002 x367000 x367001) else (none)) else (spec_boLeaps.l0 k x2 x7 x11 x12 (wrap64 (x13 + 1)) x366000 x366001 x366002 x367000 x367001))) else (none)) else (none)) else (some x7)
def spec_boLeaps.f (k : Nat) (a0_0 : Int) (a0_1 : Int) (l0_2 : List Int) (a1_0 : Int) (a1_1 : Int) (a2 : Int) : Option (List Int) := (spec_boCells.f k a0_0 a0_1 l0_2).bind fun t367 => (spec_boLeaps.l0 k a2 ([] : List Int) t367 (t367.length : Int) 0 a0_0 a0_1 l0_2 a1_0 a1_1)
/-! ### spec_faFrom: function 38 -/
mutual
def spec_faFrom.l0 : Nat → Int → List Int → Int → Int → Int → Int → List Int → Int → Int → Option (List Int)
 | 0, _, _, _, _, _, _, _, _, _ => none
 | k + 1, x2, x7, x20, x21, x376000, x376001, x376002, x377000, x377001 => if x21 < x20 then (if 0 ≤ x21 then (if x21 < (x7.length : Int) then (spec_faFrom.l0 k x2 (x7.set (x21 : Int).toNat (-1)) x20 (wrap64 (x21 + 1)) x376000 x376001 x376002 x377000 x377001) else (none)) else (none)) else (if 0 ≤ x2 then (if x2 < (x7.length : Int) then (spec_faFrom.l1 k (x7.set (x2 : Int).toNat 0) (([x2] : List Int)) 0 x376000 x376001 x376002 x377000 x377001) else (none)) else (none))
def spec_faFrom.l1 : Nat → List Int → List Int → Int → Int → Int → List Int → Int → Int → Option (List Int)
 | 0, _, _, _, _, _, _, _, _ => none
 | k + 1, x7, x9, x10, x376000, x376001, x376002, x377000, x377001 => if x10 < (x9.length : Int) then (if 0 ≤ x10 then ((spec_boLeaps.f k x376000 x376001 x376002 x377000 x377001 (rd x9 x10)).bind fun t386 => (spec_faFrom.l2 k x7 x9 x10 t386 (t386.length : Int) 0 x376000 x376001 x376002 x377000 x377001)) else (none)) else (some x7)
def spec_faFrom.l2 : Nat → List Int → List Int → Int → List Int → Int → Int → Int → Int → List Int → Int → Int → Option (List Int)
 | 0, _, _, _, _, _, _, _, _, _, _, _ => none
 | k + 1, x7, x9, x10, x45, x46, x47, x376000, x376001, x376002, x377000, x377001 => if x47 < x46 then (if 0 ≤ x47 then (if x47 < (x45.length : Int) then (if 0 ≤ (rd x45 x47) then (if (rd x45 x47) < (x7.length : Int) then (if (rd x7 (rd x45 x47)) < 0 then (if 0 ≤ x10 then (if x10 < (x9.length : Int) then (if 0 ≤ (rd x9 x10) then (if (rd x9 x10) < (x7.length : Int) then (if x9.length < 17592186044416 then (spec_faFrom.l2 k (x7.set ((rd x45 x47) : Int).toNat (wrap64 ((rd x7 (rd x9 x10)) + 1))) (x9 ++ [rd x45 x47]) x10 x45 x46 (wrap64 (x47 + 1)) x376000 x376001 x376002 x377000 x377001) else (none)) else (none)) else (none)) else (none)) else (none)) else (spec_faFrom.l2 k x7 x9 x10 x45 x46 (wrap64 (x47 + 1)) x376000 x376001 x376002 x377000 x377001)) else (none)) else (none)) else (none)) else (none)) else (spec_faFrom.l1 k x7 x9 (wrap64 (x10 + 1)) x376000 x376001 x376002 x377000 x377001)
end
def spec_faFrom.f (k : Nat) (a0_0 : Int) (a0_1 : Int) (l0_2 : List Int) (a1_0 : Int) (a1_1 : Int) (a2 : Int) : Option (List Int) := if 0 ≤ (wrap64 (a0_0 * a0_1)) then (if (wrap64 (a0_0 * a0_1) : Int).toNat ≤ 35184372088832 then ((some (List.replicate (wrap64 (a0_0 * a0_1) : Int).toNat 0 : List Int)).bind fun y377 => (spec_faFrom.l0 k a2 y377 (y377.length : Int) 0 a0_0 a0_1 l0_2 a1_0 a1_1)) else (none)) else (none)
end Go.Proofs.Ytfjomkjngolboaa.Q

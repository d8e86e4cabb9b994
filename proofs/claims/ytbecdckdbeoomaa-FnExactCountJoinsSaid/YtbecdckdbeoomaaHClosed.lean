/- Closed walks: whether the last cell leaps to the first, told alike by the reference and the program. -/
import Derived.Test.YtbecdckdbeoomaaHPath
import Derived.Test.YtbecdckdbeoomaaQ23
namespace Go.Proofs.Ytbecdckdbeoomaa.H
open Go.RowKit Go.IntWalk Go.Proofs.Ytbecdckdbeoomaa.Q Go.Proofs.YtbecdckdbeoomaaW.PrintWords Go.Proofs.YtbecdckdbeoomaaW.PrintMore
set_option linter.unusedVariables false
set_option linter.unusedSimpArgs false
def closedB (W A B : Int) (s : List Int) : Bool := decide (3 ≤ s.length) && isB W A B (rd s ((s.length : Int) - 1)) (rd s 0)
theorem ends_has {W H : Int} {L s : List Int} (h : ∀ x ∈ s, hasB W H L x = true) (h1 : 1 ≤ s.length) : hasB W H L (rd s ((s.length : Int) - 1)) = true ∧ hasB W H L (rd s 0) = true := by
  constructor
  · have e : (s.length : Int) - 1 = ((s.length - 1 : Nat) : Int) := by omega
    rw [e, rd_nat s (s.length - 1) (by omega)]
    exact h _ (List.getElem_mem _)
  · have := rd_nat s 0 (by omega)
    simp only [Int.natCast_zero] at this
    have e : rd s 0 = s[0] := this
    rw [e]
    exact h _ (List.getElem_mem _)
theorem closes_ev {W H : Int} {L : List Int} (g : BoardM W H L) (A B : Int) (s : List Int) (h : ∀ x ∈ s, hasB W H L x = true) (h1 : 1 ≤ s.length) (h2 : s.length ≤ 1048576) : Ev (fun k => impl_graph_closes.f k W H L A B (cellsM W H L) (nearM W H L A B) s) (closedB W A B s) := by
  unfold impl_graph_closes.f closedB
  by_cases c : (s.length : Int) ≥ 3
  · have c' : 3 ≤ s.length := by omega
    have e : wrap64 ((s.length : Int) - 1) = (s.length : Int) - 1 := wrap64_in _ (by omega)
    have c1 : 0 ≤ (s.length : Int) - 1 := by omega
    have c2 : (s.length : Int) - 1 < (s.length : Int) := by omega
    have c3 : 0 < (s.length : Int) := by omega
    obtain ⟨a, b⟩ := ends_has h h1
    simp only [c, c', c1, c2, c3, e, if_true, decide_true, Bool.true_and]
    exact Ev.bind (leaps_ev g _ _ a b) (Ev.now _)
  · have c' : ¬ 3 ≤ s.length := by omega
    simp only [c, c', if_false, decide_false, Bool.false_and]
    exact Ev.now _
end Go.Proofs.Ytbecdckdbeoomaa.H

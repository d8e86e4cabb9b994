/- What the graph's rows tell of present cells: the row of a present cell is the list of its leaps; a cell stands in it just where the reference sees a leap. -/
import Derived.Test.YtemaokhlolimhaaHGraph
import Derived.Test.YtemaokhlolimhaaQ8
namespace Go.Proofs.Ytemaokhlolimhaa.H
open Go.RowKit Go.IntWalk Go.Proofs.Ytemaokhlolimhaa.Q Go.Proofs.YtemaokhlolimhaaW.PrintWords Go.Proofs.YtemaokhlolimhaaW.PrintMore
set_option linter.unusedVariables false
set_option linter.unusedSimpArgs false
theorem near_at {W H : Int} {L : List Int} {A B c : Int} (h : hasB W H L c = true) : rd_L1 (nearM W H L A B) c = leapsM W H L A B c := by
  rw [nearM_get W H L A B c (has_range h), if_pos h]
theorem near_in {W H : Int} {L : List Int} {A B c : Int} (g : BoardM W H L) (h : hasB W H L c = true) : 0 ≤ c ∧ c < ((nearM W H L A B).length : Int) := by
  have := has_range h
  have := g.area
  rw [nearM_length]; omega
theorem leaps_contains {W H : Int} {L : List Int} {A B c d : Int} : (leapsM W H L A B c).contains d = (hasB W H L d && isB W A B c d) := by
  rw [Bool.eq_iff_iff]
  simp [leapsM, List.mem_filter, mem_cellsM]
theorem leaps_ev {W H : Int} {L : List Int} {A B : Int} (g : BoardM W H L) (c d : Int) (hc : hasB W H L c = true) (hd : hasB W H L d = true) : Ev (fun k => impl_graph_leaps.f k W H L A B (cellsM W H L) (nearM W H L A B) c d) (isB W A B c d) := by
  have hn := near_in (A := A) (B := B) g hc
  have hl := leapsM_length g A B c
  simp only [impl_graph_leaps.f, hn.1, hn.2, if_true, near_at hc]
  refine Ev.bind (contains_ev _ d (by omega)) ?_
  rw [leaps_contains, hd, Bool.true_and]
  exact Ev.now _
end Go.Proofs.Ytemaokhlolimhaa.H

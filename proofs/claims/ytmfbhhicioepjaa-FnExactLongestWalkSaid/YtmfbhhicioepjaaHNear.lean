/- What the graph's rows tell of present cells: the row of a present cell is the list of its leaps; a cell stands in it just where the reference sees a leap. -/
import Derived.Test.YtmfbhhicioepjaaHGraph
namespace Go.Proofs.Ytmfbhhicioepjaa.H
open Go.RowKit Go.IntWalk Go.Proofs.Ytmfbhhicioepjaa.Q Go.Proofs.YtmfbhhicioepjaaW.PrintWords Go.Proofs.YtmfbhhicioepjaaW.PrintMore
set_option linter.unusedVariables false
set_option linter.unusedSimpArgs false
theorem near_at {W H : Int} {L : List Int} {A B c : Int} (h : hasB W H L c = true) : rd_L1 (nearM W H L A B) c = leapsM W H L A B c := by
  rw [nearM_get W H L A B c (has_range h), if_pos h]
theorem near_in {W H : Int} {L : List Int} {A B c : Int} (g : BoardM W H L) (h : hasB W H L c = true) : 0 ≤ c ∧ c < ((nearM W H L A B).length : Int) := by
  have := has_range h
  have := g.area
  rw [nearM_length]; omega
theorem leaps_contains {W H : Int} {L : List Int} {A B c d : Int} : (leapsM W H L A B c).contains d = (hasB W H L d && isB W A B c d) := by
  rw [Bool.eq_iff_iff]
  simp [leapsM, List.mem_filter, mem_cellsM]
end Go.Proofs.Ytmfbhhicioepjaa.H

/- A board, a leaper and two cells: asked for alike by the reference and the program; and what the rows of the graph hold. -/
import Derived.Test.YtemaokhlolimhaaHNear
namespace Go.Proofs.Ytemaokhlolimhaa.H
open Go.RowKit Go.IntWalk Go.Proofs.Ytemaokhlolimhaa.Q Go.Proofs.YtemaokhlolimhaaW.PrintWords Go.Proofs.YtemaokhlolimhaaW.PrintMore
set_option linter.unusedVariables false
set_option linter.unusedSimpArgs false
theorem leapsM_has {W H : Int} {L : List Int} {A B c d : Int} (h : d ∈ leapsM W H L A B c) : hasB W H L d = true := by
  unfold leapsM at h
  exact mem_cellsM.1 (List.mem_filter.1 h).1
theorem near_has {W H : Int} {L : List Int} {A B : Int} (c : Int) (hc : 0 ≤ c ∧ c < W * H) : ∀ d ∈ rd_L1 (nearM W H L A B) c, hasB W H L d = true := by
  intro d hd
  rw [nearM_get W H L A B c hc] at hd
  split at hd
  · exact leapsM_has hd
  · cases hd
theorem near_small {W H : Int} {L : List Int} (g : BoardM W H L) (A B : Int) (c : Int) (hc : 0 ≤ c ∧ c < W * H) : (rd_L1 (nearM W H L A B) c).length ≤ 64 := by
  rw [nearM_get W H L A B c hc]
  split
  · exact leapsM_length g A B c
  · simp
theorem rd_set (o : List Int) (d v : Int) (hd : 0 ≤ d ∧ d < (o.length : Int)) (i : Nat) : rd (o.set d.toNat v) (i : Int) = if (i : Int) = d then v else rd o (i : Int) := by
  unfold rd
  rw [List.getD_eq_getElem?_getD, List.getElem?_set]
  by_cases h : (i : Int) = d
  · have h1 : d.toNat = ((i : Int)).toNat := by omega
    have h2 : ((i : Int)).toNat < o.length := by omega
    rw [if_pos h, if_pos h1, if_pos (by omega : d.toNat < o.length)]
    rfl
  · have h1 : ¬ d.toNat = ((i : Int)).toNat := by omega
    rw [if_neg h, if_neg h1, ← List.getD_eq_getElem?_getD]
end Go.Proofs.Ytemaokhlolimhaa.H

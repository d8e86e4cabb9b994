/- Tours: a walk over all cells, told alike by the reference and the program. -/
import Derived.Test.YtjeongckkfkehaaHPath
import Derived.Test.YtjeongckkfkehaaQ38
namespace Go.Proofs.Ytjeongckkfkehaa.H
open Go.RowKit Go.IntWalk Go.Proofs.Ytjeongckkfkehaa.Q Go.Proofs.YtjeongckkfkehaaW.PrintWords Go.Proofs.YtjeongckkfkehaaW.PrintMore
set_option linter.unusedVariables false
set_option linter.unusedSimpArgs false
def tourB (W H : Int) (L : List Int) (A B : Int) (s : List Int) : Bool := walkB W H L A B s && ((s.length : Int) == ((cellsM W H L).length : Int))
theorem tourB_has {W H : Int} {L : List Int} {A B : Int} {s : List Int} (h : tourB W H L A B s = true) : 1 ≤ s.length ∧ s.length ≤ 64 ∧ ∀ x ∈ s, hasB W H L x = true := by
  simp only [tourB, Bool.and_eq_true] at h
  exact walkB_has h.1
theorem toTour_ev {W H : Int} {L : List Int} (g : BoardM W H L) (hl : L.length ≤ 1048576) (A B : Int) (s : List Int) : Ev (fun k => spec_toTour.f k W H L A B s) (tourB W H L A B s) := by
  unfold spec_toTour.f tourB
  refine Ev.bind (toWalk_ev g hl A B s) ?_
  rcases Bool.eq_false_or_eq_true (walkB W H L A B s) with hx | hx
  · simp only [hx, if_true, Bool.true_and]
    exact Ev.bind (boCells_ev g hl) (Ev.now _)
  · simp only [hx, Bool.false_eq_true, if_false, Bool.false_and]
    exact Ev.now _
theorem isTour_ev {W H : Int} {L : List Int} (g : BoardM W H L) (hl : L.length ≤ 1048576) (A B : Int) (s : List Int) : Ev (fun k => impl_graph_isTour.f k W H L A B (cellsM W H L) (nearM W H L A B) s) (tourB W H L A B s) := by
  unfold impl_graph_isTour.f tourB
  refine Ev.bind (isWalk_ev g hl A B s) ?_
  rcases Bool.eq_false_or_eq_true (walkB W H L A B s) with hx | hx
  · simp only [hx, if_true, Bool.true_and]
    exact Ev.now _
  · simp only [hx, Bool.false_eq_true, if_false, Bool.false_and]
    exact Ev.now _
end Go.Proofs.Ytjeongckkfkehaa.H

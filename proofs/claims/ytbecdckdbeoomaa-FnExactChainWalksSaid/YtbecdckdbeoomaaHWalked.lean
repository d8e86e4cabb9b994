/- A board, a leaper and a walk: asked for alike by the reference and the program. -/
import Derived.Test.YtbecdckdbeoomaaHPath
import Derived.Test.YtbecdckdbeoomaaQ8
namespace Go.Proofs.Ytbecdckdbeoomaa.H
open Go.RowKit Go.IntWalk Go.Proofs.Ytbecdckdbeoomaa.Q Go.Proofs.YtbecdckdbeoomaaW.PrintWords Go.Proofs.YtbecdckdbeoomaaW.PrintMore
set_option linter.unusedVariables false
set_option linter.unusedSimpArgs false
def Walked (W H : Int) (L : List Int) (A B : Int) (s : List Int) : Prop := Two W H L A B ∧ walkB W H L A B s = true
theorem blWalk_yes {W H : Int} {L : List Int} {A B : Int} {s : List Int} (t : Walked W H L A B s) (hl : L.length ≤ 1048576) : Ev (fun k => spec_blWalk.f k W H L A B s) true := by
  unfold spec_blWalk.f
  refine Ev.bind (two_yes t.1 hl) ?_
  simp only [if_true]
  have := toWalk_ev t.1.1 hl A B s
  rw [t.2] at this
  exact Ev.bind this (Ev.now _)
theorem blWalk_no {W H : Int} {L : List Int} {A B : Int} {s : List Int} (t : ¬ Walked W H L A B s) (hl : L.length ≤ 1048576) : Ev (fun k => spec_blWalk.f k W H L A B s) false := by
  unfold spec_blWalk.f
  by_cases t2 : Two W H L A B
  · have hx : walkB W H L A B s = false := by
      rcases Bool.eq_false_or_eq_true (walkB W H L A B s) with hx | hx
      · exact absurd ⟨t2, hx⟩ t
      · exact hx
    refine Ev.bind (two_yes t2 hl) ?_
    simp only [if_true]
    have := toWalk_ev t2.1 hl A B s
    rw [hx] at this
    exact Ev.bind this (Ev.now _)
  · refine Ev.bind (two_no t2 hl) ?_
    simp only [Bool.false_eq_true, if_false]
    exact Ev.now _
theorem walkGraph_yes {W H : Int} {L : List Int} {A B : Int} {s : List Int} (t : Walked W H L A B s) (hl : L.length ≤ 1048576) : Ev (fun k => impl_walkGraph.f k W H L A B s) (cellsM W H L, nearM W H L A B, true) := by
  unfold impl_walkGraph.f
  refine Ev.bind (graphOf_two t.1 hl) ?_
  simp only [if_true]
  have := isWalk_ev t.1.1 hl A B s
  rw [t.2] at this
  refine Ev.bind this ?_
  simp only [if_true]
  exact Ev.now _
theorem walkGraph_no {W H : Int} {L : List Int} {A B : Int} {s : List Int} (t : ¬ Walked W H L A B s) (hl : L.length ≤ 1048576) : Ev (fun k => impl_walkGraph.f k W H L A B s) (([] : List Int), ([] : List (List Int)), false) := by
  unfold impl_walkGraph.f
  by_cases t2 : Two W H L A B
  · have hx : walkB W H L A B s = false := by
      rcases Bool.eq_false_or_eq_true (walkB W H L A B s) with hx | hx
      · exact absurd ⟨t2, hx⟩ t
      · exact hx
    refine Ev.bind (graphOf_two t2 hl) ?_
    simp only [if_true]
    have := isWalk_ev t2.1 hl A B s
    rw [hx] at this
    refine Ev.bind this ?_
    simp only [Bool.false_eq_true, if_false]
    exact Ev.now _
  · refine Ev.bind (graphOf_not t2 hl) ?_
    simp only [Bool.false_eq_true, if_false]
    exact Ev.now _
end Go.Proofs.Ytbecdckdbeoomaa.H

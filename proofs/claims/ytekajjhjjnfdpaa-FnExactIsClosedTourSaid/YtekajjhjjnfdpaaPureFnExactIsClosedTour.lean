/- IsClosedTour: the program and the reference tell the same, so the law's function answers true for all arguments. -/
import Derived.Test.YtekajjhjjnfdpaaStateFnExactIsClosedTour
import Derived.Test.YtekajjhjjnfdpaaHTour
import Derived.Test.YtekajjhjjnfdpaaHClosed
import Derived.Test.YtekajjhjjnfdpaaQ47
namespace Go.Proofs.Ytekajjhjjnfdpaa.Pure
open Go.RowKit Go.IntWalk Go.Proofs.Ytekajjhjjnfdpaa.Q Go.Proofs.Ytekajjhjjnfdpaa.H Go.Proofs.YtekajjhjjnfdpaaW.PrintWords Go.Proofs.YtekajjhjjnfdpaaW.PrintMore
set_option linter.unusedVariables false
set_option linter.unusedSimpArgs false
theorem toClosed_ev {W H : Int} {L : List Int} (g : BoardM W H L) (hl : L.length ≤ 1048576) (A B : Int) (s : List Int) (hs : s.length ≤ 1048576) : Ev (fun k => spec_toClosed.f k W H L A B s) (tourB W H L A B s && closedB W A B s) := by
  unfold spec_toClosed.f
  by_cases c : (s.length : Int) > 2
  · simp only [c, if_true]
    refine Ev.bind (toTour_ev g hl A B s) ?_
    rcases Bool.eq_false_or_eq_true (tourB W H L A B s) with hx | hx
    · have hw := tourB_has hx
      have c' : 3 ≤ s.length := by omega
      have e : wrap64 ((s.length : Int) - 1) = (s.length : Int) - 1 := wrap64_in _ (by omega)
      have c1 : 0 ≤ (s.length : Int) - 1 := by omega
      have c2 : (s.length : Int) - 1 < (s.length : Int) := by omega
      have c3 : 0 < (s.length : Int) := by omega
      obtain ⟨a, b⟩ := ends_has hw.2.2 hw.1
      simp only [hx, closedB, c', c1, c2, c3, e, if_true, decide_true, Bool.true_and, boIs_eq g A B _ _ (has_range a) (has_range b), Option.bind_some]
      exact Ev.now _
    · simp only [hx, Bool.false_eq_true, if_false, Bool.false_and]
      exact Ev.now _
  · have c' : ¬ 3 ≤ s.length := by omega
    simp only [c, closedB, c', if_false, decide_false, Bool.false_and, Bool.and_false]
    exact Ev.now _
theorem isClosedTour_both (W H : Int) (L : List Int) (A B : Int) (s : List Int) (hl : L.length ≤ 1048576) (hs : s.length ≤ 1048576) : ∃ (r b : Bool), Ev (fun k => spec_IsClosedTour.f k W H L A B s) (r, b) ∧ Ev (fun k => impl_IsClosedTour.f k W H L A B s) (r, b) := by
  by_cases t : Two W H L A B
  · refine ⟨tourB W H L A B s && closedB W A B s, true, ?_, ?_⟩
    · unfold spec_IsClosedTour.f
      refine Ev.bind (two_yes t hl) ?_
      simp only [if_true]
      exact Ev.bind (toClosed_ev t.1 hl A B s hs) (Ev.now _)
    · unfold impl_IsClosedTour.f
      refine Ev.bind (graphOf_two t hl) ?_
      simp only [if_true]
      refine Ev.bind (isTour_ev t.1 hl A B s) ?_
      rcases Bool.eq_false_or_eq_true (tourB W H L A B s) with hx | hx
      · have hw := tourB_has hx
        simp only [hx, if_true, Bool.true_and]
        exact Ev.bind (closes_ev t.1 A B s hw.2.2 hw.1 hs) (Ev.now _)
      · simp only [hx, Bool.false_eq_true, if_false, Bool.false_and]
        exact Ev.now _
  · refine ⟨false, false, ?_, ?_⟩
    · unfold spec_IsClosedTour.f
      refine Ev.bind (two_no t hl) ?_
      simp only [Bool.false_eq_true, if_false]
      exact Ev.now _
    · unfold impl_IsClosedTour.f
      refine Ev.bind (graphOf_not t hl) ?_
      simp only [Bool.false_eq_true, if_false]
      exact Ev.now _
theorem FnExactIsClosedTour : FnExactIsClosedTourSaid := by
  intro a0_0 a0_1 l0_2 a1_0 a1_1 l2 _ _ hlen_l0_2 _ _ _ hlen_l2 _
  by_cases hb_l2 : (l2.length : Int) > 1048576
  · refine ⟨0, ?_⟩
    simp [laws_FnExactIsClosedTour.f, hb_l2]
  have hs_l2 : l2.length ≤ 1048576 := by omega
  by_cases hb_l0_2 : 1048576 < l0_2.length
  · refine ⟨0, ?_⟩
    simp [laws_FnExactIsClosedTour.f, szBoard_big a0_0 a0_1 l0_2 hb_l0_2 hlen_l0_2, hb_l2]
  have hs_l0_2 : l0_2.length ≤ 1048576 := by omega
  obtain ⟨r, b, hs, hi⟩ := isClosedTour_both a0_0 a0_1 l0_2 a1_0 a1_1 l2 hs_l0_2 hs_l2
  refine Ev.rounds ?_
  have n0 : ¬ (1048576 - (l0_2.length : Int) < 0) := by omega
  have n1 : ¬ (1 + (l0_2.length : Int) < 0) := by omega
  have n2 : ¬ (1 + (l2.length : Int) < 0) := by omega
  unfold laws_FnExactIsClosedTour.f
  repeat (first
    | exact Ev.now _
    | refine Ev.bind (toBoard_ev _ _ _ (by assumption)) ?_
    | refine Ev.bind (eqBoard_ev _ _ _ (by assumption)) ?_
    | refine Ev.bind (markBoard_ev _ _ _ (by assumption)) ?_
    | refine Ev.bind (toIntS_ev _ (by assumption)) ?_
    | refine Ev.bind (eqIntS_ev _ (by assumption)) ?_
    | refine Ev.bind (markIntS_ev _ (by assumption)) ?_
    | refine Ev.bind (heldIntS_ev _ (by assumption)) ?_
    | refine Ev.bind hs ?_
    | refine Ev.bind hi ?_
    | simp only [Option.bind_some, if_true, if_false, bne_self_eq_false, Bool.false_eq_true, ne_eq, not_true_eq_false, not_false_eq_true, hb_l2, szBoard_fit _ _ _ hs_l0_2, laws_toLeaper.f, n0, n1, n2]
    | (refine Ev.step (fun k => by rw [laws_FnExactIsClosedTour.j0]) ?_))
end Go.Proofs.Ytekajjhjjnfdpaa.Pure

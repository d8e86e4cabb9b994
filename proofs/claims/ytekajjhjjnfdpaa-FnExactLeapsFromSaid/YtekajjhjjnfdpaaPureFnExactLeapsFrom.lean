/- LeapsFrom: the program and the reference tell the same list of cells, so the law's function answers true for all arguments. -/
import Derived.Test.YtekajjhjjnfdpaaStateFnExactLeapsFrom
import Derived.Test.YtekajjhjjnfdpaaHGraph
import Derived.Test.YtekajjhjjnfdpaaQ8
namespace Go.Proofs.Ytekajjhjjnfdpaa.Pure
open Go.RowKit Go.IntWalk Go.Proofs.Ytekajjhjjnfdpaa.Q Go.Proofs.Ytekajjhjjnfdpaa.H Go.Proofs.YtekajjhjjnfdpaaW.PrintWords Go.Proofs.YtekajjhjjnfdpaaW.PrintMore
set_option linter.unusedVariables false
set_option linter.unusedSimpArgs false
theorem leapsFrom_both (W H : Int) (L : List Int) (A B c : Int) (hl : L.length ≤ 1048576) : ∃ (r : List Int) (b : Bool), r.length ≤ 1048576 ∧ Ev (fun k => spec_LeapsFrom.f k W H L A B c) (r, b) ∧ Ev (fun k => impl_LeapsFrom.f k W H L A B c) (r, b) := by
  by_cases t : Two W H L A B
  · have g := t.1
    have ha := g.area
    cases hc : hasB W H L c with
    | true =>
      have hr := has_range hc
      refine ⟨leapsM W H L A B c, true, by have := leapsM_length g A B c; omega, ?_, ?_⟩
      · unfold spec_LeapsFrom.f
        refine Ev.bind (two_yes t hl) ?_
        simp only [if_true]
        refine Ev.bind (boHas_ev g c hl) ?_
        simp only [hc, if_true]
        exact Ev.bind (boLeaps_ev g hl A B c hr) (Ev.now _)
      · unfold impl_LeapsFrom.f
        refine Ev.bind (graphOf_two t hl) ?_
        simp only [if_true]
        refine Ev.bind (has_ev g c hl) ?_
        have h1 : c < ((nearM W H L A B).length : Int) := by rw [nearM_length]; omega
        have h2 : (leapsM W H L A B c).length < 17592186044416 := by have := leapsM_length g A B c; omega
        simp only [hc, if_true, hr.1, h1, nearM_get W H L A B c hr, slices_Clone_int_int.f, h2, Option.bind_some]
        exact Ev.now _
    | false =>
      refine ⟨[], false, by simp, ?_, ?_⟩
      · unfold spec_LeapsFrom.f
        refine Ev.bind (two_yes t hl) ?_
        simp only [if_true]
        refine Ev.bind (boHas_ev g c hl) ?_
        simp only [hc, Bool.false_eq_true, if_false]
        exact Ev.now _
      · unfold impl_LeapsFrom.f
        refine Ev.bind (graphOf_two t hl) ?_
        simp only [if_true]
        refine Ev.bind (has_ev g c hl) ?_
        simp only [hc, Bool.false_eq_true, if_false]
        exact Ev.now _
  · refine ⟨[], false, by simp, ?_, ?_⟩
    · unfold spec_LeapsFrom.f
      refine Ev.bind (two_no t hl) ?_
      simp only [Bool.false_eq_true, if_false]
      exact Ev.now _
    · unfold impl_LeapsFrom.f
      refine Ev.bind (graphOf_not t hl) ?_
      simp only [Bool.false_eq_true, if_false]
      exact Ev.now _
theorem FnExactLeapsFrom : FnExactLeapsFromSaid := by
  intro a0_0 a0_1 l0_2 a1_0 a1_1 a2 _ _ hlen_l0_2 _ _ _ _
  by_cases hb_l0_2 : 1048576 < l0_2.length
  · refine ⟨0, ?_⟩
    simp [laws_FnExactLeapsFrom.f, szBoard_big a0_0 a0_1 l0_2 hb_l0_2 hlen_l0_2]
  have hs_l0_2 : l0_2.length ≤ 1048576 := by omega
  obtain ⟨r, b, hr, hs, hi⟩ := leapsFrom_both a0_0 a0_1 l0_2 a1_0 a1_1 a2 hs_l0_2
  refine Ev.rounds ?_
  have n0 : ¬ (1048576 - (l0_2.length : Int) < 0) := by omega
  have n1 : ¬ (1 + (l0_2.length : Int) < 0) := by omega
  have nr : ¬ (1 + (r.length : Int) < 0) := by omega
  unfold laws_FnExactLeapsFrom.f
  repeat (first
    | exact Ev.now _
    | refine Ev.bind (toBoard_ev _ _ _ (by assumption)) ?_
    | refine Ev.bind (eqBoard_ev _ _ _ (by assumption)) ?_
    | refine Ev.bind (markBoard_ev _ _ _ (by assumption)) ?_
    | refine Ev.bind (toIntS_ev _ (by assumption)) ?_
    | refine Ev.bind (eqIntS_ev _ (by assumption)) ?_
    | refine Ev.bind (markIntS_ev _ (by assumption)) ?_
    | refine Ev.bind (heldIntS_ev _ (by assumption)) ?_
    | refine Ev.bind hs ?_
    | refine Ev.bind hi ?_
    | simp only [Option.bind_some, if_true, if_false, bne_self_eq_false, Bool.false_eq_true, ne_eq, not_true_eq_false, not_false_eq_true, szBoard_fit _ _ _ hs_l0_2, laws_toLeaper.f, n0, n1, nr]
    | (refine Ev.step (fun k => by rw [laws_FnExactLeapsFrom.j0]) ?_)
    | (refine Ev.step (fun k => by rw [laws_FnExactLeapsFrom.j1]) ?_)
    | (refine Ev.step (fun k => by rw [laws_FnExactLeapsFrom.j2]) ?_))
end Go.Proofs.Ytekajjhjjnfdpaa.Pure

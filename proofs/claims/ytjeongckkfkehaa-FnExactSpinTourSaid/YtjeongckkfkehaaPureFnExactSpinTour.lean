/- SpinTour: the program and the reference tell the same tour, so the law's function answers true for all arguments. -/
import Derived.Test.YtjeongckkfkehaaStateFnExactSpinTour
import Derived.Test.YtjeongckkfkehaaHTour
import Derived.Test.YtjeongckkfkehaaHClosed
import Derived.Test.YtjeongckkfkehaaHSort
import Derived.Test.YtjeongckkfkehaaQ48
import Derived.Test.YtjeongckkfkehaaQ49
namespace Go.Proofs.Ytjeongckkfkehaa.Pure
open Go.RowKit Go.IntWalk Go.Proofs.Ytjeongckkfkehaa.Q Go.Proofs.Ytjeongckkfkehaa.H Go.Proofs.YtjeongckkfkehaaW.PrintWords Go.Proofs.YtjeongckkfkehaaW.PrintMore
set_option linter.unusedVariables false
set_option linter.unusedSimpArgs false
theorem toClosed_ev {W H : Int} {L : List Int} (g : BoardM W H L) (hl : L.length ≤ 1048576) (A B : Int) (s : List Int) (hs : s.length ≤ 1048576) : Ev (fun k => spec_toClosed.f k W H L A B s) (tourB W H L A B s && closedB W A B s) := by
  unfold spec_toClosed.f
  by_cases c : (s.length : Int) > 2
  · simp only [c, if_true]
    refine Ev.bind (toTour_ev g hl A B s) ?_
    rcases Bool.eq_false_or_eq_true (tourB W H L A B s) with hx | hx
    · have hw := tourB_has hx
      have c' : 3 ≤ s.length := by omega
      have e : wrap64 ((s.length : Int) - 1) = (s.length : Int) - 1 := wrap64_in _ (by omega)
      have c1 : 0 ≤ (s.length : Int) - 1 := by omega
      have c2 : (s.length : Int) - 1 < (s.length : Int) := by omega
      have c3 : 0 < (s.length : Int) := by omega
      obtain ⟨a, b⟩ := ends_has hw.2.2 hw.1
      simp only [hx, closedB, c', c1, c2, c3, e, if_true, decide_true, Bool.true_and, boIs_eq g A B _ _ (has_range a) (has_range b), Option.bind_some]
      exact Ev.now _
    · simp only [hx, Bool.false_eq_true, if_false, Bool.false_and]
      exact Ev.now _
  · have c' : ¬ 3 ≤ s.length := by omega
    simp only [c, closedB, c', if_false, decide_false, Bool.false_and, Bool.and_false]
    exact Ev.now _
theorem spinTour_both (W H : Int) (L : List Int) (A B : Int) (s : List Int) (n : Int) (hl : L.length ≤ 1048576) (hs : s.length ≤ 1048576) : ∃ (r : List Int) (b : Bool), r.length ≤ 1048576 ∧ Ev (fun k => spec_SpinTour.f k W H L A B s n) (r, b) ∧ Ev (fun k => impl_SpinTour.f k W H L A B s n) (r, b) := by
  by_cases t : Two W H L A B
  · have hc := toClosed_ev t.1 hl A B s hs
    rcases Bool.eq_false_or_eq_true (tourB W H L A B s) with hx | hx
    · have hw := tourB_has hx
      have hcl := closes_ev t.1 A B s hw.2.2 hw.1 hs
      have htour := isTour_ev t.1 hl A B s
      rw [hx] at hc htour
      rw [Bool.true_and] at hc
      rcases Bool.eq_false_or_eq_true (closedB W A B s) with hy | hy
      · rw [hy] at hc hcl
        have e : wrap64 ((s.length : Int) - 1) = (s.length : Int) - 1 := wrap64_in _ (by omega)
        by_cases hn : 0 ≤ n ∧ n < (s.length : Int)
        · have h1 : (decide (0 ≤ n) && decide (n ≤ (s.length : Int) - 1)) = true := by simp; omega
          have h2 : 0 ≤ n := hn.1
          have h3 : n ≤ (s.length : Int) := by omega
          have h4 : ¬ n < 0 := by omega
          have h5 : ¬ n ≥ (s.length : Int) := by omega
          have h6 : (s.drop n.toNat).length < 17592186044416 := by simp; omega
          have h7 : (s.drop n.toNat).length + (s.take n.toNat).length < 17592186044416 := by simp; omega
          refine ⟨s.drop n.toNat ++ s.take n.toNat, true, by simp; omega, ?_, ?_⟩
          · unfold spec_SpinTour.f
            refine Ev.bind (two_yes t hl) ?_
            simp only [if_true]
            refine Ev.bind hc ?_
            have h8 : ([] : List Int).length + (s.drop n.toNat).length < 17592186044416 := by simpa using h6
            simp only [if_true, e, l1In_eq, Option.bind_some, h1]
            simp only [h2, h3, if_true, Option.bind_some, spec_l1Own.f, h8, List.nil_append, h7]
            exact Ev.now _
          · unfold impl_SpinTour.f
            refine Ev.bind (graphOf_two t hl) ?_
            simp only [if_true]
            refine Ev.bind htour ?_
            simp only [if_true]
            refine Ev.bind hcl ?_
            simp only [if_true, h2, h3, h4, h5, if_false, slices_Clone_int_int.f, h6, Option.bind_some, h7]
            exact Ev.now _
        · have h1 : (decide (0 ≤ n) && decide (n ≤ (s.length : Int) - 1)) = false := by simp only [Bool.and_eq_false_iff, decide_eq_false_iff_not]; omega
          refine ⟨[], false, by simp, ?_, ?_⟩
          · unfold spec_SpinTour.f
            refine Ev.bind (two_yes t hl) ?_
            simp only [if_true]
            refine Ev.bind hc ?_
            simp only [if_true, e, l1In_eq, Option.bind_some, h1, Bool.false_eq_true, if_false]
            exact Ev.now _
          · unfold impl_SpinTour.f
            refine Ev.bind (graphOf_two t hl) ?_
            simp only [if_true]
            refine Ev.bind htour ?_
            simp only [if_true]
            refine Ev.bind hcl ?_
            simp only [if_true]
            by_cases h4 : n < 0
            · simp only [h4, if_true]
              exact Ev.now _
            · have h5 : n ≥ (s.length : Int) := by omega
              simp only [h4, h5, if_true, if_false]
              exact Ev.now _
      · rw [hy] at hc hcl
        refine ⟨[], false, by simp, ?_, ?_⟩
        · unfold spec_SpinTour.f
          refine Ev.bind (two_yes t hl) ?_
          simp only [if_true]
          refine Ev.bind hc ?_
          simp only [Bool.false_eq_true, if_false]
          exact Ev.now _
        · unfold impl_SpinTour.f
          refine Ev.bind (graphOf_two t hl) ?_
          simp only [if_true]
          refine Ev.bind htour ?_
          simp only [if_true]
          refine Ev.bind hcl ?_
          simp only [Bool.false_eq_true, if_false]
          exact Ev.now _
    · have htour := isTour_ev t.1 hl A B s
      rw [hx] at hc htour
      rw [Bool.false_and] at hc
      refine ⟨[], false, by simp, ?_, ?_⟩
      · unfold spec_SpinTour.f
        refine Ev.bind (two_yes t hl) ?_
        simp only [if_true]
        refine Ev.bind hc ?_
        simp only [Bool.false_eq_true, if_false]
        exact Ev.now _
      · unfold impl_SpinTour.f
        refine Ev.bind (graphOf_two t hl) ?_
        simp only [if_true]
        refine Ev.bind htour ?_
        simp only [Bool.false_eq_true, if_false]
        exact Ev.now _
  · refine ⟨[], false, by simp, ?_, ?_⟩
    · unfold spec_SpinTour.f
      refine Ev.bind (two_no t hl) ?_
      simp only [Bool.false_eq_true, if_false]
      exact Ev.now _
    · unfold impl_SpinTour.f
      refine Ev.bind (graphOf_not t hl) ?_
      simp only [Bool.false_eq_true, if_false]
      exact Ev.now _
theorem FnExactSpinTour : FnExactSpinTourSaid := by
  intro a0_0 a0_1 l0_2 a1_0 a1_1 l2 a3 _ _ hlen_l0_2 _ _ _ hlen_l2 _ _
  by_cases hb_l2 : (l2.length : Int) > 1048576
  · refine ⟨0, ?_⟩
    simp [laws_FnExactSpinTour.f, hb_l2]
  have hs_l2 : l2.length ≤ 1048576 := by omega
  by_cases hb_l0_2 : 1048576 < l0_2.length
  · refine ⟨0, ?_⟩
    simp [laws_FnExactSpinTour.f, szBoard_big a0_0 a0_1 l0_2 hb_l0_2 hlen_l0_2, hb_l2]
  have hs_l0_2 : l0_2.length ≤ 1048576 := by omega
  obtain ⟨r, b, hr, hs, hi⟩ := spinTour_both a0_0 a0_1 l0_2 a1_0 a1_1 l2 a3 hs_l0_2 hs_l2
  refine rounds_of ?_
  have n0 : ¬ (1048576 - (l0_2.length : Int) < 0) := by omega
  have n1 : ¬ (1 + (l0_2.length : Int) < 0) := by omega
  have n2 : ¬ (1 + (l2.length : Int) < 0) := by omega
  have n12 : ¬ (1 + (l0_2.length : Int) + (l2.length : Int) < 0) := by omega
  have nr : ¬ (1 + (r.length : Int) < 0) := by omega
  unfold laws_FnExactSpinTour.f
  repeat (first
    | exact Ev.now _
    | refine Ev.bind (toBoard_ev _ _ _ (by assumption)) ?_
    | refine Ev.bind (eqBoard_ev _ _ _ (by assumption)) ?_
    | refine Ev.bind (markBoard_ev _ _ _ (by assumption)) ?_
    | refine Ev.bind (toIntS_ev _ (by assumption)) ?_
    | refine Ev.bind (eqIntS_ev _ (by assumption)) ?_
    | refine Ev.bind (markIntS_ev _ (by assumption)) ?_
    | refine Ev.bind (heldIntS_ev _ (by assumption)) ?_
    | refine Ev.bind (markIntS_any _ _ (by assumption) (by omega)) ?_
    | refine Ev.bind hs ?_
    | refine Ev.bind hi ?_
    | simp only [Option.bind_some, if_true, if_false, bne_self_eq_false, Bool.false_eq_true, ne_eq, not_true_eq_false, not_false_eq_true, hb_l2, szBoard_fit _ _ _ hs_l0_2, laws_toLeaper.f, n0, n1, n2, n12, nr]
    | (refine Ev.step (fun k => by rw [laws_FnExactSpinTour.j0]) ?_)
    | (refine Ev.step (fun k => by rw [laws_FnExactSpinTour.j1]) ?_)
    | (refine Ev.step (fun k => by rw [laws_FnExactSpinTour.j2]) ?_))
end Go.Proofs.Ytjeongckkfkehaa.Pure

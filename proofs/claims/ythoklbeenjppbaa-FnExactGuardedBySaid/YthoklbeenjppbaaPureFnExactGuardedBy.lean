/- GuardedBy: the program and the reference tell the same list of cells, so the law's function answers true for all arguments. -/
import Derived.Test.YthoklbeenjppbaaStateFnExactGuardedBy
import Derived.Test.YthoklbeenjppbaaHGuard
import Derived.Test.YthoklbeenjppbaaQ36
namespace Go.Proofs.Ythoklbeenjppbaa.Pure
open Go.RowKit Go.IntWalk Go.Proofs.Ythoklbeenjppbaa.Q Go.Proofs.Ythoklbeenjppbaa.H Go.Proofs.YthoklbeenjppbaaW.PrintWords Go.Proofs.YthoklbeenjppbaaW.PrintMore
set_option linter.unusedVariables false
set_option linter.unusedSimpArgs false
theorem guardedBy_both (W H : Int) (L : List Int) (A B : Int) (s : List Int) (hl : L.length ≤ 1048576) (hs : s.length ≤ 1048576) : ∃ (r : List Int) (b : Bool), r.length ≤ 1048576 ∧ Ev (fun k => spec_GuardedBy.f k W H L A B s) (r, b) ∧ Ev (fun k => impl_GuardedBy.f k W H L A B s) (r, b) := by
  by_cases t : Two W H L A B ∧ SetM W H L s
  · refine ⟨guardedM W H L A B s, true, by have := guardedM_length (A := A) (B := B) t.1.1 s; omega, ?_, ?_⟩
    · unfold spec_GuardedBy.f
      refine Ev.bind (guAsked_yes t.1 hl s hs t.2) ?_
      simp only [if_true]
      exact Ev.bind (guGuarded_ev t.1.1 hl s t.2) (Ev.now _)
    · unfold impl_GuardedBy.f
      refine Ev.bind (setGraph_yes t.1 hl s hs t.2) ?_
      simp only [if_true]
      exact Ev.bind (guarded_ev t.1.1 s t.2) (Ev.now _)
  · refine ⟨[], false, by simp, ?_, ?_⟩
    · unfold spec_GuardedBy.f
      refine Ev.bind (guAsked_no hl s hs t) ?_
      simp only [Bool.false_eq_true, if_false]
      exact Ev.now _
    · unfold impl_GuardedBy.f
      refine Ev.bind (setGraph_no hl s hs t) ?_
      simp only [Bool.false_eq_true, if_false]
      exact Ev.now _
theorem FnExactGuardedBy : FnExactGuardedBySaid := by
  intro a0_0 a0_1 l0_2 a1_0 a1_1 l2 _ _ hlen_l0_2 _ _ _ hlen_l2 _
  by_cases hb_l2 : (l2.length : Int) > 1048576
  · refine ⟨0, ?_⟩
    simp [laws_FnExactGuardedBy.f, hb_l2]
  have hs_l2 : l2.length ≤ 1048576 := by omega
  by_cases hb_l0_2 : 1048576 < l0_2.length
  · refine ⟨0, ?_⟩
    simp [laws_FnExactGuardedBy.f, szBoard_big a0_0 a0_1 l0_2 hb_l0_2 hlen_l0_2, hb_l2]
  have hs_l0_2 : l0_2.length ≤ 1048576 := by omega
  obtain ⟨r, b, hr, hs, hi⟩ := guardedBy_both a0_0 a0_1 l0_2 a1_0 a1_1 l2 hs_l0_2 hs_l2
  refine rounds_of ?_
  have n0 : ¬ (1048576 - (l0_2.length : Int) < 0) := by omega
  have n1 : ¬ (1 + (l0_2.length : Int) < 0) := by omega
  have n2 : ¬ (1 + (l2.length : Int) < 0) := by omega
  have n12 : ¬ (1 + (l0_2.length : Int) + (l2.length : Int) < 0) := by omega
  have nr : ¬ (1 + (r.length : Int) < 0) := by omega
  unfold laws_FnExactGuardedBy.f
  repeat (first
    | exact Ev.now _
    | refine Ev.bind (toBoard_ev _ _ _ (by assumption)) ?_
    | refine Ev.bind (eqBoard_ev _ _ _ (by assumption)) ?_
    | refine Ev.bind (markBoard_ev _ _ _ (by assumption)) ?_
    | refine Ev.bind (toIntS_ev _ (by assumption)) ?_
    | refine Ev.bind (eqIntS_ev _ (by assumption)) ?_
    | refine Ev.bind (markIntS_ev _ (by assumption)) ?_
    | refine Ev.bind (heldIntS_ev _ (by assumption)) ?_
    | refine Ev.bind (markIntS_any _ _ (by assumption) (by omega)) ?_
    | refine Ev.bind hs ?_
    | refine Ev.bind hi ?_
    | simp only [Option.bind_some, if_true, if_false, bne_self_eq_false, Bool.false_eq_true, ne_eq, not_true_eq_false, not_false_eq_true, hb_l2, szBoard_fit _ _ _ hs_l0_2, laws_toLeaper.f, n0, n1, n2, n12, nr]
    | (refine Ev.step (fun k => by rw [laws_FnExactGuardedBy.j0]) ?_)
    | (refine Ev.step (fun k => by rw [laws_FnExactGuardedBy.j1]) ?_)
    | (refine Ev.step (fun k => by rw [laws_FnExactGuardedBy.j2]) ?_))
end Go.Proofs.Ythoklbeenjppbaa.Pure

/- DistancesFrom: the program and the reference tell the same list, so the law's function answers true for all arguments. -/
import Derived.Test.YthoklbeenjppbaaStateFnExactDistancesFrom
import Derived.Test.YthoklbeenjppbaaHFar
import Derived.Test.YthoklbeenjppbaaQ32
namespace Go.Proofs.Ythoklbeenjppbaa.Pure
open Go.RowKit Go.IntWalk Go.Proofs.Ythoklbeenjppbaa.Q Go.Proofs.Ythoklbeenjppbaa.H Go.Proofs.YthoklbeenjppbaaW.PrintWords Go.Proofs.YthoklbeenjppbaaW.PrintMore
set_option linter.unusedVariables false
set_option linter.unusedSimpArgs false
theorem distancesFrom_both (W H : Int) (L : List Int) (A B x : Int) (hl : L.length ≤ 1048576) : ∃ (r : List Int) (b : Bool), r.length ≤ 1048576 ∧ Ev (fun k => spec_DistancesFrom.f k W H L A B x) (r, b) ∧ Ev (fun k => impl_DistancesFrom.f k W H L A B x) (r, b) := by
  by_cases t : AskM W H L A B x x
  · have g := t.1.1
    have ha := g.area
    have hx := has_range t.2.1
    have hf := farM_keep (A := A) (B := B) g hx
    refine ⟨farM W H L A B x, true, by rw [hf.1]; omega, ?_, ?_⟩
    · unfold spec_DistancesFrom.f
      refine Ev.bind (faAsked_yes t hl) ?_
      simp only [if_true]
      exact Ev.bind (faFrom_ev g hl x hx) (Ev.now _)
    · unfold impl_DistancesFrom.f
      refine Ev.bind (implTwo_yes t hl) ?_
      simp only [if_true]
      exact Ev.bind (far_ev g x t.2.1) (Ev.now _)
  · refine ⟨[], false, by simp, ?_, ?_⟩
    · unfold spec_DistancesFrom.f
      refine Ev.bind (faAsked_no t hl) ?_
      simp only [Bool.false_eq_true, if_false]
      exact Ev.now _
    · unfold impl_DistancesFrom.f
      refine Ev.bind (implTwo_no t hl) ?_
      simp only [Bool.false_eq_true, if_false]
      exact Ev.now _
theorem FnExactDistancesFrom : FnExactDistancesFromSaid := by
  intro a0_0 a0_1 l0_2 a1_0 a1_1 a2 _ _ hlen_l0_2 _ _ _ _
  by_cases hb_l0_2 : 1048576 < l0_2.length
  · refine ⟨0, ?_⟩
    simp [laws_FnExactDistancesFrom.f, szBoard_big a0_0 a0_1 l0_2 hb_l0_2 hlen_l0_2]
  have hs_l0_2 : l0_2.length ≤ 1048576 := by omega
  obtain ⟨r, b, hr, hs, hi⟩ := distancesFrom_both a0_0 a0_1 l0_2 a1_0 a1_1 a2 hs_l0_2
  refine rounds_of ?_
  have n0 : ¬ (1048576 - (l0_2.length : Int) < 0) := by omega
  have n1 : ¬ (1 + (l0_2.length : Int) < 0) := by omega
  have nr : ¬ (1 + (r.length : Int) < 0) := by omega
  unfold laws_FnExactDistancesFrom.f
  repeat (first
    | exact Ev.now _
    | refine Ev.bind (toBoard_ev _ _ _ (by assumption)) ?_
    | refine Ev.bind (eqBoard_ev _ _ _ (by assumption)) ?_
    | refine Ev.bind (markBoard_ev _ _ _ (by assumption)) ?_
    | refine Ev.bind (toIntS_ev _ (by assumption)) ?_
    | refine Ev.bind (eqIntS_ev _ (by assumption)) ?_
    | refine Ev.bind (markIntS_ev _ (by assumption)) ?_
    | refine Ev.bind (heldIntS_ev _ (by assumption)) ?_
    | refine Ev.bind (markIntS_any _ _ (by assumption) (by omega)) ?_
    | refine Ev.bind hs ?_
    | refine Ev.bind hi ?_
    | simp only [Option.bind_some, if_true, if_false, bne_self_eq_false, Bool.false_eq_true, ne_eq, not_true_eq_false, not_false_eq_true, szBoard_fit _ _ _ hs_l0_2, laws_toLeaper.f, n0, n1, nr]
    | (refine Ev.step (fun k => by rw [laws_FnExactDistancesFrom.j0]) ?_)
    | (refine Ev.step (fun k => by rw [laws_FnExactDistancesFrom.j1]) ?_)
    | (refine Ev.step (fun k => by rw [laws_FnExactDistancesFrom.j2]) ?_))
end Go.Proofs.Ythoklbeenjppbaa.Pure

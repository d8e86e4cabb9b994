/- DistanceBetween: the program and the reference tell the same distance, so the law's function answers true for all arguments. -/
import Derived.Test.YthoklbeenjppbaaStateFnExactDistanceBetween
import Derived.Test.YthoklbeenjppbaaHFar
import Derived.Test.YthoklbeenjppbaaQ15
namespace Go.Proofs.Ythoklbeenjppbaa.Pure
open Go.RowKit Go.IntWalk Go.Proofs.Ythoklbeenjppbaa.Q Go.Proofs.Ythoklbeenjppbaa.H Go.Proofs.YthoklbeenjppbaaW.PrintWords Go.Proofs.YthoklbeenjppbaaW.PrintMore
set_option linter.unusedVariables false
set_option linter.unusedSimpArgs false
theorem distanceBetween_both (W H : Int) (L : List Int) (A B x y : Int) (hl : L.length ≤ 1048576) : ∃ (r : Int) (b : Bool), Ev (fun k => spec_DistanceBetween.f k W H L A B x y) (r, b) ∧ Ev (fun k => impl_DistanceBetween.f k W H L A B x y) (r, b) := by
  by_cases t : AskM W H L A B x y
  · have g := t.1.1
    have hx := has_range t.2.1
    have hy := has_range t.2.2
    have hf := farM_keep (A := A) (B := B) g hx
    have h1 : y < ((farM W H L A B x).length : Int) := by rw [hf.1]; omega
    refine ⟨if rd (farM W H L A B x) y < 0 then 0 else rd (farM W H L A B x) y, !decide (rd (farM W H L A B x) y < 0), ?_, ?_⟩
    · unfold spec_DistanceBetween.f
      refine Ev.bind (faAsked_yes t hl) ?_
      simp only [if_true]
      refine Ev.bind (faFrom_ev g hl x hx) ?_
      simp only [hy.1, h1, if_true]
      by_cases c : rd (farM W H L A B x) y < 0
      · simp only [c, if_true, decide_true, Bool.not_true]; exact Ev.now _
      · simp only [c, if_false, decide_false, Bool.not_false]; exact Ev.now _
    · unfold impl_DistanceBetween.f
      refine Ev.bind (implTwo_yes t hl) ?_
      simp only [if_true]
      refine Ev.bind (far_ev g x t.2.1) ?_
      simp only [hy.1, h1, if_true]
      by_cases c : rd (farM W H L A B x) y < 0
      · simp only [c, if_true, decide_true, Bool.not_true]; exact Ev.now _
      · simp only [c, if_false, decide_false, Bool.not_false]; exact Ev.now _
  · refine ⟨0, false, ?_, ?_⟩
    · unfold spec_DistanceBetween.f
      refine Ev.bind (faAsked_no t hl) ?_
      simp only [Bool.false_eq_true, if_false]
      exact Ev.now _
    · unfold impl_DistanceBetween.f
      refine Ev.bind (implTwo_no t hl) ?_
      simp only [Bool.false_eq_true, if_false]
      exact Ev.now _
theorem FnExactDistanceBetween : FnExactDistanceBetweenSaid := by
  intro a0_0 a0_1 l0_2 a1_0 a1_1 a2 a3 _ _ hlen_l0_2 _ _ _ _ _
  by_cases hb_l0_2 : 1048576 < l0_2.length
  · refine ⟨0, ?_⟩
    simp [laws_FnExactDistanceBetween.f, szBoard_big a0_0 a0_1 l0_2 hb_l0_2 hlen_l0_2]
  have hs_l0_2 : l0_2.length ≤ 1048576 := by omega
  obtain ⟨r, b, hs, hi⟩ := distanceBetween_both a0_0 a0_1 l0_2 a1_0 a1_1 a2 a3 hs_l0_2
  refine rounds_of ?_
  have n0 : ¬ (1048576 - (l0_2.length : Int) < 0) := by omega
  have n1 : ¬ (1 + (l0_2.length : Int) < 0) := by omega
  unfold laws_FnExactDistanceBetween.f
  repeat (first
    | exact Ev.now _
    | refine Ev.bind (toBoard_ev _ _ _ (by assumption)) ?_
    | refine Ev.bind (eqBoard_ev _ _ _ (by assumption)) ?_
    | refine Ev.bind (markBoard_ev _ _ _ (by assumption)) ?_
    | refine Ev.bind (toIntS_ev _ (by assumption)) ?_
    | refine Ev.bind (eqIntS_ev _ (by assumption)) ?_
    | refine Ev.bind (markIntS_ev _ (by assumption)) ?_
    | refine Ev.bind (heldIntS_ev _ (by assumption)) ?_
    | refine Ev.bind (markIntS_any _ _ (by assumption) (by omega)) ?_
    | refine Ev.bind hs ?_
    | refine Ev.bind hi ?_
    | simp only [Option.bind_some, if_true, if_false, bne_self_eq_false, Bool.false_eq_true, ne_eq, not_true_eq_false, not_false_eq_true, szBoard_fit _ _ _ hs_l0_2, laws_toLeaper.f, n0, n1]
    | (refine Ev.step (fun k => by rw [laws_FnExactDistanceBetween.j0]) ?_))
end Go.Proofs.Ythoklbeenjppbaa.Pure

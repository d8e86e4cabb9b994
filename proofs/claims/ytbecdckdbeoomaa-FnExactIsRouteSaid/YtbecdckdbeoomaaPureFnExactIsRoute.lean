/- IsRoute: the program and the reference tell the same, so the law's function answers true for all arguments. -/
import Derived.Test.YtbecdckdbeoomaaStateFnExactIsRoute
import Derived.Test.YtbecdckdbeoomaaHFar
import Derived.Test.YtbecdckdbeoomaaHPath
import Derived.Test.YtbecdckdbeoomaaQ41
import Derived.Test.YtbecdckdbeoomaaQ42
namespace Go.Proofs.Ytbecdckdbeoomaa.Pure
open Go.RowKit Go.IntWalk Go.Proofs.Ytbecdckdbeoomaa.Q Go.Proofs.Ytbecdckdbeoomaa.H Go.Proofs.YtbecdckdbeoomaaW.PrintWords Go.Proofs.YtbecdckdbeoomaaW.PrintMore
set_option linter.unusedVariables false
set_option linter.unusedSimpArgs false
theorem isRoute_both (W H : Int) (L : List Int) (A B : Int) (s : List Int) (hl : L.length ≤ 1048576) (hs : s.length ≤ 1048576) : ∃ (r b : Bool), Ev (fun k => spec_IsRoute.f k W H L A B s) (r, b) ∧ Ev (fun k => impl_IsRoute.f k W H L A B s) (r, b) := by
  by_cases t : Two W H L A B
  · have g := t.1
    have ha := g.area
    have h1 := boPath_ev g hl A B s
    have h2 := isPath_ev g hl A B s
    rcases Bool.eq_false_or_eq_true (pathB W H L A B s) with hx | hx
    · rw [hx] at h1 h2
      have hw := pathB_has hx
      have c3 : 0 < (s.length : Int) := by omega
      have w2 : wrap64 ((s.length : Int) - 1) = ((s.length - 1 : Nat) : Int) := by rw [wrap64_in _ (by omega)]; omega
      have c1 : (0 : Int) ≤ ((s.length - 1 : Nat) : Int) := by omega
      have c2 : ((s.length - 1 : Nat) : Int) < (s.length : Int) := by omega
      have b0 : hasB W H L (rd s 0) = true := by
        have : rd s ((0 : Nat) : Int) = s[0] := rd_nat s 0 (by omega)
        rw [show rd s 0 = rd s ((0 : Nat) : Int) from rfl, this]; exact hw.2.2 _ (List.getElem_mem _)
      have b1 : hasB W H L (rd s ((s.length - 1 : Nat) : Int)) = true := by
        rw [rd_nat s (s.length - 1) (by omega)]; exact hw.2.2 _ (List.getElem_mem _)
      have r1 := has_range b1
      have hk := farM_keep (A := A) (B := B) g (has_range b0)
      have c4 : rd s ((s.length - 1 : Nat) : Int) < ((farM W H L A B (rd s 0)).length : Int) := by omega
      refine ⟨rd (farM W H L A B (rd s 0)) (rd s ((s.length - 1 : Nat) : Int)) == ((s.length - 1 : Nat) : Int), true, ?_, ?_⟩
      · unfold spec_IsRoute.f
        refine Ev.bind (two_yes t hl) ?_
        simp only [if_true]
        refine Ev.bind h1 ?_
        simp only [if_true, c3]
        refine Ev.bind (faFrom_ev g hl (rd s 0) (has_range b0)) ?_
        simp only [w2, c1, c2, r1.1, c4, if_true]
        exact Ev.now _
      · unfold impl_IsRoute.f
        refine Ev.bind (graphOf_two t hl) ?_
        simp only [if_true]
        refine Ev.bind h2 ?_
        simp only [if_true, c3]
        refine Ev.bind (far_ev g (rd s 0) b0) ?_
        simp only [w2, c1, c2, r1.1, c4, if_true]
        exact Ev.now _
    · rw [hx] at h1 h2
      refine ⟨false, true, ?_, ?_⟩
      · unfold spec_IsRoute.f
        refine Ev.bind (two_yes t hl) ?_
        simp only [if_true]
        refine Ev.bind h1 ?_
        simp only [Bool.false_eq_true, if_false]
        exact Ev.now _
      · unfold impl_IsRoute.f
        refine Ev.bind (graphOf_two t hl) ?_
        simp only [if_true]
        refine Ev.bind h2 ?_
        simp only [Bool.false_eq_true, if_false]
        exact Ev.now _
  · refine ⟨false, false, ?_, ?_⟩
    · unfold spec_IsRoute.f
      refine Ev.bind (two_no t hl) ?_
      simp only [Bool.false_eq_true, if_false]
      exact Ev.now _
    · unfold impl_IsRoute.f
      refine Ev.bind (graphOf_not t hl) ?_
      simp only [Bool.false_eq_true, if_false]
      exact Ev.now _
theorem FnExactIsRoute : FnExactIsRouteSaid := by
  intro a0_0 a0_1 l0_2 a1_0 a1_1 l2 _ _ hlen_l0_2 _ _ _ hlen_l2 _
  by_cases hb_l2 : (l2.length : Int) > 1048576
  · refine ⟨0, ?_⟩
    simp [laws_FnExactIsRoute.f, hb_l2]
  have hs_l2 : l2.length ≤ 1048576 := by omega
  by_cases hb_l0_2 : 1048576 < l0_2.length
  · refine ⟨0, ?_⟩
    simp [laws_FnExactIsRoute.f, szBoard_big a0_0 a0_1 l0_2 hb_l0_2 hlen_l0_2, hb_l2]
  have hs_l0_2 : l0_2.length ≤ 1048576 := by omega
  obtain ⟨r, b, hs, hi⟩ := isRoute_both a0_0 a0_1 l0_2 a1_0 a1_1 l2 hs_l0_2 hs_l2
  refine rounds_of ?_
  have n0 : ¬ (1048576 - (l0_2.length : Int) < 0) := by omega
  have n1 : ¬ (1 + (l0_2.length : Int) < 0) := by omega
  have n2 : ¬ (1 + (l2.length : Int) < 0) := by omega
  have n12 : ¬ (1 + (l0_2.length : Int) + (l2.length : Int) < 0) := by omega
  unfold laws_FnExactIsRoute.f
  repeat (first
    | exact Ev.now _
    | refine Ev.bind (toBoard_ev _ _ _ (by assumption)) ?_
    | refine Ev.bind (eqBoard_ev _ _ _ (by assumption)) ?_
    | refine Ev.bind (markBoard_ev _ _ _ (by assumption)) ?_
    | refine Ev.bind (toIntS_ev _ (by assumption)) ?_
    | refine Ev.bind (eqIntS_ev _ (by assumption)) ?_
    | refine Ev.bind (markIntS_ev _ (by assumption)) ?_
    | refine Ev.bind (heldIntS_ev _ (by assumption)) ?_
    | refine Ev.bind (markIntS_any _ _ (by assumption) (by omega)) ?_
    | refine Ev.bind hs ?_
    | refine Ev.bind hi ?_
    | simp only [Option.bind_some, if_true, if_false, bne_self_eq_false, Bool.false_eq_true, ne_eq, not_true_eq_false, not_false_eq_true, hb_l2, szBoard_fit _ _ _ hs_l0_2, laws_toLeaper.f, n0, n1, n2, n12]
    | (refine Ev.step (fun k => by rw [laws_FnExactIsRoute.j0]) ?_))
end Go.Proofs.Ytbecdckdbeoomaa.Pure

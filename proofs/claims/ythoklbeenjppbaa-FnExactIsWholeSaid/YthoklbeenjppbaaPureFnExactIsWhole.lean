/- IsWhole: the program and the reference count the same parts, so the law's function answers true for all arguments. -/
import Derived.Test.YthoklbeenjppbaaStateFnExactIsWhole
import Derived.Test.YthoklbeenjppbaaHParts
import Derived.Test.YthoklbeenjppbaaQ38
namespace Go.Proofs.Ythoklbeenjppbaa.Pure
open Go.RowKit Go.IntWalk Go.Proofs.Ythoklbeenjppbaa.Q Go.Proofs.Ythoklbeenjppbaa.H Go.Proofs.YthoklbeenjppbaaW.PrintWords Go.Proofs.YthoklbeenjppbaaW.PrintMore
set_option linter.unusedVariables false
set_option linter.unusedSimpArgs false
theorem isWhole_both (W H : Int) (L : List Int) (A B : Int) (hl : L.length ≤ 1048576) : ∃ (r b : Bool), Ev (fun k => spec_IsWhole.f k W H L A B) (r, b) ∧ Ev (fun k => impl_IsWhole.f k W H L A B) (r, b) := by
  by_cases t : Two W H L A B
  · refine ⟨(((partsR (farM W H L A B) (cellsM W H L) (List.replicate (W * H).toNat false) []).length : Int) == 1), true, ?_, ?_⟩
    · unfold spec_IsWhole.f
      refine Ev.bind (two_yes t hl) ?_
      simp only [if_true]
      exact Ev.bind (faParts_ev t.1 hl) (Ev.now _)
    · unfold impl_IsWhole.f
      refine Ev.bind (graphOf_two t hl) ?_
      simp only [if_true]
      exact Ev.bind (parts_ev t.1) (Ev.now _)
  · refine ⟨false, false, ?_, ?_⟩
    · unfold spec_IsWhole.f
      refine Ev.bind (two_no t hl) ?_
      simp only [Bool.false_eq_true, if_false]
      exact Ev.now _
    · unfold impl_IsWhole.f
      refine Ev.bind (graphOf_not t hl) ?_
      simp only [Bool.false_eq_true, if_false]
      exact Ev.now _
theorem FnExactIsWhole : FnExactIsWholeSaid := by
  intro a0_0 a0_1 l0_2 a1_0 a1_1 _ _ hlen_l0_2 _ _ _
  by_cases hb_l0_2 : 1048576 < l0_2.length
  · refine ⟨0, ?_⟩
    simp [laws_FnExactIsWhole.f, szBoard_big a0_0 a0_1 l0_2 hb_l0_2 hlen_l0_2]
  have hs_l0_2 : l0_2.length ≤ 1048576 := by omega
  obtain ⟨r, b, hs, hi⟩ := isWhole_both a0_0 a0_1 l0_2 a1_0 a1_1 hs_l0_2
  refine rounds_of ?_
  have n0 : ¬ (1048576 - (l0_2.length : Int) < 0) := by omega
  have n1 : ¬ (1 + (l0_2.length : Int) < 0) := by omega
  unfold laws_FnExactIsWhole.f
  repeat (first
    | exact Ev.now _
    | refine Ev.bind (toBoard_ev _ _ _ (by assumption)) ?_
    | refine Ev.bind (eqBoard_ev _ _ _ (by assumption)) ?_
    | refine Ev.bind (markBoard_ev _ _ _ (by assumption)) ?_
    | refine Ev.bind (toIntS_ev _ (by assumption)) ?_
    | refine Ev.bind (eqIntS_ev _ (by assumption)) ?_
    | refine Ev.bind (markIntS_ev _ (by assumption)) ?_
    | refine Ev.bind (heldIntS_ev _ (by assumption)) ?_
    | refine Ev.bind (markIntS_any _ _ (by assumption) (by omega)) ?_
    | refine Ev.bind hs ?_
    | refine Ev.bind hi ?_
    | simp only [Option.bind_some, if_true, if_false, bne_self_eq_false, Bool.false_eq_true, ne_eq, not_true_eq_false, not_false_eq_true, szBoard_fit _ _ _ hs_l0_2, laws_toLeaper.f, n0, n1]
    | (refine Ev.step (fun k => by rw [laws_FnExactIsWhole.j0]) ?_))
end Go.Proofs.Ythoklbeenjppbaa.Pure

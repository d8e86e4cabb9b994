/- BackPath: the program and the reference tell the same list, so the law's function answers true for all arguments. -/
import Derived.Test.YtjeongckkfkehaaStateFnExactBackPath
import Derived.Test.YtjeongckkfkehaaHPath
import Derived.Test.YtjeongckkfkehaaHReverse
import Derived.Test.YtjeongckkfkehaaHSort
import Derived.Test.YtjeongckkfkehaaQ8
import Derived.Test.YtjeongckkfkehaaQ10
namespace Go.Proofs.Ytjeongckkfkehaa.Pure
open Go.RowKit Go.IntWalk Go.Proofs.Ytjeongckkfkehaa.Q Go.Proofs.Ytjeongckkfkehaa.H Go.Proofs.YtjeongckkfkehaaW.PrintWords Go.Proofs.YtjeongckkfkehaaW.PrintMore
set_option linter.unusedVariables false
set_option linter.unusedSimpArgs false
theorem back_loop (l : List Int) (hl : l.length ≤ 64) : ∀ (n : Nat) (acc : List Int), n ≤ l.length → acc.length + n ≤ 64 → Ev (fun k => spec_BackPath.l0 k l acc ((n : Int) - 1)) (acc ++ (l.take n).reverse, true) := by
  intro n
  induction n with
  | zero =>
    intro acc h1 h2
    refine Ev.step (fun k => by rw [spec_BackPath.l0]) ?_
    have h3 : ¬ (((0 : Nat) : Int) - 1 ≥ 0) := by omega
    simp only [h3, if_false, List.take_zero, List.reverse_nil, List.append_nil]
    exact Ev.now _
  | succ n ih =>
    intro acc h1 h2
    refine Ev.step (fun k => by rw [spec_BackPath.l0]) ?_
    have e : ((n + 1 : Nat) : Int) - 1 = (n : Int) := by omega
    have h3 : (n : Int) ≥ 0 := by omega
    have h4 : (0 : Int) ≤ (n : Int) := by omega
    have h5 : (n : Int) < (l.length : Int) := by omega
    have h6 : acc.length < 17592186044416 := by omega
    have e2 : wrap64 ((n : Int) - 1) = (n : Int) - 1 := wrap64_in _ (by omega)
    simp only [e, h3, h4, h5, h6, e2, if_true, rd_nat l n (by omega)]
    have := ih (acc ++ [l[n]]) (by omega) (by simp; omega)
    rw [List.take_succ_eq_append_getElem (by omega), List.reverse_append]
    simpa using this
theorem backPath_both (W H : Int) (L : List Int) (A B : Int) (s : List Int) (hl : L.length ≤ 1048576) (hs : s.length ≤ 1048576) : ∃ (r : List Int) (b : Bool), r.length ≤ 1048576 ∧ Ev (fun k => spec_BackPath.f k W H L A B s) (r, b) ∧ Ev (fun k => impl_BackPath.f k W H L A B s) (r, b) := by
  by_cases t : Two W H L A B
  · rcases Bool.eq_false_or_eq_true (pathB W H L A B s) with hx | hx
    · have hw := pathB_has hx
      refine ⟨s.reverse, true, by simpa using hs, ?_, ?_⟩
      · unfold spec_BackPath.f
        refine Ev.bind (a := true) ?_ ?_
        · unfold spec_crPath.f
          refine Ev.bind (two_yes t hl) ?_
          simp only [if_true]
          have := boPath_ev t.1 hl A B s
          rw [hx] at this
          exact Ev.bind this (Ev.now _)
        · have e : wrap64 ((s.length : Int) - 1) = (s.length : Int) - 1 := wrap64_in _ (by omega)
          simp only [if_true, e]
          have := back_loop s hw.2.1 s.length [] (by omega) (by simpa using hw.2.1)
          simpa using this
      · unfold impl_BackPath.f
        refine Ev.bind (graphOf_two t hl) ?_
        simp only [if_true]
        have := isPath_ev t.1 hl A B s
        rw [hx] at this
        refine Ev.bind this ?_
        simp only [if_true]
        refine Ev.bind (a := s.reverse) ?_ (Ev.now _)
        have h2 : s.length < 17592186044416 := by omega
        simp only [impl_backwards.f, slices_Clone_int_int.f, h2, if_true, Option.bind_some]
        exact Ev.bind (reverse_ev s hs) (Ev.now _)
    · refine ⟨[], false, by simp, ?_, ?_⟩
      · unfold spec_BackPath.f
        refine Ev.bind (a := false) ?_ ?_
        · unfold spec_crPath.f
          refine Ev.bind (two_yes t hl) ?_
          simp only [if_true]
          have := boPath_ev t.1 hl A B s
          rw [hx] at this
          exact Ev.bind this (Ev.now _)
        · simp only [Bool.false_eq_true, if_false]
          exact Ev.now _
      · unfold impl_BackPath.f
        refine Ev.bind (graphOf_two t hl) ?_
        simp only [if_true]
        have := isPath_ev t.1 hl A B s
        rw [hx] at this
        refine Ev.bind this ?_
        simp only [Bool.false_eq_true, if_false]
        exact Ev.now _
  · refine ⟨[], false, by simp, ?_, ?_⟩
    · unfold spec_BackPath.f
      refine Ev.bind (a := false) ?_ ?_
      · unfold spec_crPath.f
        refine Ev.bind (two_no t hl) ?_
        simp only [Bool.false_eq_true, if_false]
        exact Ev.now _
      · simp only [Bool.false_eq_true, if_false]
        exact Ev.now _
    · unfold impl_BackPath.f
      refine Ev.bind (graphOf_not t hl) ?_
      simp only [Bool.false_eq_true, if_false]
      exact Ev.now _
theorem FnExactBackPath : FnExactBackPathSaid := by
  intro a0_0 a0_1 l0_2 a1_0 a1_1 l2 _ _ hlen_l0_2 _ _ _ hlen_l2 _
  by_cases hb_l2 : (l2.length : Int) > 1048576
  · refine ⟨0, ?_⟩
    simp [laws_FnExactBackPath.f, hb_l2]
  have hs_l2 : l2.length ≤ 1048576 := by omega
  by_cases hb_l0_2 : 1048576 < l0_2.length
  · refine ⟨0, ?_⟩
    simp [laws_FnExactBackPath.f, szBoard_big a0_0 a0_1 l0_2 hb_l0_2 hlen_l0_2, hb_l2]
  have hs_l0_2 : l0_2.length ≤ 1048576 := by omega
  obtain ⟨r, b, hr, hs, hi⟩ := backPath_both a0_0 a0_1 l0_2 a1_0 a1_1 l2 hs_l0_2 hs_l2
  refine rounds_of ?_
  have n0 : ¬ (1048576 - (l0_2.length : Int) < 0) := by omega
  have n1 : ¬ (1 + (l0_2.length : Int) < 0) := by omega
  have n2 : ¬ (1 + (l2.length : Int) < 0) := by omega
  have n12 : ¬ (1 + (l0_2.length : Int) + (l2.length : Int) < 0) := by omega
  have nr : ¬ (1 + (r.length : Int) < 0) := by omega
  unfold laws_FnExactBackPath.f
  repeat (first
    | exact Ev.now _
    | refine Ev.bind (toBoard_ev _ _ _ (by assumption)) ?_
    | refine Ev.bind (eqBoard_ev _ _ _ (by assumption)) ?_
    | refine Ev.bind (markBoard_ev _ _ _ (by assumption)) ?_
    | refine Ev.bind (toIntS_ev _ (by assumption)) ?_
    | refine Ev.bind (eqIntS_ev _ (by assumption)) ?_
    | refine Ev.bind (markIntS_ev _ (by assumption)) ?_
    | refine Ev.bind (heldIntS_ev _ (by assumption)) ?_
    | refine Ev.bind (markIntS_any _ _ (by assumption) (by omega)) ?_
    | refine Ev.bind hs ?_
    | refine Ev.bind hi ?_
    | simp only [Option.bind_some, if_true, if_false, bne_self_eq_false, Bool.false_eq_true, ne_eq, not_true_eq_false, not_false_eq_true, hb_l2, szBoard_fit _ _ _ hs_l0_2, laws_toLeaper.f, n0, n1, n2, n12, nr]
    | (refine Ev.step (fun k => by rw [laws_FnExactBackPath.j0]) ?_)
    | (refine Ev.step (fun k => by rw [laws_FnExactBackPath.j1]) ?_)
    | (refine Ev.step (fun k => by rw [laws_FnExactBackPath.j2]) ?_))
end Go.Proofs.Ytjeongckkfkehaa.Pure

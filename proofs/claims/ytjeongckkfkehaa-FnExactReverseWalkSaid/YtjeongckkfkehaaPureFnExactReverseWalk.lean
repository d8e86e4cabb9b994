/- ReverseWalk: the program and the reference tell the same list, so the law's function answers true for all arguments. -/
import Derived.Test.YtjeongckkfkehaaStateFnExactReverseWalk
import Derived.Test.YtjeongckkfkehaaHWalked
import Derived.Test.YtjeongckkfkehaaHReverse
import Derived.Test.YtjeongckkfkehaaHSort
import Derived.Test.YtjeongckkfkehaaQ28
import Derived.Test.YtjeongckkfkehaaQ10
namespace Go.Proofs.Ytjeongckkfkehaa.Pure
open Go.RowKit Go.IntWalk Go.Proofs.Ytjeongckkfkehaa.Q Go.Proofs.Ytjeongckkfkehaa.H Go.Proofs.YtjeongckkfkehaaW.PrintWords Go.Proofs.YtjeongckkfkehaaW.PrintMore
set_option linter.unusedVariables false
set_option linter.unusedSimpArgs false
theorem blBack_loop (l : List Int) (hl : l.length ≤ 64) : ∀ (n : Nat) (acc : List Int), n ≤ l.length → acc.length + n ≤ 64 → Ev (fun k => spec_blBack.l0 k l acc ((n : Int) - 1)) (acc ++ (l.take n).reverse) := by
  intro n
  induction n with
  | zero =>
    intro acc h1 h2
    refine Ev.step (fun k => by rw [spec_blBack.l0]) ?_
    have h3 : ¬ (((0 : Nat) : Int) - 1 ≥ 0) := by omega
    simp only [h3, if_false, List.take_zero, List.reverse_nil, List.append_nil]
    exact Ev.now _
  | succ n ih =>
    intro acc h1 h2
    refine Ev.step (fun k => by rw [spec_blBack.l0]) ?_
    have e : ((n + 1 : Nat) : Int) - 1 = (n : Int) := by omega
    have h3 : (n : Int) ≥ 0 := by omega
    have h4 : (0 : Int) ≤ (n : Int) := by omega
    have h5 : (n : Int) < (l.length : Int) := by omega
    have h6 : acc.length < 17592186044416 := by omega
    have e2 : wrap64 ((n : Int) - 1) = (n : Int) - 1 := wrap64_in _ (by omega)
    simp only [e, h3, h4, h5, h6, e2, if_true, rd_nat l n (by omega)]
    have := ih (acc ++ [l[n]]) (by omega) (by simp; omega)
    rw [List.take_succ_eq_append_getElem (by omega), List.reverse_append]
    simpa using this
theorem reverseWalk_both (W H : Int) (L : List Int) (A B : Int) (s : List Int) (hl : L.length ≤ 1048576) (hs : s.length ≤ 1048576) : ∃ (r : List Int) (b : Bool), r.length ≤ 1048576 ∧ Ev (fun k => spec_ReverseWalk.f k W H L A B s) (r, b) ∧ Ev (fun k => impl_ReverseWalk.f k W H L A B s) (r, b) := by
  by_cases t : Walked W H L A B s
  · have hw := walkB_has t.2
    refine ⟨s.reverse, true, by simpa using hs, ?_, ?_⟩
    · unfold spec_ReverseWalk.f
      refine Ev.bind (blWalk_yes t hl) ?_
      simp only [if_true]
      refine Ev.bind (a := s.reverse) ?_ (Ev.now _)
      have e : wrap64 ((s.length : Int) - 1) = (s.length : Int) - 1 := wrap64_in _ (by omega)
      simp only [spec_blBack.f, e]
      have := blBack_loop s hw.2.1 s.length [] (by omega) (by simpa using hw.2.1)
      simpa using this
    · unfold impl_ReverseWalk.f
      refine Ev.bind (walkGraph_yes t hl) ?_
      simp only [if_true]
      refine Ev.bind (a := s.reverse) ?_ (Ev.now _)
      have h2 : s.length < 17592186044416 := by omega
      simp only [impl_backwards.f, slices_Clone_int_int.f, h2, if_true, Option.bind_some]
      exact Ev.bind (reverse_ev s hs) (Ev.now _)
  · refine ⟨[], false, by simp, ?_, ?_⟩
    · unfold spec_ReverseWalk.f
      refine Ev.bind (blWalk_no t hl) ?_
      simp only [Bool.false_eq_true, if_false]
      exact Ev.now _
    · unfold impl_ReverseWalk.f
      refine Ev.bind (walkGraph_no t hl) ?_
      simp only [Bool.false_eq_true, if_false]
      exact Ev.now _
theorem FnExactReverseWalk : FnExactReverseWalkSaid := by
  intro a0_0 a0_1 l0_2 a1_0 a1_1 l2 _ _ hlen_l0_2 _ _ _ hlen_l2 _
  by_cases hb_l2 : (l2.length : Int) > 1048576
  · refine ⟨0, ?_⟩
    simp [laws_FnExactReverseWalk.f, hb_l2]
  have hs_l2 : l2.length ≤ 1048576 := by omega
  by_cases hb_l0_2 : 1048576 < l0_2.length
  · refine ⟨0, ?_⟩
    simp [laws_FnExactReverseWalk.f, szBoard_big a0_0 a0_1 l0_2 hb_l0_2 hlen_l0_2, hb_l2]
  have hs_l0_2 : l0_2.length ≤ 1048576 := by omega
  obtain ⟨r, b, hr, hs, hi⟩ := reverseWalk_both a0_0 a0_1 l0_2 a1_0 a1_1 l2 hs_l0_2 hs_l2
  refine rounds_of ?_
  have n0 : ¬ (1048576 - (l0_2.length : Int) < 0) := by omega
  have n1 : ¬ (1 + (l0_2.length : Int) < 0) := by omega
  have n2 : ¬ (1 + (l2.length : Int) < 0) := by omega
  have n12 : ¬ (1 + (l0_2.length : Int) + (l2.length : Int) < 0) := by omega
  have nr : ¬ (1 + (r.length : Int) < 0) := by omega
  unfold laws_FnExactReverseWalk.f
  repeat (first
    | exact Ev.now _
    | refine Ev.bind (toBoard_ev _ _ _ (by assumption)) ?_
    | refine Ev.bind (eqBoard_ev _ _ _ (by assumption)) ?_
    | refine Ev.bind (markBoard_ev _ _ _ (by assumption)) ?_
    | refine Ev.bind (toIntS_ev _ (by assumption)) ?_
    | refine Ev.bind (eqIntS_ev _ (by assumption)) ?_
    | refine Ev.bind (markIntS_ev _ (by assumption)) ?_
    | refine Ev.bind (heldIntS_ev _ (by assumption)) ?_
    | refine Ev.bind (markIntS_any _ _ (by assumption) (by omega)) ?_
    | refine Ev.bind hs ?_
    | refine Ev.bind hi ?_
    | simp only [Option.bind_some, if_true, if_false, bne_self_eq_false, Bool.false_eq_true, ne_eq, not_true_eq_false, not_false_eq_true, hb_l2, szBoard_fit _ _ _ hs_l0_2, laws_toLeaper.f, n0, n1, n2, n12, nr]
    | (refine Ev.step (fun k => by rw [laws_FnExactReverseWalk.j0]) ?_)
    | (refine Ev.step (fun k => by rw [laws_FnExactReverseWalk.j1]) ?_)
    | (refine Ev.step (fun k => by rw [laws_FnExactReverseWalk.j2]) ?_))
end Go.Proofs.Ytjeongckkfkehaa.Pure

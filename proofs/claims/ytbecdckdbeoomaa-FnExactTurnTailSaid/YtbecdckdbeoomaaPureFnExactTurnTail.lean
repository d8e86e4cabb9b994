/- TurnTail: the program and the reference tell the same walk, so the law's function answers true for all arguments. -/
import Derived.Test.YtbecdckdbeoomaaStateFnExactTurnTail
import Derived.Test.YtbecdckdbeoomaaHWalked
import Derived.Test.YtbecdckdbeoomaaHReverse
import Derived.Test.YtbecdckdbeoomaaHSort
import Derived.Test.YtbecdckdbeoomaaQ17
import Derived.Test.YtbecdckdbeoomaaQ20
import Derived.Test.YtbecdckdbeoomaaQ18
namespace Go.Proofs.Ytbecdckdbeoomaa.Pure
open Go.RowKit Go.IntWalk Go.Proofs.Ytbecdckdbeoomaa.Q Go.Proofs.Ytbecdckdbeoomaa.H Go.Proofs.YtbecdckdbeoomaaW.PrintWords Go.Proofs.YtbecdckdbeoomaaW.PrintMore
set_option linter.unusedVariables false
set_option linter.unusedSimpArgs false
theorem blBack_loop (l : List Int) (hl : l.length ≤ 64) : ∀ (n : Nat) (acc : List Int), n ≤ l.length → acc.length + n ≤ 64 → Ev (fun k => spec_blBack.l0 k l acc ((n : Int) - 1)) (acc ++ (l.take n).reverse) := by
  intro n
  induction n with
  | zero =>
    intro acc h1 h2
    refine Ev.step (fun k => by rw [spec_blBack.l0]) ?_
    have h3 : ¬ (((0 : Nat) : Int) - 1 ≥ 0) := by omega
    simp only [h3, if_false, List.take_zero, List.reverse_nil, List.append_nil]
    exact Ev.now _
  | succ n ih =>
    intro acc h1 h2
    refine Ev.step (fun k => by rw [spec_blBack.l0]) ?_
    have e : ((n + 1 : Nat) : Int) - 1 = (n : Int) := by omega
    have h3 : (n : Int) ≥ 0 := by omega
    have h4 : (0 : Int) ≤ (n : Int) := by omega
    have h5 : (n : Int) < (l.length : Int) := by omega
    have h6 : acc.length < 17592186044416 := by omega
    have e2 : wrap64 ((n : Int) - 1) = (n : Int) - 1 := wrap64_in _ (by omega)
    simp only [e, h3, h4, h5, h6, e2, if_true, rd_nat l n (by omega)]
    have := ih (acc ++ [l[n]]) (by omega) (by simp; omega)
    rw [List.take_succ_eq_append_getElem (by omega), List.reverse_append]
    simpa using this
theorem blBack_ev (l : List Int) (hl : l.length ≤ 64) : Ev (fun k => spec_blBack.f k l) l.reverse := by
  have e : wrap64 ((l.length : Int) - 1) = (l.length : Int) - 1 := wrap64_in _ (by omega)
  simp only [spec_blBack.f, e]
  have := blBack_loop l hl l.length [] (by omega) (by simpa using hl)
  simpa using this
theorem backwards_ev (l : List Int) (hl : l.length ≤ 64) : Ev (fun k => impl_backwards.f k l) l.reverse := by
  have h2 : l.length < 17592186044416 := by omega
  simp only [impl_backwards.f, slices_Clone_int_int.f, h2, if_true, Option.bind_some]
  exact Ev.bind (reverse_ev l (by omega)) (Ev.now _)
theorem rd_has {W H : Int} {L s : List Int} (hs : ∀ x ∈ s, hasB W H L x = true) (j : Nat) (h : j < s.length) : hasB W H L (rd s (j : Int)) = true := by
  rw [rd_nat s j h]; exact hs _ (List.getElem_mem h)
theorem turnTail_both (W H : Int) (L : List Int) (A B : Int) (s : List Int) (n : Int) (hl : L.length ≤ 1048576) (hs : s.length ≤ 1048576) : ∃ (r : List Int) (b : Bool), r.length ≤ 1048576 ∧ Ev (fun k => spec_TurnTail.f k W H L A B s n) (r, b) ∧ Ev (fun k => impl_TurnTail.f k W H L A B s n) (r, b) := by
  by_cases t : Walked W H L A B s
  · have hw := walkB_has t.2
    have g := t.1.1
    have w2 : wrap64 ((s.length : Int) - 1) = ((s.length - 1 : Nat) : Int) := by rw [wrap64_in _ (by omega)]; omega
    by_cases hn : 1 ≤ n ∧ n < (s.length : Int)
    · have h1 : (decide (1 ≤ n) && decide (n ≤ ((s.length - 1 : Nat) : Int))) = true := by simp; omega
      have i1 : ¬ n < 1 := by omega
      have i2 : ¬ n ≥ (s.length : Int) := by omega
      have w1 : wrap64 (n - 1) = ((n.toNat - 1 : Nat) : Int) := by rw [wrap64_in _ (by omega)]; omega
      have c1 : (0 : Int) ≤ ((n.toNat - 1 : Nat) : Int) := by omega
      have c2 : ((n.toNat - 1 : Nat) : Int) < (s.length : Int) := by omega
      have c3 : (0 : Int) ≤ ((s.length - 1 : Nat) : Int) := by omega
      have c4 : ((s.length - 1 : Nat) : Int) < (s.length : Int) := by omega
      have b1 := rd_has hw.2.2 (n.toNat - 1) (by omega)
      have b2 := rd_has hw.2.2 (s.length - 1) (by omega)
      have hlp := leaps_ev (A := A) (B := B) g _ _ b1 b2
      rcases Bool.eq_false_or_eq_true (isB W A B (rd s ((n.toNat - 1 : Nat) : Int)) (rd s ((s.length - 1 : Nat) : Int))) with hx | hx
      · rw [hx] at hlp
        have j1 : 0 ≤ n := by omega
        have j2 : n ≤ (s.length : Int) := by omega
        have k1 : (s.take n.toNat).length < 17592186044416 := by simp; omega
        have k2 : (s.take n.toNat).length + (s.drop n.toNat).reverse.length < 17592186044416 := by simp; omega
        have k3 : ([] : List Int).length + (s.take n.toNat).length < 17592186044416 := by simpa using k1
        have k4 : (s.drop n.toNat).length ≤ 64 := by simp; omega
        refine ⟨s.take n.toNat ++ (s.drop n.toNat).reverse, true, by simp; omega, ?_, ?_⟩
        · unfold spec_TurnTail.f
          refine Ev.bind (blWalk_yes t hl) ?_
          simp only [if_true, w2, l1In_eq, Option.bind_some, h1]
          simp only [spec_blCan.f, w1, w2, c1, c2, c3, c4, if_true, boIs_eq g A B _ _ (has_range b1) (has_range b2), Option.bind_some, hx]
          refine Ev.bind (a := s.take n.toNat ++ (s.drop n.toNat).reverse) ?_ (Ev.now _)
          simp only [spec_blTurn.f, j1, j2, if_true, spec_l1Own.f, Option.bind_some, k3, List.nil_append]
          refine Ev.bind (blBack_ev (s.drop n.toNat) k4) ?_
          simp only [k2, if_true]
          exact Ev.now _
        · unfold impl_TurnTail.f
          refine Ev.bind (walkGraph_yes t hl) ?_
          simp only [if_true, i1, i2, if_false, w1, w2, c1, c2, c3, c4]
          refine Ev.bind hlp ?_
          simp only [if_true]
          refine Ev.bind (a := s.take n.toNat ++ (s.drop n.toNat).reverse) ?_ (Ev.now _)
          simp only [impl_tail.f, j1, j2, if_true, slices_Clone_int_int.f, k1, Option.bind_some]
          refine Ev.bind (backwards_ev (s.drop n.toNat) k4) ?_
          simp only [k2, if_true]
          exact Ev.now _
      · rw [hx] at hlp
        refine ⟨[], false, by simp, ?_, ?_⟩
        · unfold spec_TurnTail.f
          refine Ev.bind (blWalk_yes t hl) ?_
          simp only [if_true, w2, l1In_eq, Option.bind_some, h1]
          simp only [spec_blCan.f, w1, w2, c1, c2, c3, c4, if_true, boIs_eq g A B _ _ (has_range b1) (has_range b2), Option.bind_some, hx, Bool.false_eq_true, if_false]
          exact Ev.now _
        · unfold impl_TurnTail.f
          refine Ev.bind (walkGraph_yes t hl) ?_
          simp only [if_true, i1, i2, if_false, w1, w2, c1, c2, c3, c4]
          refine Ev.bind hlp ?_
          simp only [Bool.false_eq_true, if_false]
          exact Ev.now _
    · have h1 : (decide (1 ≤ n) && decide (n ≤ ((s.length - 1 : Nat) : Int))) = false := by simp only [Bool.and_eq_false_iff, decide_eq_false_iff_not]; omega
      refine ⟨[], false, by simp, ?_, ?_⟩
      · unfold spec_TurnTail.f
        refine Ev.bind (blWalk_yes t hl) ?_
        simp only [if_true, w2, l1In_eq, Option.bind_some, h1, Bool.false_eq_true, if_false]
        exact Ev.now _
      · unfold impl_TurnTail.f
        refine Ev.bind (walkGraph_yes t hl) ?_
        simp only [if_true]
        by_cases i1 : n < 1
        · simp only [i1, if_true]
          exact Ev.now _
        · have i2 : n ≥ (s.length : Int) := by omega
          simp only [i1, i2, if_true, if_false]
          exact Ev.now _
  · refine ⟨[], false, by simp, ?_, ?_⟩
    · unfold spec_TurnTail.f
      refine Ev.bind (blWalk_no t hl) ?_
      simp only [Bool.false_eq_true, if_false]
      exact Ev.now _
    · unfold impl_TurnTail.f
      refine Ev.bind (walkGraph_no t hl) ?_
      simp only [Bool.false_eq_true, if_false]
      exact Ev.now _
theorem FnExactTurnTail : FnExactTurnTailSaid := by
  intro a0_0 a0_1 l0_2 a1_0 a1_1 l2 a3 _ _ hlen_l0_2 _ _ _ hlen_l2 _ _
  by_cases hb_l2 : (l2.length : Int) > 1048576
  · refine ⟨0, ?_⟩
    simp [laws_FnExactTurnTail.f, hb_l2]
  have hs_l2 : l2.length ≤ 1048576 := by omega
  by_cases hb_l0_2 : 1048576 < l0_2.length
  · refine ⟨0, ?_⟩
    simp [laws_FnExactTurnTail.f, szBoard_big a0_0 a0_1 l0_2 hb_l0_2 hlen_l0_2, hb_l2]
  have hs_l0_2 : l0_2.length ≤ 1048576 := by omega
  obtain ⟨r, b, hr, hs, hi⟩ := turnTail_both a0_0 a0_1 l0_2 a1_0 a1_1 l2 a3 hs_l0_2 hs_l2
  refine rounds_of ?_
  have n0 : ¬ (1048576 - (l0_2.length : Int) < 0) := by omega
  have n1 : ¬ (1 + (l0_2.length : Int) < 0) := by omega
  have n2 : ¬ (1 + (l2.length : Int) < 0) := by omega
  have n12 : ¬ (1 + (l0_2.length : Int) + (l2.length : Int) < 0) := by omega
  have nr : ¬ (1 + (r.length : Int) < 0) := by omega
  unfold laws_FnExactTurnTail.f
  repeat (first
    | exact Ev.now _
    | refine Ev.bind (toBoard_ev _ _ _ (by assumption)) ?_
    | refine Ev.bind (eqBoard_ev _ _ _ (by assumption)) ?_
    | refine Ev.bind (markBoard_ev _ _ _ (by assumption)) ?_
    | refine Ev.bind (toIntS_ev _ (by assumption)) ?_
    | refine Ev.bind (eqIntS_ev _ (by assumption)) ?_
    | refine Ev.bind (markIntS_ev _ (by assumption)) ?_
    | refine Ev.bind (heldIntS_ev _ (by assumption)) ?_
    | refine Ev.bind (markIntS_any _ _ (by assumption) (by omega)) ?_
    | refine Ev.bind hs ?_
    | refine Ev.bind hi ?_
    | simp only [Option.bind_some, if_true, if_false, bne_self_eq_false, Bool.false_eq_true, ne_eq, not_true_eq_false, not_false_eq_true, hb_l2, szBoard_fit _ _ _ hs_l0_2, laws_toLeaper.f, n0, n1, n2, n12, nr]
    | (refine Ev.step (fun k => by rw [laws_FnExactTurnTail.j0]) ?_)
    | (refine Ev.step (fun k => by rw [laws_FnExactTurnTail.j1]) ?_)
    | (refine Ev.step (fun k => by rw [laws_FnExactTurnTail.j2]) ?_))
end Go.Proofs.Ytbecdckdbeoomaa.Pure

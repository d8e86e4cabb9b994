/- ChainWalks: the program, which looks at the leap between both walks, and the reference, which looks at the whole, tell the same; so the law's function answers true for all arguments. -/
import Derived.Test.YtbecdckdbeoomaaStateFnExactChainWalks
import Derived.Test.YtbecdckdbeoomaaHApart
import Derived.Test.YtbecdckdbeoomaaHSort
import Derived.Test.YtbecdckdbeoomaaQ20
import Derived.Test.YtbecdckdbeoomaaQ34
namespace Go.Proofs.Ytbecdckdbeoomaa.Pure
open Go.RowKit Go.IntWalk Go.Proofs.Ytbecdckdbeoomaa.Q Go.Proofs.Ytbecdckdbeoomaa.H Go.Proofs.YtbecdckdbeoomaaW.PrintWords Go.Proofs.YtbecdckdbeoomaaW.PrintMore
set_option linter.unusedVariables false
set_option linter.unusedSimpArgs false
theorem chainWalks_both (W H : Int) (L : List Int) (A B : Int) (p q : List Int) (hl : L.length ≤ 1048576) (hp : p.length ≤ 1048576) (hq : q.length ≤ 1048576) : ∃ (r : List Int) (b : Bool), r.length ≤ 1048576 ∧ Ev (fun k => spec_ChainWalks.f k W H L A B p q) (r, b) ∧ Ev (fun k => impl_ChainWalks.f k W H L A B p q) (r, b) := by
  have noS : Ev (fun k => spec_ChainWalks.j0 k p q true W H L A B) (([] : List Int), false) := by
    refine Ev.step (fun k => by rw [spec_ChainWalks.j0]) ?_
    simp only [if_true]
    exact Ev.now _
  have noI : ¬ Apart W H L A B p q → Ev (fun k => impl_ChainWalks.f k W H L A B p q) (([] : List Int), false) := by
    intro ap
    unfold impl_ChainWalks.f
    refine Ev.bind (apart_no ap hl) ?_
    simp only [Bool.false_eq_true, if_false]
    exact Ev.now _
  by_cases t1 : Walked W H L A B p
  · by_cases t2 : Walked W H L A B q
    · have g := t1.1.1
      have wp := walkB_has t1.2
      have wq := walkB_has t2.2
      have happ := walk_append t1.2 t2.2
      have hS : Ev (fun k => spec_ChainWalks.f k W H L A B p q) (if walkB W H L A B (p ++ q) = true then (p ++ q, true) else ([], false)) := by
        unfold spec_ChainWalks.f
        refine Ev.bind (blWalk_yes t1 hl) ?_
        simp only [if_true]
        refine Ev.bind (blWalk_yes t2 hl) ?_
        simp only [Bool.not_true]
        refine Ev.step (fun k => by rw [spec_ChainWalks.j0]) ?_
        have h1 : ([] : List Int).length + p.length < 17592186044416 := by simp; omega
        have h2 : p.length + q.length < 17592186044416 := by omega
        simp only [Bool.false_eq_true, if_false, spec_l1Own.f, Option.bind_some, h1, if_true, List.nil_append, h2]
        refine Ev.bind (toWalk_ev g hl A B (p ++ q)) ?_
        rcases Bool.eq_false_or_eq_true (walkB W H L A B (p ++ q)) with hx | hx
        · simp only [hx, if_true]; exact Ev.now _
        · simp only [hx, Bool.false_eq_true, if_false]; exact Ev.now _
      by_cases ap : Apart W H L A B p q
      · have hd : disjB p q = true := ap.2.2
        have hsm := apart_small g t1.2 t2.2 hd
        rw [hd, Bool.and_true, decide_eq_true hsm, Bool.true_and] at happ
        have w2 : wrap64 ((p.length : Int) - 1) = ((p.length - 1 : Nat) : Int) := by rw [wrap64_in _ (by omega)]; omega
        have c1 : (0 : Int) ≤ ((p.length - 1 : Nat) : Int) := by omega
        have c2 : ((p.length - 1 : Nat) : Int) < (p.length : Int) := by omega
        have c3 : 0 < (q.length : Int) := by omega
        have b1 : hasB W H L (rd p ((p.length - 1 : Nat) : Int)) = true := by
          rw [rd_nat p (p.length - 1) (by omega)]; exact wp.2.2 _ (List.getElem_mem _)
        have b2 : hasB W H L (rd q 0) = true := by
          have : rd q ((0 : Nat) : Int) = q[0] := rd_nat q 0 (by omega)
          rw [show rd q 0 = rd q ((0 : Nat) : Int) from rfl, this]; exact wq.2.2 _ (List.getElem_mem _)
        have h1 : p.length < 17592186044416 := by omega
        have h2 : p.length + q.length < 17592186044416 := by omega
        have hI : Ev (fun k => impl_ChainWalks.f k W H L A B p q) (if walkB W H L A B (p ++ q) = true then (p ++ q, true) else ([], false)) := by
          unfold impl_ChainWalks.f
          refine Ev.bind (apart_yes ap hl) ?_
          simp only [if_true, w2, c1, c2, c3]
          refine Ev.bind (leaps_ev g _ _ b1 b2) ?_
          rw [happ]
          rcases Bool.eq_false_or_eq_true (isB W A B (rd p ((p.length - 1 : Nat) : Int)) (rd q 0)) with hx | hx
          · simp only [hx, if_true, slices_Clone_int_int.f, h1, Option.bind_some, h2]; exact Ev.now _
          · simp only [hx, Bool.false_eq_true, if_false]; exact Ev.now _
        by_cases hw : walkB W H L A B (p ++ q) = true
        · rw [if_pos hw] at hS hI
          exact ⟨_, _, by simp; omega, hS, hI⟩
        · rw [if_neg hw] at hS hI
          exact ⟨_, _, by simp, hS, hI⟩
      · have hd : disjB p q = false := by
          rcases Bool.eq_false_or_eq_true (disjB p q) with h | h
          · exact absurd ⟨t1, t2.2, h⟩ ap
          · exact h
        rw [hd, Bool.and_false] at happ
        rw [if_neg (by rw [happ]; simp)] at hS
        exact ⟨[], false, by simp, hS, noI ap⟩
    · refine ⟨[], false, by simp, ?_, noI (fun h => t2 ⟨h.1.1, h.2.1⟩)⟩
      unfold spec_ChainWalks.f
      refine Ev.bind (blWalk_yes t1 hl) ?_
      simp only [if_true]
      refine Ev.bind (blWalk_no t2 hl) ?_
      simp only [Bool.not_false]
      exact noS
  · refine ⟨[], false, by simp, ?_, noI (fun h => t1 h.1)⟩
    unfold spec_ChainWalks.f
    refine Ev.bind (blWalk_no t1 hl) ?_
    simp only [Bool.false_eq_true, if_false]
    exact noS
theorem FnExactChainWalks : FnExactChainWalksSaid := by
  intro a0_0 a0_1 l0_2 a1_0 a1_1 l2 l3 _ _ hlen_l0_2 _ _ _ hlen_l2 _ hlen_l3 _
  by_cases hb_l2 : (l2.length : Int) > 1048576
  · refine ⟨0, ?_⟩
    simp [laws_FnExactChainWalks.f, hb_l2]
  have hs_l2 : l2.length ≤ 1048576 := by omega
  by_cases hb_l3 : (l3.length : Int) > 1048576
  · refine ⟨0, ?_⟩
    simp [laws_FnExactChainWalks.f, hb_l3, hb_l2]
  have hs_l3 : l3.length ≤ 1048576 := by omega
  by_cases hb_l0_2 : 1048576 < l0_2.length
  · refine ⟨0, ?_⟩
    simp [laws_FnExactChainWalks.f, szBoard_big a0_0 a0_1 l0_2 hb_l0_2 hlen_l0_2, hb_l2, hb_l3]
  have hs_l0_2 : l0_2.length ≤ 1048576 := by omega
  obtain ⟨r, b, hr, hs, hi⟩ := chainWalks_both a0_0 a0_1 l0_2 a1_0 a1_1 l2 l3 hs_l0_2 hs_l2 hs_l3
  refine rounds_of ?_
  have n0 : ¬ (1048576 - (l0_2.length : Int) < 0) := by omega
  have n1 : ¬ (1 + (l0_2.length : Int) < 0) := by omega
  have n2 : ¬ (1 + (l2.length : Int) < 0) := by omega
  have n3 : ¬ (1 + (l3.length : Int) < 0) := by omega
  have n13 : ¬ (1 + (l0_2.length : Int) + (l2.length : Int) + (l3.length : Int) < 0) := by omega
  have nr : ¬ (1 + (r.length : Int) < 0) := by omega
  unfold laws_FnExactChainWalks.f
  repeat (first
    | exact Ev.now _
    | refine Ev.bind (toBoard_ev _ _ _ (by assumption)) ?_
    | refine Ev.bind (eqBoard_ev _ _ _ (by assumption)) ?_
    | refine Ev.bind (markBoard_ev _ _ _ (by assumption)) ?_
    | refine Ev.bind (toIntS_ev _ (by assumption)) ?_
    | refine Ev.bind (eqIntS_ev _ (by assumption)) ?_
    | refine Ev.bind (markIntS_ev _ (by assumption)) ?_
    | refine Ev.bind (heldIntS_ev _ (by assumption)) ?_
    | refine Ev.bind (markIntS_any _ _ (by assumption) (by omega)) ?_
    | refine Ev.bind hs ?_
    | refine Ev.bind hi ?_
    | simp only [Option.bind_some, if_true, if_false, bne_self_eq_false, Bool.false_eq_true, ne_eq, not_true_eq_false, not_false_eq_true, hb_l2, hb_l3, szBoard_fit _ _ _ hs_l0_2, laws_toLeaper.f, n0, n1, n2, n3, n13, nr]
    | (refine Ev.step (fun k => by rw [laws_FnExactChainWalks.j0]) ?_)
    | (refine Ev.step (fun k => by rw [laws_FnExactChainWalks.j1]) ?_)
    | (refine Ev.step (fun k => by rw [laws_FnExactChainWalks.j2]) ?_))
end Go.Proofs.Ytbecdckdbeoomaa.Pure

/- OppositePairs: the program and the reference count the same pairs, so the law's function answers true for all arguments. -/
import Derived.Test.YtekajjhjjnfdpaaStateFnExactOppositePairs
import Derived.Test.YtekajjhjjnfdpaaHWalked
import Derived.Test.YtekajjhjjnfdpaaQ49
namespace Go.Proofs.Ytekajjhjjnfdpaa.Pure
open Go.RowKit Go.IntWalk Go.Proofs.Ytekajjhjjnfdpaa.Q Go.Proofs.Ytekajjhjjnfdpaa.H Go.Proofs.YtekajjhjjnfdpaaW.PrintWords Go.Proofs.YtekajjhjjnfdpaaW.PrintMore
set_option linter.unusedVariables false
set_option linter.unusedSimpArgs false
theorem opposite_iff {W H : Int} {L : List Int} (g : BoardM W H L) {a b : Int} (ha : 0 ≤ a ∧ a < W * H) (hb : 0 ≤ b ∧ b < W * H) : a + b = W * H - 1 ↔ (a % W + b % W = W - 1 ∧ a / W + b / W = H - 1) := by
  obtain ⟨p1, p2, p3, p4, p5⟩ := cell_bounds g ha
  obtain ⟨q1, q2, q3, q4, q5⟩ := cell_bounds g hb
  have b1 := g.1
  have e1 : (a / W + b / W - (H - 1)) * W = a / W * W + b / W * W - (W * H - W) := by
    rw [Int.sub_mul, Int.add_mul, Int.sub_mul, Int.one_mul, Int.mul_comm H W]
  constructor
  · intro h
    have hk : (a / W + b / W - (H - 1)) * W = W - 1 - (a % W + b % W) := by omega
    have h0 : a / W + b / W - (H - 1) = 0 := by
      rcases Int.lt_trichotomy (a / W + b / W - (H - 1)) 0 with hl | he | hg
      · have := Int.mul_le_mul_of_nonneg_right (show a / W + b / W - (H - 1) ≤ -1 by omega) (show 0 ≤ W by omega)
        omega
      · exact he
      · have := Int.mul_le_mul_of_nonneg_right (show 1 ≤ a / W + b / W - (H - 1) by omega) (show 0 ≤ W by omega)
        omega
    rw [h0, Int.zero_mul] at hk
    omega
  · rintro ⟨h1, h2⟩
    have h0 : a / W + b / W - (H - 1) = 0 := by omega
    rw [h0, Int.zero_mul] at e1
    omega
theorem opposite_wraps {W H : Int} {L : List Int} (g : BoardM W H L) {a b : Int} (ha : 0 ≤ a ∧ a < W * H) (hb : 0 ≤ b ∧ b < W * H) :
    wrap64 (a + b) = a + b ∧ wrap64 (W * H - 1) = W * H - 1 ∧ wrap64 (a / W) = a / W ∧ wrap64 (b / W) = b / W ∧ wrap64 (a % W + b % W) = a % W + b % W ∧ wrap64 (a / W + b / W) = a / W + b / W ∧ wrap64 (W - 1) = W - 1 ∧ wrap64 (H - 1) = H - 1 ∧ ¬ W = 0 := by
  obtain ⟨p1, p2, p3, p4, _⟩ := cell_bounds g ha
  obtain ⟨q1, q2, q3, q4, _⟩ := cell_bounds g hb
  have har := g.area
  have b1 := g.1
  have b2 := g.2.1
  have b3 := g.2.2.1
  have b4 := g.2.2.2.1
  clear g
  generalize W * H = A at *
  generalize a / W = a1 at *
  generalize b / W = b1' at *
  generalize a % W = a2 at *
  generalize b % W = b2' at *
  refine ⟨wrap64_in _ (by omega), wrap64_in _ (by omega), wrap64_in _ (by omega), wrap64_in _ (by omega), wrap64_in _ (by omega), wrap64_in _ (by omega), wrap64_in _ (by omega), wrap64_in _ (by omega), by omega⟩
theorem opposite_conds {W H : Int} {L : List Int} (g : BoardM W H L) {a b : Int} (ha : 0 ≤ a ∧ a < W * H) (hb : 0 ≤ b ∧ b < W * H) :
    (wrap64 (a + b) = wrap64 (wrap64 (W * H) - 1)) ↔ (wrap64 (Int.tmod a W + Int.tmod b W) = wrap64 (W - 1) ∧ wrap64 (wrap64 (Int.tdiv a W) + wrap64 (Int.tdiv b W)) = wrap64 (H - 1)) := by
  obtain ⟨v1, v2, v3, v4, v5, v6, v7, v8, _⟩ := opposite_wraps g ha hb
  rw [g.wrapArea, tmod_of ha.1, tmod_of hb.1, tdiv_of ha.1, tdiv_of hb.1, v1, v2, v3, v4, v5, v6, v7, v8]
  exact opposite_iff g ha hb
theorem opposite_loop {W H : Int} {L : List Int} (g : BoardM W H L) (s : List Int) (hs : ∀ x ∈ s, hasB W H L x = true) (hp : s.length ≤ 64) (h : Nat) (hh : 2 * h ≤ s.length) (w2 : wrap64 ((s.length : Int) / 2) = (h : Int)) : ∀ (n i : Nat) (r : Int), n + i = h → 0 ≤ r ∧ r ≤ i →
    ∃ R : Int, Ev (fun k => spec_OppositePairs.l0 k s r (h : Int) (i : Int) W H L) (R, true) ∧ Ev (fun k => impl_OppositePairs.l0 k s r (h : Int) (i : Int) W H L) (R, true) := by
  have n0 : ¬ W = 0 := by have := g.1; omega
  intro n
  induction n with
  | zero =>
    intro i r h1 h2
    have c1 : ¬ ((i : Int) < (h : Int)) := by omega
    refine ⟨r, Ev.step (fun k => by rw [spec_OppositePairs.l0]) ?_, Ev.step (fun k => by rw [impl_OppositePairs.l0]) ?_⟩
    · simp only [c1, if_false]; exact Ev.now _
    · simp only [c1, if_false]; exact Ev.now _
  | succ n ih =>
    intro i r h1 h2
    have k1 : n + (i + 1) = h := by omega
    have k2 : 0 ≤ r + 1 ∧ r + 1 ≤ ((i + 1 : Nat) : Int) := by omega
    have k3 : 0 ≤ r ∧ r ≤ ((i + 1 : Nat) : Int) := by omega
    have v9 : wrap64 (r + 1) = r + 1 := wrap64_in _ (by omega)
    have ws := w_succ (show i ≤ 4611686018427387904 by omega)
    have c1 : (i : Int) < (h : Int) := by omega
    have c2 : (0 : Int) ≤ (i : Int) := by omega
    have c3 : (i : Int) < (s.length : Int) := by omega
    have hi : i < s.length := by omega
    have hj : i + h < s.length := by omega
    have w1 : wrap64 ((i : Int) + (h : Int)) = ((i + h : Nat) : Int) := by rw [wrap64_in _ (by omega)]; omega
    have c4 : (0 : Int) ≤ ((i + h : Nat) : Int) := by omega
    have c5 : ((i + h : Nat) : Int) < (s.length : Int) := by omega
    have ha : 0 ≤ rd s (i : Int) ∧ rd s (i : Int) < W * H := by rw [rd_nat s i hi]; exact has_range (hs _ (List.getElem_mem hi))
    have hb : 0 ≤ rd s ((i + h : Nat) : Int) ∧ rd s ((i + h : Nat) : Int) < W * H := by rw [rd_nat s (i + h) hj]; exact has_range (hs _ (List.getElem_mem hj))
    have cond := opposite_conds g ha hb
    by_cases c : wrap64 (rd s (i : Int) + rd s ((i + h : Nat) : Int)) = wrap64 (wrap64 (W * H) - 1)
    · obtain ⟨d1, d2⟩ := cond.1 c
      obtain ⟨R, hS, hI⟩ := ih (i + 1) (r + 1) k1 k2
      refine ⟨R, Ev.step (fun k => by rw [spec_OppositePairs.l0]) ?_, Ev.step (fun k => by rw [impl_OppositePairs.l0]) ?_⟩
      · simp only [c1, c2, c3, w1, c4, c5, if_true]
        simp only [if_pos c, v9, ws]
        exact hS
      · simp only [c1, c2, c3, w2, w1, c4, c5, n0, if_true, if_false]
        simp only [if_pos d1, if_pos d2, v9, ws]
        exact hI
    · obtain ⟨R, hS, hI⟩ := ih (i + 1) r k1 k3
      refine ⟨R, Ev.step (fun k => by rw [spec_OppositePairs.l0]) ?_, Ev.step (fun k => by rw [impl_OppositePairs.l0]) ?_⟩
      · simp only [c1, c2, c3, w1, c4, c5, if_true]
        simp only [if_neg c, ws]
        exact hS
      · simp only [c1, c2, c3, w2, w1, c4, c5, n0, if_true, if_false]
        by_cases d1 : wrap64 (Int.tmod (rd s (i : Int)) W + Int.tmod (rd s ((i + h : Nat) : Int)) W) = wrap64 (W - 1)
        · have d2 : ¬ wrap64 (wrap64 (Int.tdiv (rd s (i : Int)) W) + wrap64 (Int.tdiv (rd s ((i + h : Nat) : Int)) W)) = wrap64 (H - 1) := fun d2 => c (cond.2 ⟨d1, d2⟩)
          simp only [if_pos d1, if_neg d2, ws]
          exact hI
        · simp only [if_neg d1, ws]
          exact hI
theorem oppositePairs_both (W H : Int) (L : List Int) (A B : Int) (s : List Int) (hl : L.length ≤ 1048576) (hs : s.length ≤ 1048576) : ∃ (r : Int) (b : Bool), Ev (fun k => spec_OppositePairs.f k W H L A B s) (r, b) ∧ Ev (fun k => impl_OppositePairs.f k W H L A B s) (r, b) := by
  have noS : Ev (fun k => spec_OppositePairs.j0 k s true W H L) (0, false) := by
    refine Ev.step (fun k => by rw [spec_OppositePairs.j0]) ?_
    simp only [if_true]
    exact Ev.now _
  by_cases t : Walked W H L A B s
  · have hw := walkB_has t.2
    have w2 : wrap64 ((s.length : Int) / 2) = ((s.length / 2 : Nat) : Int) := by rw [wrap64_in _ (by omega)]; omega
    by_cases ho : (s.length : Int) % 2 = 1
    · refine ⟨0, false, ?_, ?_⟩
      · unfold spec_OppositePairs.f
        refine Ev.bind (blWalk_yes t hl) ?_
        have e : ((s.length : Int) % 2 == 1) = true := by simpa using ho
        simp only [if_true, e]
        exact noS
      · unfold impl_OppositePairs.f
        refine Ev.bind (walkGraph_yes t hl) ?_
        simp only [if_true, ho]
        exact Ev.now _
    · obtain ⟨R, hS, hI⟩ := opposite_loop t.1.1 s hw.2.2 hw.2.1 (s.length / 2) (by omega) w2 (s.length / 2) 0 0 (by omega) (by omega)
      refine ⟨R, true, ?_, ?_⟩
      · unfold spec_OppositePairs.f
        refine Ev.bind (blWalk_yes t hl) ?_
        have e : ((s.length : Int) % 2 == 1) = false := by simpa using ho
        simp only [if_true, e]
        refine Ev.step (fun k => by rw [spec_OppositePairs.j0]) ?_
        simp only [Bool.false_eq_true, if_false, w2]
        exact hS
      · unfold impl_OppositePairs.f
        refine Ev.bind (walkGraph_yes t hl) ?_
        simp only [if_true, ho, if_false, w2]
        exact hI
  · refine ⟨0, false, ?_, ?_⟩
    · unfold spec_OppositePairs.f
      refine Ev.bind (blWalk_no t hl) ?_
      simp only [Bool.false_eq_true, if_false]
      exact noS
    · unfold impl_OppositePairs.f
      refine Ev.bind (walkGraph_no t hl) ?_
      simp only [Bool.false_eq_true, if_false]
      exact Ev.now _
theorem FnExactOppositePairs : FnExactOppositePairsSaid := by
  intro a0_0 a0_1 l0_2 a1_0 a1_1 l2 _ _ hlen_l0_2 _ _ _ hlen_l2 _
  by_cases hb_l2 : (l2.length : Int) > 1048576
  · refine ⟨0, ?_⟩
    simp [laws_FnExactOppositePairs.f, hb_l2]
  have hs_l2 : l2.length ≤ 1048576 := by omega
  by_cases hb_l0_2 : 1048576 < l0_2.length
  · refine ⟨0, ?_⟩
    simp [laws_FnExactOppositePairs.f, szBoard_big a0_0 a0_1 l0_2 hb_l0_2 hlen_l0_2, hb_l2]
  have hs_l0_2 : l0_2.length ≤ 1048576 := by omega
  obtain ⟨r, b, hs, hi⟩ := oppositePairs_both a0_0 a0_1 l0_2 a1_0 a1_1 l2 hs_l0_2 hs_l2
  refine Ev.rounds ?_
  have n0 : ¬ (1048576 - (l0_2.length : Int) < 0) := by omega
  have n1 : ¬ (1 + (l0_2.length : Int) < 0) := by omega
  have n2 : ¬ (1 + (l2.length : Int) < 0) := by omega
  have n12 : ¬ (1 + (l0_2.length : Int) + (l2.length : Int) < 0) := by omega
  unfold laws_FnExactOppositePairs.f
  repeat (first
    | exact Ev.now _
    | refine Ev.bind (toBoard_ev _ _ _ (by assumption)) ?_
    | refine Ev.bind (eqBoard_ev _ _ _ (by assumption)) ?_
    | refine Ev.bind (markBoard_ev _ _ _ (by assumption)) ?_
    | refine Ev.bind (toIntS_ev _ (by assumption)) ?_
    | refine Ev.bind (eqIntS_ev _ (by assumption)) ?_
    | refine Ev.bind (markIntS_ev _ (by assumption)) ?_
    | refine Ev.bind (heldIntS_ev _ (by assumption)) ?_
    | refine Ev.bind (markIntS_any _ _ (by assumption) (by omega)) ?_
    | refine Ev.bind hs ?_
    | refine Ev.bind hi ?_
    | simp only [Option.bind_some, if_true, if_false, bne_self_eq_false, Bool.false_eq_true, ne_eq, not_true_eq_false, not_false_eq_true, hb_l2, szBoard_fit _ _ _ hs_l0_2, laws_toLeaper.f, n0, n1, n2, n12]
    | (refine Ev.step (fun k => by rw [laws_FnExactOppositePairs.j0]) ?_))
end Go.Proofs.Ytekajjhjjnfdpaa.Pure

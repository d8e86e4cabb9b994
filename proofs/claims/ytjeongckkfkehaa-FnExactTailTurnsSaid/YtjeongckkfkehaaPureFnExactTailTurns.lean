/- TailTurns: the program and the reference tell the same list of places, so the law's function answers true for all arguments. -/
import Derived.Test.YtjeongckkfkehaaStateFnExactTailTurns
import Derived.Test.YtjeongckkfkehaaHWalked
import Derived.Test.YtjeongckkfkehaaQ20
namespace Go.Proofs.Ytjeongckkfkehaa.Pure
open Go.RowKit Go.IntWalk Go.Proofs.Ytjeongckkfkehaa.Q Go.Proofs.Ytjeongckkfkehaa.H Go.Proofs.YtjeongckkfkehaaW.PrintWords Go.Proofs.YtjeongckkfkehaaW.PrintMore
set_option linter.unusedVariables false
set_option linter.unusedSimpArgs false
def tturns (W A B : Int) (s : List Int) (n i : Nat) : List Int := ((List.range' i n).filter fun (k : Nat) => isB W A B (rd s ((k - 1 : Nat) : Int)) (rd s ((s.length - 1 : Nat) : Int))).map Int.ofNat
theorem tturns_length (W A B : Int) (s : List Int) (n i : Nat) : (tturns W A B s n i).length ≤ n := by
  unfold tturns
  rw [List.length_map]
  exact Nat.le_trans (List.length_filter_le _ _) (by simp)
theorem rd_has {W H : Int} {L s : List Int} (hs : ∀ x ∈ s, hasB W H L x = true) (j : Nat) (h : j < s.length) : hasB W H L (rd s (j : Int)) = true := by
  rw [rd_nat s j h]; exact hs _ (List.getElem_mem h)
theorem blTurns_loop {W H : Int} {L : List Int} {A B : Int} (g : BoardM W H L) (s : List Int) (hs : ∀ x ∈ s, hasB W H L x = true) (hp : s.length ≤ 64) : ∀ (n i : Nat), s.length - 1 - i = n → 1 ≤ i → i ≤ 100 → ∀ acc : List Int, acc.length ≤ i →
    Ev (fun k => spec_blTurns.l0 k s acc (i : Int) W H L A B) (acc ++ tturns W A B s n i) := by
  intro n
  induction n with
  | zero =>
    intro i h1 h2 hi acc ha
    refine Ev.step (fun k => by rw [spec_blTurns.l0]) ?_
    have h3 : ¬ (((i + 1 : Nat) : Int) < (s.length : Int)) := by omega
    simp only [w_succ (show i ≤ 4611686018427387904 by omega), h3, if_false, tturns, List.range'_zero, List.filter_nil, List.map_nil, List.append_nil]
    exact Ev.now _
  | succ n ih =>
    intro i h1 h2 hi acc ha
    refine Ev.step (fun k => by rw [spec_blTurns.l0]) ?_
    have h3 : (((i + 1 : Nat) : Int) < (s.length : Int)) := by omega
    have w1 : wrap64 ((i : Int) - 1) = ((i - 1 : Nat) : Int) := by rw [wrap64_in _ (by omega)]; omega
    have w2 : wrap64 ((s.length : Int) - 1) = ((s.length - 1 : Nat) : Int) := by rw [wrap64_in _ (by omega)]; omega
    have h4 : (0 : Int) ≤ ((i - 1 : Nat) : Int) := by omega
    have h5 : ((i - 1 : Nat) : Int) < (s.length : Int) := by omega
    have h6 : (0 : Int) ≤ ((s.length - 1 : Nat) : Int) := by omega
    have h7 : ((s.length - 1 : Nat) : Int) < (s.length : Int) := by omega
    have h8 : acc.length < 17592186044416 := by omega
    have b1 := has_range (rd_has hs (i - 1) (by omega))
    have b2 := has_range (rd_has hs (s.length - 1) (by omega))
    simp only [w_succ (show i ≤ 4611686018427387904 by omega), h3, if_true, spec_blCan.f, w1, w2, h4, h5, h6, h7, boIs_eq g A B _ _ b1 b2, Option.bind_some]
    have e : tturns W A B s (n + 1) i = if isB W A B (rd s ((i - 1 : Nat) : Int)) (rd s ((s.length - 1 : Nat) : Int)) then (i : Int) :: tturns W A B s n (i + 1) else tturns W A B s n (i + 1) := by
      unfold tturns
      rw [List.range'_succ, List.filter_cons]
      split <;> simp
    rw [e]
    cases hx : isB W A B (rd s ((i - 1 : Nat) : Int)) (rd s ((s.length - 1 : Nat) : Int)) with
    | true =>
      simp only [if_true, h8]
      have := ih (i + 1) (by omega) (by omega) (by omega) (acc ++ [(i : Int)]) (by simp; omega)
      simpa using this
    | false =>
      simp only [Bool.false_eq_true, if_false]
      exact ih (i + 1) (by omega) (by omega) (by omega) acc (by omega)
theorem turns_loop {W H : Int} {L : List Int} {A B : Int} (g : BoardM W H L) (s : List Int) (hs : ∀ x ∈ s, hasB W H L x = true) (hp : s.length ≤ 64) : ∀ (n i : Nat), s.length - 1 - i = n → 1 ≤ i → i ≤ 100 → ∀ acc : List Int, acc.length ≤ i →
    Ev (fun k => impl_graph_turns.l0 k s acc (i : Int) W H L A B (cellsM W H L) (nearM W H L A B)) (acc ++ tturns W A B s n i) := by
  intro n
  induction n with
  | zero =>
    intro i h1 h2 hi acc ha
    refine Ev.step (fun k => by rw [impl_graph_turns.l0]) ?_
    have h3 : ¬ (((i + 1 : Nat) : Int) < (s.length : Int)) := by omega
    simp only [w_succ (show i ≤ 4611686018427387904 by omega), h3, if_false, tturns, List.range'_zero, List.filter_nil, List.map_nil, List.append_nil]
    exact Ev.now _
  | succ n ih =>
    intro i h1 h2 hi acc ha
    refine Ev.step (fun k => by rw [impl_graph_turns.l0]) ?_
    have h3 : (((i + 1 : Nat) : Int) < (s.length : Int)) := by omega
    have w1 : wrap64 ((i : Int) - 1) = ((i - 1 : Nat) : Int) := by rw [wrap64_in _ (by omega)]; omega
    have w2 : wrap64 ((s.length : Int) - 1) = ((s.length - 1 : Nat) : Int) := by rw [wrap64_in _ (by omega)]; omega
    have h4 : (0 : Int) ≤ ((i - 1 : Nat) : Int) := by omega
    have h5 : ((i - 1 : Nat) : Int) < (s.length : Int) := by omega
    have h6 : (0 : Int) ≤ ((s.length - 1 : Nat) : Int) := by omega
    have h7 : ((s.length - 1 : Nat) : Int) < (s.length : Int) := by omega
    have h8 : acc.length < 17592186044416 := by omega
    have b1 := rd_has hs (i - 1) (by omega)
    have b2 := rd_has hs (s.length - 1) (by omega)
    simp only [w_succ (show i ≤ 4611686018427387904 by omega), h3, if_true, w1, w2, h4, h5, h6, h7]
    refine Ev.bind (leaps_ev g _ _ b1 b2) ?_
    have e : tturns W A B s (n + 1) i = if isB W A B (rd s ((i - 1 : Nat) : Int)) (rd s ((s.length - 1 : Nat) : Int)) then (i : Int) :: tturns W A B s n (i + 1) else tturns W A B s n (i + 1) := by
      unfold tturns
      rw [List.range'_succ, List.filter_cons]
      split <;> simp
    rw [e]
    cases hx : isB W A B (rd s ((i - 1 : Nat) : Int)) (rd s ((s.length - 1 : Nat) : Int)) with
    | true =>
      simp only [if_true, h8]
      have := ih (i + 1) (by omega) (by omega) (by omega) (acc ++ [(i : Int)]) (by simp; omega)
      simpa using this
    | false =>
      simp only [Bool.false_eq_true, if_false]
      exact ih (i + 1) (by omega) (by omega) (by omega) acc (by omega)
theorem tailTurns_both (W H : Int) (L : List Int) (A B : Int) (s : List Int) (hl : L.length ≤ 1048576) (hs : s.length ≤ 1048576) : ∃ (r : List Int) (b : Bool), r.length ≤ 1048576 ∧ Ev (fun k => spec_TailTurns.f k W H L A B s) (r, b) ∧ Ev (fun k => impl_TailTurns.f k W H L A B s) (r, b) := by
  by_cases t : Walked W H L A B s
  · have hw := walkB_has t.2
    refine ⟨tturns W A B s (s.length - 1 - 1) 1, true, by have := tturns_length W A B s (s.length - 1 - 1) 1; omega, ?_, ?_⟩
    · unfold spec_TailTurns.f
      refine Ev.bind (blWalk_yes t hl) ?_
      simp only [if_true]
      refine Ev.bind (a := tturns W A B s (s.length - 1 - 1) 1) ?_ (Ev.now _)
      unfold spec_blTurns.f
      have := blTurns_loop (A := A) (B := B) t.1.1 s hw.2.2 hw.2.1 (s.length - 1 - 1) 1 rfl (by omega) (by omega) [] (by simp)
      simpa using this
    · unfold impl_TailTurns.f
      refine Ev.bind (walkGraph_yes t hl) ?_
      simp only [if_true]
      refine Ev.bind (a := tturns W A B s (s.length - 1 - 1) 1) ?_ (Ev.now _)
      unfold impl_graph_turns.f
      have := turns_loop (A := A) (B := B) t.1.1 s hw.2.2 hw.2.1 (s.length - 1 - 1) 1 rfl (by omega) (by omega) [] (by simp)
      simpa using this
  · refine ⟨[], false, by simp, ?_, ?_⟩
    · unfold spec_TailTurns.f
      refine Ev.bind (blWalk_no t hl) ?_
      simp only [Bool.false_eq_true, if_false]
      exact Ev.now _
    · unfold impl_TailTurns.f
      refine Ev.bind (walkGraph_no t hl) ?_
      simp only [Bool.false_eq_true, if_false]
      exact Ev.now _
theorem FnExactTailTurns : FnExactTailTurnsSaid := by
  intro a0_0 a0_1 l0_2 a1_0 a1_1 l2 _ _ hlen_l0_2 _ _ _ hlen_l2 _
  by_cases hb_l2 : (l2.length : Int) > 1048576
  · refine ⟨0, ?_⟩
    simp [laws_FnExactTailTurns.f, hb_l2]
  have hs_l2 : l2.length ≤ 1048576 := by omega
  by_cases hb_l0_2 : 1048576 < l0_2.length
  · refine ⟨0, ?_⟩
    simp [laws_FnExactTailTurns.f, szBoard_big a0_0 a0_1 l0_2 hb_l0_2 hlen_l0_2, hb_l2]
  have hs_l0_2 : l0_2.length ≤ 1048576 := by omega
  obtain ⟨r, b, hr, hs, hi⟩ := tailTurns_both a0_0 a0_1 l0_2 a1_0 a1_1 l2 hs_l0_2 hs_l2
  refine rounds_of ?_
  have n0 : ¬ (1048576 - (l0_2.length : Int) < 0) := by omega
  have n1 : ¬ (1 + (l0_2.length : Int) < 0) := by omega
  have n2 : ¬ (1 + (l2.length : Int) < 0) := by omega
  have n12 : ¬ (1 + (l0_2.length : Int) + (l2.length : Int) < 0) := by omega
  have nr : ¬ (1 + (r.length : Int) < 0) := by omega
  unfold laws_FnExactTailTurns.f
  repeat (first
    | exact Ev.now _
    | refine Ev.bind (toBoard_ev _ _ _ (by assumption)) ?_
    | refine Ev.bind (eqBoard_ev _ _ _ (by assumption)) ?_
    | refine Ev.bind (markBoard_ev _ _ _ (by assumption)) ?_
    | refine Ev.bind (toIntS_ev _ (by assumption)) ?_
    | refine Ev.bind (eqIntS_ev _ (by assumption)) ?_
    | refine Ev.bind (markIntS_ev _ (by assumption)) ?_
    | refine Ev.bind (heldIntS_ev _ (by assumption)) ?_
    | refine Ev.bind (markIntS_any _ _ (by assumption) (by omega)) ?_
    | refine Ev.bind hs ?_
    | refine Ev.bind hi ?_
    | simp only [Option.bind_some, if_true, if_false, bne_self_eq_false, Bool.false_eq_true, ne_eq, not_true_eq_false, not_false_eq_true, hb_l2, szBoard_fit _ _ _ hs_l0_2, laws_toLeaper.f, n0, n1, n2, n12, nr]
    | (refine Ev.step (fun k => by rw [laws_FnExactTailTurns.j0]) ?_)
    | (refine Ev.step (fun k => by rw [laws_FnExactTailTurns.j1]) ?_)
    | (refine Ev.step (fun k => by rw [laws_FnExactTailTurns.j2]) ?_))
end Go.Proofs.Ytjeongckkfkehaa.Pure

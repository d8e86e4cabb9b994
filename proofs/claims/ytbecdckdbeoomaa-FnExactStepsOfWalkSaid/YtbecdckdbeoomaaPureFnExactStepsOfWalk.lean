/- StepsOfWalk: the program and the reference tell the same list of steps, so the law's function answers true for all arguments. -/
import Derived.Test.YtbecdckdbeoomaaStateFnExactStepsOfWalk
import Derived.Test.YtbecdckdbeoomaaHWalked
import Derived.Test.YtbecdckdbeoomaaHBoSteps
import Derived.Test.YtbecdckdbeoomaaQ10
import Derived.Test.YtbecdckdbeoomaaQ11
namespace Go.Proofs.Ytbecdckdbeoomaa.Pure
open Go.RowKit Go.IntWalk Go.Proofs.Ytbecdckdbeoomaa.Q Go.Proofs.Ytbecdckdbeoomaa.H Go.Proofs.YtbecdckdbeoomaaW.PrintWords Go.Proofs.YtbecdckdbeoomaaW.PrintMore
set_option linter.unusedVariables false
set_option linter.unusedSimpArgs false
def hits (dx dy : Int) : Nat → List (List Int) → List Int
  | _, [] => []
  | i, s :: r => if rd s 0 = dx ∧ rd s 1 = dy then (i : Int) :: hits dx dy (i + 1) r else hits dx dy (i + 1) r
theorem hits_length (dx dy : Int) (l : List (List Int)) : ∀ i, (hits dx dy i l).length ≤ l.length := by
  induction l with
  | nil => intro i; simp [hits]
  | cons s r ih => intro i; rw [hits]; have := ih (i + 1); split <;> simp <;> omega
def dxOf (W : Int) (s : List Int) (i : Nat) : Int := rd s (i : Int) % W - rd s ((i - 1 : Nat) : Int) % W
def dyOf (W : Int) (s : List Int) (i : Nat) : Int := rd s (i : Int) / W - rd s ((i - 1 : Nat) : Int) / W
def allHits (W : Int) (st : List (List Int)) (s : List Int) : Nat → Nat → List Int
  | 0, _ => []
  | n + 1, i => hits (dxOf W s i) (dyOf W s i) 0 st ++ allHits W st s n (i + 1)
theorem allHits_length (W : Int) (st : List (List Int)) (s : List Int) : ∀ n i, (allHits W st s n i).length ≤ n * st.length := by
  intro n
  induction n with
  | zero => intro i; simp [allHits]
  | succ n ih =>
    intro i
    rw [allHits, List.length_append, Nat.add_mul]
    have := hits_length (dxOf W s i) (dyOf W s i) st 0
    have := ih (i + 1)
    omega
theorem rd_has {W H : Int} {L s : List Int} (hs : ∀ x ∈ s, hasB W H L x = true) (j : Nat) (h : j < s.length) : hasB W H L (rd s (j : Int)) = true := by
  rw [rd_nat s j h]; exact hs _ (List.getElem_mem h)
theorem step_shape (A B : Int) (s : List Int) (h : s ∈ stepsM A B) : ∃ x y : Int, s = [x, y] := by
  obtain ⟨x, y, _, _, e, _⟩ := (mem_stepsM A B s).1 h
  exact ⟨x, y, e⟩
section
variable {W H : Int} {L : List Int} {A B : Int}
theorem spec_l1 (s : List Int) (i : Nat) (dx dy : Int) (R : List Int × Bool) (rest pre : List (List Int)) (hr : ∀ t ∈ rest, ∃ x y : Int, t = [x, y]) (hp : (pre ++ rest).length ≤ 121) : ∀ acc : List Int, acc.length + rest.length ≤ 100000 →
    Ev (fun k => spec_StepsOfWalk.l0 k s (acc ++ hits dx dy pre.length rest) (wrap64 ((i : Int) + 1)) W H L A B) R →
    Ev (fun k => spec_StepsOfWalk.l1 k s acc (i : Int) dx dy (pre ++ rest) ((pre ++ rest).length : Int) (pre.length : Int) W H L A B) R := by
  induction rest generalizing pre with
  | nil =>
    intro acc ha hR
    refine Ev.step (fun k => by rw [spec_StepsOfWalk.l1]) ?_
    simp only [List.append_nil, nlt_end, if_false]
    simpa [hits] using hR
  | cons t r ih =>
    intro acc ha hR
    refine Ev.step (fun k => by rw [spec_StepsOfWalk.l1]) ?_
    obtain ⟨x, y, rfl⟩ := hr t (by simp)
    have h0 : (0 : Int) ≤ (pre.length : Int) := by omega
    have h5 : pre.length ≤ 121 := by simp at hp; omega
    have e0 : rd_L1 (pre ++ [x, y] :: r) (pre.length : Int) = [x, y] := by simp [rd_L1]
    have e1 : rd [x, y] 0 = x := rfl
    have e2 : rd [x, y] 1 = y := rfl
    have hl0 : (0 : Int) < (([x, y] : List Int).length : Int) := by simp
    have hl1 : (1 : Int) < (([x, y] : List Int).length : Int) := by simp
    have h6 : acc.length < 17592186044416 := by omega
    rw [hits, e1, e2] at hR
    simp only [lt_mid pre [x, y] r, h0, if_true, e0, e1, e2, hl0, hl1, w_succ (show pre.length ≤ 4611686018427387904 by omega)]
    have no : ¬ (x = dx ∧ y = dy) → Ev (fun k => spec_StepsOfWalk.l1 k s acc (i : Int) dx dy (pre ++ [x, y] :: r) ((pre ++ [x, y] :: r).length : Int) ((pre.length + 1 : Nat) : Int) W H L A B) R := by
      intro hn
      rw [if_neg hn] at hR
      have := ih (pre ++ [[x, y]]) (fun t ht => hr t (by simp [ht])) (by simpa using hp) acc (by simp at ha ⊢; omega) (by simpa using hR)
      simpa using this
    by_cases c1 : x = dx
    · simp only [if_pos c1]
      by_cases c2 : y = dy
      · simp only [if_pos c2, h6, if_true]
        rw [if_pos ⟨c1, c2⟩] at hR
        have := ih (pre ++ [[x, y]]) (fun t ht => hr t (by simp [ht])) (by simpa using hp) (acc ++ [(pre.length : Int)]) (by simp at ha ⊢; omega) (by simpa using hR)
        simpa using this
      · simp only [if_neg c2]
        exact no (fun h => c2 h.2)
    · simp only [if_neg c1]
      exact no (fun h => c1 h.1)
theorem spec_l0 (g : BoardM W H L) (l : Leap A B) (s : List Int) (hs : ∀ x ∈ s, hasB W H L x = true) (hp : s.length ≤ 64) : ∀ (n i : Nat), i + n = s.length → 1 ≤ i → ∀ acc : List Int, acc.length ≤ 121 * i →
    Ev (fun k => spec_StepsOfWalk.l0 k s acc (i : Int) W H L A B) (acc ++ allHits W (stepsM A B) s n i, true) := by
  intro n
  induction n with
  | zero =>
    intro i h1 h2 acc ha
    refine Ev.step (fun k => by rw [spec_StepsOfWalk.l0]) ?_
    have h3 : ¬ ((i : Int) < (s.length : Int)) := by omega
    simp only [h3, if_false, allHits, List.append_nil]
    exact Ev.now _
  | succ n ih =>
    intro i h1 h2 acc ha
    refine Ev.step (fun k => by rw [spec_StepsOfWalk.l0]) ?_
    have h3 : (i : Int) < (s.length : Int) := by omega
    have h4 : (0 : Int) ≤ (i : Int) := by omega
    have n0 : ¬ W = 0 := by have := g.1; omega
    have w1 : wrap64 ((i : Int) - 1) = ((i - 1 : Nat) : Int) := by rw [wrap64_in _ (by omega)]; omega
    have h5 : (0 : Int) ≤ ((i - 1 : Nat) : Int) := by omega
    have h6 : ((i - 1 : Nat) : Int) < (s.length : Int) := by omega
    have b1 := has_range (rd_has hs i (by omega))
    have b2 := has_range (rd_has hs (i - 1) (by omega))
    obtain ⟨p1, p2, p3, p4, _⟩ := cell_bounds g b1
    obtain ⟨q1, q2, q3, q4, _⟩ := cell_bounds g b2
    have g2 := g.2.1
    have g4 := g.2.2.2.1
    have e1 : wrap64 (rd s (i : Int) % W - rd s ((i - 1 : Nat) : Int) % W) = dxOf W s i := wrap64_in _ (by omega)
    have e2 : wrap64 (rd s (i : Int) / W) = rd s (i : Int) / W := wrap64_in _ (by omega)
    have e3 : wrap64 (rd s ((i - 1 : Nat) : Int) / W) = rd s ((i - 1 : Nat) : Int) / W := wrap64_in _ (by omega)
    have e4 : wrap64 (rd s (i : Int) / W - rd s ((i - 1 : Nat) : Int) / W) = dyOf W s i := wrap64_in _ (by omega)
    simp only [h3, h4, n0, w1, h5, h6, if_true, if_false, tmod_of b1.1, tmod_of b2.1, tdiv_of b1.1, tdiv_of b2.1, e1, e2, e3, e4]
    refine Ev.bind (boSteps_ev A B l) ?_
    have hlen := hits_length (dxOf W s i) (dyOf W s i) (stepsM A B) 0
    have hst := stepsM_length A B
    have := spec_l1 (W := W) (H := H) (L := L) (A := A) (B := B) s i (dxOf W s i) (dyOf W s i) (acc ++ allHits W (stepsM A B) s (n + 1) i, true) (stepsM A B) [] (step_shape A B) (by simpa using hst) acc (by omega) ?_
    · simpa using this
    · rw [w_succ (show i ≤ 4611686018427387904 by omega), allHits, ← List.append_assoc]
      exact ih (i + 1) (by omega) (by omega) _ (by rw [List.length_append]; simp only [List.length_nil]; omega)
theorem impl_l1 (g : BoardM W H L) (s : List Int) (hs : ∀ x ∈ s, hasB W H L x = true) (hp : s.length ≤ 64) (i : Nat) (hi : 1 ≤ i ∧ i < s.length) (R : List Int × Bool) (rest pre : List (List Int)) (hr : ∀ t ∈ rest, ∃ x y : Int, t = [x, y]) (hpr : (pre ++ rest).length ≤ 121) : ∀ acc : List Int, acc.length + rest.length ≤ 100000 →
    Ev (fun k => impl_StepsOfWalk.l0 k s (acc ++ hits (dxOf W s i) (dyOf W s i) pre.length rest) (wrap64 ((i : Int) + 1)) W H L A B) R →
    Ev (fun k => impl_StepsOfWalk.l1 k s acc (i : Int) (pre ++ rest) ((pre ++ rest).length : Int) (pre.length : Int) W H L A B) R := by
  have h3 : (i : Int) < (s.length : Int) := by omega
  have h4 : (0 : Int) ≤ (i : Int) := by omega
  have n0 : ¬ W = 0 := by have := g.1; omega
  have w1 : wrap64 ((i : Int) - 1) = ((i - 1 : Nat) : Int) := by rw [wrap64_in _ (by omega)]; omega
  have h5 : (0 : Int) ≤ ((i - 1 : Nat) : Int) := by omega
  have h6 : ((i - 1 : Nat) : Int) < (s.length : Int) := by omega
  have b1 := has_range (rd_has hs i (by omega))
  have b2 := has_range (rd_has hs (i - 1) (by omega))
  obtain ⟨p1, p2, p3, p4, _⟩ := cell_bounds g b1
  obtain ⟨q1, q2, q3, q4, _⟩ := cell_bounds g b2
  have g2 := g.2.1
  have g4 := g.2.2.2.1
  have e1 : wrap64 (rd s (i : Int) % W - rd s ((i - 1 : Nat) : Int) % W) = dxOf W s i := wrap64_in _ (by omega)
  have e2 : wrap64 (rd s (i : Int) / W) = rd s (i : Int) / W := wrap64_in _ (by omega)
  have e3 : wrap64 (rd s ((i - 1 : Nat) : Int) / W) = rd s ((i - 1 : Nat) : Int) / W := wrap64_in _ (by omega)
  have e4 : wrap64 (rd s (i : Int) / W - rd s ((i - 1 : Nat) : Int) / W) = dyOf W s i := wrap64_in _ (by omega)
  induction rest generalizing pre with
  | nil =>
    intro acc ha hR
    refine Ev.step (fun k => by rw [impl_StepsOfWalk.l1]) ?_
    simp only [List.append_nil, nlt_end, if_false]
    simpa [hits] using hR
  | cons t r ih =>
    intro acc ha hR
    refine Ev.step (fun k => by rw [impl_StepsOfWalk.l1]) ?_
    obtain ⟨x, y, rfl⟩ := hr t (by simp)
    have h0 : (0 : Int) ≤ (pre.length : Int) := by omega
    have h9 : pre.length ≤ 121 := by simp at hpr; omega
    have f0 : rd_L1 (pre ++ [x, y] :: r) (pre.length : Int) = [x, y] := by simp [rd_L1]
    have f1 : rd [x, y] 0 = x := rfl
    have f2 : rd [x, y] 1 = y := rfl
    have hl0 : (0 : Int) < (([x, y] : List Int).length : Int) := by simp
    have hl1 : (1 : Int) < (([x, y] : List Int).length : Int) := by simp
    have h10 : acc.length < 17592186044416 := by omega
    rw [hits, f1, f2] at hR
    simp only [lt_mid pre [x, y] r, h0, if_true, f0, f1, f2, hl0, hl1, w_succ (show pre.length ≤ 4611686018427387904 by omega), h3, h4, n0, w1, h5, h6, if_false, tmod_of b1.1, tmod_of b2.1, tdiv_of b1.1, tdiv_of b2.1, e1, e2, e3, e4]
    have no : ¬ (x = dxOf W s i ∧ y = dyOf W s i) → Ev (fun k => impl_StepsOfWalk.l1 k s acc (i : Int) (pre ++ [x, y] :: r) ((pre ++ [x, y] :: r).length : Int) ((pre.length + 1 : Nat) : Int) W H L A B) R := by
      intro hn
      rw [if_neg hn] at hR
      have := ih (pre ++ [[x, y]]) (fun t ht => hr t (by simp [ht])) (by simpa using hpr) acc (by simp at ha ⊢; omega) (by simpa using hR)
      simpa using this
    by_cases c1 : dxOf W s i = x
    · simp only [if_pos c1]
      by_cases c2 : dyOf W s i = y
      · simp only [if_pos c2, h10, if_true]
        rw [if_pos ⟨c1.symm, c2.symm⟩] at hR
        have := ih (pre ++ [[x, y]]) (fun t ht => hr t (by simp [ht])) (by simpa using hpr) (acc ++ [(pre.length : Int)]) (by simp at ha ⊢; omega) (by simpa using hR)
        simpa using this
      · simp only [if_neg c2]
        exact no (fun h => c2 h.2.symm)
    · simp only [if_neg c1]
      exact no (fun h => c1 h.1.symm)
theorem impl_l0 (g : BoardM W H L) (s : List Int) (hs : ∀ x ∈ s, hasB W H L x = true) (hp : s.length ≤ 64) : ∀ (n i : Nat), i + n = s.length → 1 ≤ i → ∀ acc : List Int, acc.length ≤ 121 * i →
    Ev (fun k => impl_StepsOfWalk.l0 k s acc (i : Int) W H L A B) (acc ++ allHits W (stepsM A B) s n i, true) := by
  intro n
  induction n with
  | zero =>
    intro i h1 h2 acc ha
    refine Ev.step (fun k => by rw [impl_StepsOfWalk.l0]) ?_
    have h3 : ¬ ((i : Int) < (s.length : Int)) := by omega
    simp only [h3, if_false, allHits, List.append_nil]
    exact Ev.now _
  | succ n ih =>
    intro i h1 h2 acc ha
    refine Ev.step (fun k => by rw [impl_StepsOfWalk.l0]) ?_
    have h3 : (i : Int) < (s.length : Int) := by omega
    simp only [h3, if_true]
    refine Ev.bind (steps_ev A B) ?_
    have hlen := hits_length (dxOf W s i) (dyOf W s i) (stepsM A B) 0
    have hst := stepsM_length A B
    have := impl_l1 (A := A) (B := B) g s hs hp i (by omega) (acc ++ allHits W (stepsM A B) s (n + 1) i, true) (stepsM A B) [] (step_shape A B) (by simpa using hst) acc (by omega) ?_
    · simpa using this
    · rw [w_succ (show i ≤ 4611686018427387904 by omega), allHits, ← List.append_assoc]
      exact ih (i + 1) (by omega) (by omega) _ (by rw [List.length_append]; simp only [List.length_nil]; omega)
end
theorem stepsOfWalk_both (W H : Int) (L : List Int) (A B : Int) (s : List Int) (hl : L.length ≤ 1048576) (hs : s.length ≤ 1048576) : ∃ (r : List Int) (b : Bool), r.length ≤ 1048576 ∧ Ev (fun k => spec_StepsOfWalk.f k W H L A B s) (r, b) ∧ Ev (fun k => impl_StepsOfWalk.f k W H L A B s) (r, b) := by
  by_cases t : Walked W H L A B s
  · have hw := walkB_has t.2
    have hst := stepsM_length A B
    refine ⟨allHits W (stepsM A B) s (s.length - 1) 1, true, ?_, ?_, ?_⟩
    · have := allHits_length W (stepsM A B) s (s.length - 1) 1
      have h2 : (s.length - 1) * (stepsM A B).length ≤ 64 * 121 := Nat.mul_le_mul (by omega) hst
      omega
    · unfold spec_StepsOfWalk.f
      refine Ev.bind (blWalk_yes t hl) ?_
      simp only [if_true]
      have := spec_l0 t.1.1 t.1.2 s hw.2.2 hw.2.1 (s.length - 1) 1 (by omega) (by omega) [] (by simp)
      simpa using this
    · unfold impl_StepsOfWalk.f
      refine Ev.bind (walkGraph_yes t hl) ?_
      simp only [if_true]
      have := impl_l0 (A := A) (B := B) t.1.1 s hw.2.2 hw.2.1 (s.length - 1) 1 (by omega) (by omega) [] (by simp)
      simpa using this
  · refine ⟨[], false, by simp, ?_, ?_⟩
    · unfold spec_StepsOfWalk.f
      refine Ev.bind (blWalk_no t hl) ?_
      simp only [Bool.false_eq_true, if_false]
      exact Ev.now _
    · unfold impl_StepsOfWalk.f
      refine Ev.bind (walkGraph_no t hl) ?_
      simp only [Bool.false_eq_true, if_false]
      exact Ev.now _
theorem FnExactStepsOfWalk : FnExactStepsOfWalkSaid := by
  intro a0_0 a0_1 l0_2 a1_0 a1_1 l2 _ _ hlen_l0_2 _ _ _ hlen_l2 _
  by_cases hb_l2 : (l2.length : Int) > 1048576
  · refine ⟨0, ?_⟩
    simp [laws_FnExactStepsOfWalk.f, hb_l2]
  have hs_l2 : l2.length ≤ 1048576 := by omega
  by_cases hb_l0_2 : 1048576 < l0_2.length
  · refine ⟨0, ?_⟩
    simp [laws_FnExactStepsOfWalk.f, szBoard_big a0_0 a0_1 l0_2 hb_l0_2 hlen_l0_2, hb_l2]
  have hs_l0_2 : l0_2.length ≤ 1048576 := by omega
  obtain ⟨r, b, hr, hs, hi⟩ := stepsOfWalk_both a0_0 a0_1 l0_2 a1_0 a1_1 l2 hs_l0_2 hs_l2
  refine rounds_of ?_
  have n0 : ¬ (1048576 - (l0_2.length : Int) < 0) := by omega
  have n1 : ¬ (1 + (l0_2.length : Int) < 0) := by omega
  have n2 : ¬ (1 + (l2.length : Int) < 0) := by omega
  have n12 : ¬ (1 + (l0_2.length : Int) + (l2.length : Int) < 0) := by omega
  have nr : ¬ (1 + (r.length : Int) < 0) := by omega
  unfold laws_FnExactStepsOfWalk.f
  repeat (first
    | exact Ev.now _
    | refine Ev.bind (toBoard_ev _ _ _ (by assumption)) ?_
    | refine Ev.bind (eqBoard_ev _ _ _ (by assumption)) ?_
    | refine Ev.bind (markBoard_ev _ _ _ (by assumption)) ?_
    | refine Ev.bind (toIntS_ev _ (by assumption)) ?_
    | refine Ev.bind (eqIntS_ev _ (by assumption)) ?_
    | refine Ev.bind (markIntS_ev _ (by assumption)) ?_
    | refine Ev.bind (heldIntS_ev _ (by assumption)) ?_
    | refine Ev.bind (markIntS_any _ _ (by assumption) (by omega)) ?_
    | refine Ev.bind hs ?_
    | refine Ev.bind hi ?_
    | simp only [Option.bind_some, if_true, if_false, bne_self_eq_false, Bool.false_eq_true, ne_eq, not_true_eq_false, not_false_eq_true, hb_l2, szBoard_fit _ _ _ hs_l0_2, laws_toLeaper.f, n0, n1, n2, n12, nr]
    | (refine Ev.step (fun k => by rw [laws_FnExactStepsOfWalk.j0]) ?_)
    | (refine Ev.step (fun k => by rw [laws_FnExactStepsOfWalk.j1]) ?_)
    | (refine Ev.step (fun k => by rw [laws_FnExactStepsOfWalk.j2]) ?_))
end Go.Proofs.Ytbecdckdbeoomaa.Pure

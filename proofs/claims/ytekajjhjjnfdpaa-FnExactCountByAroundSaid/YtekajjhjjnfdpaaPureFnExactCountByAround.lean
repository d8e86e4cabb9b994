/- CountByAround: the program and the reference tell the same counts, so the law's function answers true for all arguments. -/
import Derived.Test.YtekajjhjjnfdpaaStateFnExactCountByAround
import Derived.Test.YtekajjhjjnfdpaaHRingFar
import Derived.Test.YtekajjhjjnfdpaaHByDist
import Derived.Test.YtekajjhjjnfdpaaQ38
import Derived.Test.YtekajjhjjnfdpaaQ42
import Derived.Test.YtekajjhjjnfdpaaQ44
import Derived.Test.YtekajjhjjnfdpaaQ45
namespace Go.Proofs.Ytekajjhjjnfdpaa.Pure
open Go.RowKit Go.IntWalk Go.Proofs.Ytekajjhjjnfdpaa.Q Go.Proofs.Ytekajjhjjnfdpaa.H Go.Proofs.YtekajjhjjnfdpaaW.PrintWords Go.Proofs.YtekajjhjjnfdpaaW.PrintMore
set_option linter.unusedVariables false
set_option linter.unusedSimpArgs false
theorem specCount_fill (l : List Int) (hl : l.length ≤ 1000) (x : Int) (hx : 0 ≤ x ∧ x ≤ 500) (i : Int) (pre : List Int) (hpl : pre.length ≤ 1000) (R : List Int × Bool) : ∀ (d m : Nat), (d : Int) + m = max (m : Int) (x + 1) → m ≤ 600 → (∀ y ∈ pre, y < (m : Int)) →
    Ev (fun k => spec_CountByAround.l0 k ((cntL pre (m + d)).set x.toNat (wrap64 (rd (cntL pre (m + d)) x + 1))) l (l.length : Int) (wrap64 (i + 1))) R →
    Ev (fun k => spec_CountByAround.l1 k (cntL pre m) x l (l.length : Int) i) R := by
  intro d
  induction d with
  | zero =>
    intro m h1 h2 h3 hR
    refine Ev.step (fun k => by rw [spec_CountByAround.l1]) ?_
    have c1 : ¬ (((cntL pre m).length : Int) ≤ x) := by rw [cntL_length]; omega
    have c2 : x < ((cntL pre m).length : Int) := by rw [cntL_length]; omega
    simp only [c1, c2, hx.1, if_true, if_false]
    exact hR
  | succ d ih =>
    intro m h1 h2 h3 hR
    refine Ev.step (fun k => by rw [spec_CountByAround.l1]) ?_
    have c1 : (((cntL pre m).length : Int) ≤ x) := by rw [cntL_length]; omega
    have c2 : (cntL pre m).length < 17592186044416 := by rw [cntL_length]; omega
    simp only [c1, c2, if_true, cntL_more pre m h3]
    refine ih (m + 1) (by omega) (by omega) (fun y hy => by have := h3 y hy; omega) ?_
    rwa [show m + 1 + d = m + (d + 1) by omega]
theorem specCount_loop (rest pre : List Int) (hr : ∀ x ∈ rest, x ≤ 500) (hpr : mostOf pre ≤ 600) (hp : (pre ++ rest).length ≤ 1000) :
    Ev (fun k => spec_CountByAround.l0 k (cntL pre (mostOf pre)) (pre ++ rest) ((pre ++ rest).length : Int) (pre.length : Int)) (cntL (pre ++ rest) (mostOf (pre ++ rest)), true) := by
  induction rest generalizing pre with
  | nil =>
    refine Ev.step (fun k => by rw [spec_CountByAround.l0]) ?_
    simp only [List.append_nil, nlt_end, if_false]
    exact Ev.now _
  | cons x r ih =>
    refine Ev.step (fun k => by rw [spec_CountByAround.l0]) ?_
    have h0 : (0 : Int) ≤ (pre.length : Int) := by omega
    have h5 : pre.length ≤ 1000 := by simp at hp; omega
    have hx := hr x (by simp)
    have go := ih (pre ++ [x]) (fun y hy => hr y (by simp [hy])) (by rw [mostOf_snoc]; omega) (by simpa using hp)
    simp only [lt_mid pre x r, h0, if_true, rd_mid]
    by_cases c : x < 0
    · have e : mostOf (pre ++ [x]) = mostOf pre := by rw [mostOf_snoc]; omega
      rw [e, cntL_neg pre _ x c] at go
      simp only [c, if_true, w_succ (show pre.length ≤ 4611686018427387904 by omega)]
      simpa using go
    · simp only [c, if_false]
      have e : mostOf (pre ++ [x]) = max (mostOf pre) (x + 1).toNat := mostOf_snoc pre x
      refine specCount_fill (pre ++ x :: r) hp x ⟨by omega, hx⟩ (pre.length : Int) pre h5 _ (mostOf (pre ++ [x]) - mostOf pre) (mostOf pre) (by omega) hpr (mostOf_spec pre).1 ?_
      rw [show mostOf pre + (mostOf (pre ++ [x]) - mostOf pre) = mostOf (pre ++ [x]) by omega]
      have hin : 0 ≤ x ∧ x < (mostOf (pre ++ [x]) : Int) := by omega
      have hb := cntOf_le pre x
      rw [cntL_rd pre _ x hin, wrap64_in (cntOf pre x + 1) (by omega), cntL_put pre _ x hin, w_succ (show pre.length ≤ 4611686018427387904 by omega)]
      simpa using go
open Classical in
theorem arTwo_eq (W H : Int) (ax ay : Bool) (A B : Int) : spec_arTwo.f W H ax ay A B = some (decide (Ring W H ∧ Leap A B)) := by
  simp only [spec_arTwo.f, spec_arGood.f, l1In_eq, boLeaper_eq, Option.bind_some]
  unfold Ring
  by_cases h1 : 1 ≤ W <;> by_cases h2 : W ≤ 12 <;> by_cases h3 : 1 ≤ H <;> by_cases h4 : H ≤ 12 <;> simp [h1, h2, h3, h4]
theorem isAround_eq (W H : Int) (ax ay : Bool) : impl_IsAround.f W H ax ay = some (decide (1 ≤ W ∧ W ≤ 12 ∧ 1 ≤ H ∧ H ≤ 12)) := by
  unfold impl_IsAround.f
  by_cases h1 : W ≥ 1 <;> by_cases h2 : W ≤ 12 <;> by_cases h3 : H ≥ 1 <;> simp [h1, h2, h3] <;> omega
theorem countByAround_both (W H : Int) (ax ay : Bool) (A B c : Int) : ∃ (r : List Int) (b : Bool), r.length ≤ 1048576 ∧ Ev (fun k => spec_CountByAround.f k W H ax ay A B c) (r, b) ∧ Ev (fun k => impl_CountByAround.f k W H ax ay A B c) (r, b) := by
  have noS : Ev (fun k => spec_CountByAround.j0 k c true W H ax ay A B) (([] : List Int), false) := by
    refine Ev.step (fun k => by rw [spec_CountByAround.j0]) ?_
    simp only [if_true]
    exact Ev.now _
  have noI : ∀ N, Ev (fun k => impl_CountByAround.j0 k c N true) (([] : List Int), false) := fun N => by
    refine Ev.step (fun k => by rw [impl_CountByAround.j0]) ?_
    simp only [if_true]
    exact Ev.now _
  by_cases t : Ring W H ∧ Leap A B
  · obtain ⟨g, l⟩ := t
    have ha := g.area
    have hnear : Ev (fun k => impl_nearAround.f k W H ax ay A B) (rowsA W H ax ay A B, true) := by
      have g' : (1 ≤ W ∧ W ≤ 12 ∧ 1 ≤ H ∧ H ≤ 12) := g
      simp only [impl_nearAround.f, isAround_eq, g', and_self, decide_true, Option.bind_some, if_true, isLeaper_eq, l]
      exact Ev.bind (around_ev g l) (Ev.now _)
    have w6 : wrap64 (W * H - 1) = W * H - 1 := wrap64_in _ (by omega)
    have hcell : spec_arCell.f W H ax ay c = some (decide (0 ≤ c) && decide (c ≤ W * H - 1)) := by
      have e : (decide (1 ≤ W) && decide (W ≤ 12)) = true := by simp [g.1, g.2.1]
      have e2 : (decide (1 ≤ H) && decide (H ≤ 12)) = true := by simp [g.2.2.1, g.2.2.2]
      simp only [spec_arCell.f, spec_arGood.f, l1In_eq, Option.bind_some, e, e2, if_true, g.wrapArea, w6]
    have hhas : impl_Around_has.f W H ax ay c = some (decide (0 ≤ c) && decide (c < W * H)) := by
      unfold impl_Around_has.f
      by_cases h : c ≥ 0
      · have h' : 0 ≤ c := h
        simp only [h, h', if_true, g.wrapArea, decide_true, Bool.true_and]
      · have h' : ¬ 0 ≤ c := h
        simp only [h, h', if_false, decide_false, Bool.false_and]
    by_cases hc : 0 ≤ c ∧ c < W * H
    · have hf := farR_keep (ax := ax) (ay := ay) (A := A) (B := B) g hc
      have h0 : 0 < (farR W H ax ay A B c).length := by rw [hf.1]; omega
      obtain ⟨m1, m2⟩ := maxOf_spec _ h0
      have hval : ∀ x ∈ farR W H ax ay A B c, x ≤ 144 := by
        intro x hx
        obtain ⟨j, hj, rfl⟩ := List.getElem_of_mem hx
        have := (hf.2 (j : Int) (by omega)).2
        rwa [rd_nat _ j hj] at this
      have hz : (0 : Int) ∈ farR W H ax ay A B c := by
        have := farR_self (ax := ax) (ay := ay) (A := A) (B := B) g hc
        have hj : c.toNat < (farR W H ax ay A B c).length := by omega
        have e := rd_nat _ c.toNat hj
        rw [show ((c.toNat : Nat) : Int) = c by omega, this] at e
        rw [e]
        exact List.getElem_mem hj
      refine ⟨cntL (farR W H ax ay A B c) (mostOf (farR W H ax ay A B c)), true, ?_, ?_, ?_⟩
      · rw [cntL_length]
        have := (mostOf_spec (farR W H ax ay A B c)).2 145 (fun x hx => by have := hval x hx; omega)
        omega
      · unfold spec_CountByAround.f
        have e : (decide (0 ≤ c) && decide (c ≤ W * H - 1)) = true := by simp; omega
        simp only [arTwo_eq, g, l, and_self, decide_true, Option.bind_some, if_true, hcell, e, Bool.not_true]
        refine Ev.step (fun k => by rw [spec_CountByAround.j0]) ?_
        simp only [Bool.false_eq_true, if_false]
        refine Ev.bind (arFrom_ev g l c hc) ?_
        have := specCount_loop (farR W H ax ay A B c) [] (fun x hx => by have := hval x hx; omega) (by simp [mostOf]) (by simp; omega)
        simpa [cntL, mostOf] using this
      · unfold impl_CountByAround.f
        refine Ev.bind hnear ?_
        have e : (decide (0 ≤ c) && decide (c < W * H)) = true := by simp; omega
        simp only [if_true, hhas, Option.bind_some, e, Bool.not_true]
        refine Ev.step (fun k => by rw [impl_CountByAround.j0]) ?_
        simp only [Bool.false_eq_true, if_false]
        refine Ev.bind (farAround_ev g l c hc) ?_
        exact Ev.bind (byDistance_ev _ (by omega) h0 (m1 0 hz) (by have := hval _ m2; omega)) (Ev.now _)
    · refine ⟨[], false, by simp, ?_, ?_⟩
      · unfold spec_CountByAround.f
        have e : (decide (0 ≤ c) && decide (c ≤ W * H - 1)) = false := by simp only [Bool.and_eq_false_iff, decide_eq_false_iff_not]; omega
        simp only [arTwo_eq, g, l, and_self, decide_true, Option.bind_some, if_true, hcell, e, Bool.not_false]
        exact noS
      · unfold impl_CountByAround.f
        refine Ev.bind hnear ?_
        have e : (decide (0 ≤ c) && decide (c < W * H)) = false := by simp only [Bool.and_eq_false_iff, decide_eq_false_iff_not]; omega
        simp only [if_true, hhas, Option.bind_some, e, Bool.not_false]
        exact noI _
  · refine ⟨[], false, by simp, ?_, ?_⟩
    · unfold spec_CountByAround.f
      simp only [arTwo_eq, t, decide_false, Option.bind_some, Bool.false_eq_true, if_false]
      exact noS
    · unfold impl_CountByAround.f
      refine Ev.bind (a := (([] : List (List Int)), false)) ?_ ?_
      · simp only [impl_nearAround.f, isAround_eq, Option.bind_some]
        by_cases g : (1 ≤ W ∧ W ≤ 12 ∧ 1 ≤ H ∧ H ≤ 12)
        · have l : ¬ Leap A B := fun l => t ⟨g, l⟩
          simp only [g, and_self, decide_true, if_true, isLeaper_eq, l, decide_false, Option.bind_some, Bool.false_eq_true, if_false]
          exact Ev.now _
        · simp only [g, decide_false, Bool.false_eq_true, if_false]
          exact Ev.now _
      · simp only [Bool.false_eq_true, if_false]
        exact noI _
theorem FnExactCountByAround : FnExactCountByAroundSaid := by
  intro a0_0 a0_1 a0_2 a0_3 a1_0 a1_1 a2 _ _ _ _ _
  obtain ⟨r, b, hr, hs, hi⟩ := countByAround_both a0_0 a0_1 a0_2 a0_3 a1_0 a1_1 a2
  refine Ev.rounds ?_
  have nr : ¬ (1 + (r.length : Int) < 0) := by omega
  unfold laws_FnExactCountByAround.f
  repeat (first
    | exact Ev.now _
    | refine Ev.bind (toBoard_ev _ _ _ (by assumption)) ?_
    | refine Ev.bind (eqBoard_ev _ _ _ (by assumption)) ?_
    | refine Ev.bind (markBoard_ev _ _ _ (by assumption)) ?_
    | refine Ev.bind (toIntS_ev _ (by assumption)) ?_
    | refine Ev.bind (eqIntS_ev _ (by assumption)) ?_
    | refine Ev.bind (markIntS_ev _ (by assumption)) ?_
    | refine Ev.bind (heldIntS_ev _ (by assumption)) ?_
    | refine Ev.bind hs ?_
    | refine Ev.bind hi ?_
    | simp only [Option.bind_some, if_true, if_false, bne_self_eq_false, Bool.false_eq_true, ne_eq, not_true_eq_false, not_false_eq_true, laws_toLeaper.f, laws_toAround.f, nr]
    | (refine Ev.step (fun k => by rw [laws_FnExactCountByAround.j0]) ?_)
    | (refine Ev.step (fun k => by rw [laws_FnExactCountByAround.j1]) ?_))
end Go.Proofs.Ytekajjhjjnfdpaa.Pure

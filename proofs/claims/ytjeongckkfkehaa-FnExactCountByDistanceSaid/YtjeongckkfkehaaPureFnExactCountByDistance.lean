/- CountByDistance: the program and the reference tell the same counts, so the law's function answers true for all arguments. -/
import Derived.Test.YtjeongckkfkehaaStateFnExactCountByDistance
import Derived.Test.YtjeongckkfkehaaHFar
import Derived.Test.YtjeongckkfkehaaHByDist
import Derived.Test.YtjeongckkfkehaaQ30
namespace Go.Proofs.Ytjeongckkfkehaa.Pure
open Go.RowKit Go.IntWalk Go.Proofs.Ytjeongckkfkehaa.Q Go.Proofs.Ytjeongckkfkehaa.H Go.Proofs.YtjeongckkfkehaaW.PrintWords Go.Proofs.YtjeongckkfkehaaW.PrintMore
set_option linter.unusedVariables false
set_option linter.unusedSimpArgs false
theorem specCount_fill (l : List Int) (hl : l.length ≤ 1000) (x : Int) (hx : 0 ≤ x ∧ x ≤ 500) (i : Int) (pre : List Int) (hpl : pre.length ≤ 1000) (R : List Int × Bool) : ∀ (d m : Nat), (d : Int) + m = max (m : Int) (x + 1) → m ≤ 600 → (∀ y ∈ pre, y < (m : Int)) →
    Ev (fun k => spec_CountByDistance.l0 k ((cntL pre (m + d)).set x.toNat (wrap64 (rd (cntL pre (m + d)) x + 1))) l (l.length : Int) (wrap64 (i + 1))) R →
    Ev (fun k => spec_CountByDistance.l1 k (cntL pre m) x l (l.length : Int) i) R := by
  intro d
  induction d with
  | zero =>
    intro m h1 h2 h3 hR
    refine Ev.step (fun k => by rw [spec_CountByDistance.l1]) ?_
    have c1 : ¬ (((cntL pre m).length : Int) ≤ x) := by rw [cntL_length]; omega
    have c2 : x < ((cntL pre m).length : Int) := by rw [cntL_length]; omega
    simp only [c1, c2, hx.1, if_true, if_false]
    exact hR
  | succ d ih =>
    intro m h1 h2 h3 hR
    refine Ev.step (fun k => by rw [spec_CountByDistance.l1]) ?_
    have c1 : (((cntL pre m).length : Int) ≤ x) := by rw [cntL_length]; omega
    have c2 : (cntL pre m).length < 17592186044416 := by rw [cntL_length]; omega
    simp only [c1, c2, if_true, cntL_more pre m h3]
    refine ih (m + 1) (by omega) (by omega) (fun y hy => by have := h3 y hy; omega) ?_
    rwa [show m + 1 + d = m + (d + 1) by omega]
theorem specCount_loop (rest pre : List Int) (hr : ∀ x ∈ rest, x ≤ 500) (hpr : mostOf pre ≤ 600) (hp : (pre ++ rest).length ≤ 1000) :
    Ev (fun k => spec_CountByDistance.l0 k (cntL pre (mostOf pre)) (pre ++ rest) ((pre ++ rest).length : Int) (pre.length : Int)) (cntL (pre ++ rest) (mostOf (pre ++ rest)), true) := by
  induction rest generalizing pre with
  | nil =>
    refine Ev.step (fun k => by rw [spec_CountByDistance.l0]) ?_
    simp only [List.append_nil, nlt_end, if_false]
    exact Ev.now _
  | cons x r ih =>
    refine Ev.step (fun k => by rw [spec_CountByDistance.l0]) ?_
    have h0 : (0 : Int) ≤ (pre.length : Int) := by omega
    have h5 : pre.length ≤ 1000 := by simp at hp; omega
    have hx := hr x (by simp)
    have go := ih (pre ++ [x]) (fun y hy => hr y (by simp [hy])) (by rw [mostOf_snoc]; omega) (by simpa using hp)
    simp only [lt_mid pre x r, h0, if_true, rd_mid]
    by_cases c : x < 0
    · have e : mostOf (pre ++ [x]) = mostOf pre := by rw [mostOf_snoc]; omega
      rw [e, cntL_neg pre _ x c] at go
      simp only [c, if_true, w_succ (show pre.length ≤ 4611686018427387904 by omega)]
      simpa using go
    · simp only [c, if_false]
      have e : mostOf (pre ++ [x]) = max (mostOf pre) (x + 1).toNat := mostOf_snoc pre x
      refine specCount_fill (pre ++ x :: r) hp x ⟨by omega, hx⟩ (pre.length : Int) pre h5 _ (mostOf (pre ++ [x]) - mostOf pre) (mostOf pre) (by omega) hpr (mostOf_spec pre).1 ?_
      rw [show mostOf pre + (mostOf (pre ++ [x]) - mostOf pre) = mostOf (pre ++ [x]) by omega]
      have hin : 0 ≤ x ∧ x < (mostOf (pre ++ [x]) : Int) := by omega
      have hb := cntOf_le pre x
      rw [cntL_rd pre _ x hin, wrap64_in (cntOf pre x + 1) (by omega), cntL_put pre _ x hin, w_succ (show pre.length ≤ 4611686018427387904 by omega)]
      simpa using go
theorem countByDistance_both (W H : Int) (L : List Int) (A B c : Int) (hl : L.length ≤ 1048576) : ∃ (r : List Int) (b : Bool), r.length ≤ 1048576 ∧ Ev (fun k => spec_CountByDistance.f k W H L A B c) (r, b) ∧ Ev (fun k => impl_CountByDistance.f k W H L A B c) (r, b) := by
  by_cases t : AskM W H L A B c c
  · have g := t.1.1
    have ha := g.area
    have hc := has_range t.2.1
    have hf := farM_keep (A := A) (B := B) g hc
    have h0 : 0 < (farM W H L A B c).length := by rw [hf.1]; omega
    obtain ⟨m1, m2⟩ := maxOf_spec _ h0
    have hval : ∀ x ∈ farM W H L A B c, x ≤ 64 := by
      intro x hx
      obtain ⟨j, hj, rfl⟩ := List.getElem_of_mem hx
      have := (hf.2 (j : Int) (by omega)).2
      rwa [rd_nat _ j hj] at this
    have hz : (0 : Int) ∈ farM W H L A B c := by
      have := farM_self (A := A) (B := B) g hc
      have hj : c.toNat < (farM W H L A B c).length := by omega
      have e := rd_nat _ c.toNat hj
      rw [show ((c.toNat : Nat) : Int) = c by omega, this] at e
      rw [e]
      exact List.getElem_mem hj
    refine ⟨cntL (farM W H L A B c) (mostOf (farM W H L A B c)), true, ?_, ?_, ?_⟩
    · rw [cntL_length]
      have := (mostOf_spec (farM W H L A B c)).2 65 (fun x hx => by have := hval x hx; omega)
      omega
    · unfold spec_CountByDistance.f
      refine Ev.bind (faAsked_yes t hl) ?_
      simp only [if_true]
      refine Ev.bind (faFrom_ev g hl c hc) ?_
      have := specCount_loop (farM W H L A B c) [] (fun x hx => by have := hval x hx; omega) (by simp [mostOf]) (by simp; omega)
      simpa [cntL, mostOf] using this
    · unfold impl_CountByDistance.f
      refine Ev.bind (implTwo_yes t hl) ?_
      simp only [if_true]
      refine Ev.bind (far_ev g c t.2.1) ?_
      exact Ev.bind (byDistance_ev _ (by omega) h0 (m1 0 hz) (by have := hval _ m2; omega)) (Ev.now _)
  · refine ⟨[], false, by simp, ?_, ?_⟩
    · unfold spec_CountByDistance.f
      refine Ev.bind (faAsked_no t hl) ?_
      simp only [Bool.false_eq_true, if_false]
      exact Ev.now _
    · unfold impl_CountByDistance.f
      refine Ev.bind (implTwo_no t hl) ?_
      simp only [Bool.false_eq_true, if_false]
      exact Ev.now _
theorem FnExactCountByDistance : FnExactCountByDistanceSaid := by
  intro a0_0 a0_1 l0_2 a1_0 a1_1 a2 _ _ hlen_l0_2 _ _ _ _
  by_cases hb_l0_2 : 1048576 < l0_2.length
  · refine ⟨0, ?_⟩
    simp [laws_FnExactCountByDistance.f, szBoard_big a0_0 a0_1 l0_2 hb_l0_2 hlen_l0_2]
  have hs_l0_2 : l0_2.length ≤ 1048576 := by omega
  obtain ⟨r, b, hr, hs, hi⟩ := countByDistance_both a0_0 a0_1 l0_2 a1_0 a1_1 a2 hs_l0_2
  refine rounds_of ?_
  have n0 : ¬ (1048576 - (l0_2.length : Int) < 0) := by omega
  have n1 : ¬ (1 + (l0_2.length : Int) < 0) := by omega
  have nr : ¬ (1 + (r.length : Int) < 0) := by omega
  unfold laws_FnExactCountByDistance.f
  repeat (first
    | exact Ev.now _
    | refine Ev.bind (toBoard_ev _ _ _ (by assumption)) ?_
    | refine Ev.bind (eqBoard_ev _ _ _ (by assumption)) ?_
    | refine Ev.bind (markBoard_ev _ _ _ (by assumption)) ?_
    | refine Ev.bind (toIntS_ev _ (by assumption)) ?_
    | refine Ev.bind (eqIntS_ev _ (by assumption)) ?_
    | refine Ev.bind (markIntS_ev _ (by assumption)) ?_
    | refine Ev.bind (heldIntS_ev _ (by assumption)) ?_
    | refine Ev.bind (markIntS_any _ _ (by assumption) (by omega)) ?_
    | refine Ev.bind hs ?_
    | refine Ev.bind hi ?_
    | simp only [Option.bind_some, if_true, if_false, bne_self_eq_false, Bool.false_eq_true, ne_eq, not_true_eq_false, not_false_eq_true, szBoard_fit _ _ _ hs_l0_2, laws_toLeaper.f, n0, n1, nr]
    | (refine Ev.step (fun k => by rw [laws_FnExactCountByDistance.j0]) ?_)
    | (refine Ev.step (fun k => by rw [laws_FnExactCountByDistance.j1]) ?_)
    | (refine Ev.step (fun k => by rw [laws_FnExactCountByDistance.j2]) ?_))
end Go.Proofs.Ytjeongckkfkehaa.Pure

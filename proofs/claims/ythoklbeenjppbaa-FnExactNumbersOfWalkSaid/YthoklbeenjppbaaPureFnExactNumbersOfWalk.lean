/- NumbersOfWalk: the program and the reference tell the same list, so the law's function answers true for all arguments. -/
import Derived.Test.YthoklbeenjppbaaStateFnExactNumbersOfWalk
import Derived.Test.YthoklbeenjppbaaHPath
import Derived.Test.YthoklbeenjppbaaQ29
namespace Go.Proofs.Ythoklbeenjppbaa.Pure
open Go.RowKit Go.IntWalk Go.Proofs.Ythoklbeenjppbaa.Q Go.Proofs.Ythoklbeenjppbaa.H Go.Proofs.YthoklbeenjppbaaW.PrintWords Go.Proofs.YthoklbeenjppbaaW.PrintMore
set_option linter.unusedVariables false
set_option linter.unusedSimpArgs false
def numsR : Int → List Int → List Int → List Int
  | _, [], o => o
  | i, c :: r, o => numsR (i + 1) r (o.set c.toNat (i + 1))
theorem numsR_length (s : List Int) : ∀ i o, (numsR i s o).length = o.length := by
  induction s with
  | nil => intro i o; rfl
  | cons c r ih => intro i o; rw [numsR, ih]; simp
section
variable {W H : Int} {L : List Int}
theorem specNums_loop (rest pre o : List Int) (hr : ∀ x ∈ rest, hasB W H L x = true) (hp : (pre ++ rest).length ≤ 64) (ho : (o.length : Int) = W * H) :
    Ev (fun k => spec_NumbersOfWalk.l0 k o (pre ++ rest) ((pre ++ rest).length : Int) (pre.length : Int)) (numsR (pre.length : Int) rest o, true) := by
  induction rest generalizing pre o with
  | nil =>
    refine Ev.step (fun k => by rw [spec_NumbersOfWalk.l0]) ?_
    simp only [List.append_nil, nlt_end, if_false, numsR]
    exact Ev.now _
  | cons c r ih =>
    refine Ev.step (fun k => by rw [spec_NumbersOfWalk.l0]) ?_
    have h0 : (0 : Int) ≤ (pre.length : Int) := by omega
    have h5 : pre.length ≤ 64 := by simp at hp; omega
    have hc := has_range (hr c (by simp))
    have h6 : c < (o.length : Int) := by omega
    simp only [lt_mid pre c r, h0, if_true, rd_mid, hc.1, h6, w_succ (show pre.length ≤ 4611686018427387904 by omega), numsR]
    have := ih (pre ++ [c]) (o.set c.toNat ((pre.length + 1 : Nat) : Int)) (fun x hx => hr x (by simp [hx])) (by simpa using hp) (by simpa using ho)
    simpa using this
theorem implNums_loop (rest pre o : List Int) (hr : ∀ x ∈ rest, hasB W H L x = true) (hp : (pre ++ rest).length ≤ 64) (ho : (o.length : Int) = W * H) :
    Ev (fun k => impl_Board_numbers.l0 k o (pre ++ rest) ((pre ++ rest).length : Int) (pre.length : Int)) (numsR (pre.length : Int) rest o) := by
  induction rest generalizing pre o with
  | nil =>
    refine Ev.step (fun k => by rw [impl_Board_numbers.l0]) ?_
    simp only [List.append_nil, nlt_end, if_false, numsR]
    exact Ev.now _
  | cons c r ih =>
    refine Ev.step (fun k => by rw [impl_Board_numbers.l0]) ?_
    have h0 : (0 : Int) ≤ (pre.length : Int) := by omega
    have h5 : pre.length ≤ 64 := by simp at hp; omega
    have hc := has_range (hr c (by simp))
    have h6 : c < (o.length : Int) := by omega
    simp only [lt_mid pre c r, h0, if_true, rd_mid, hc.1, h6, w_succ (show pre.length ≤ 4611686018427387904 by omega), numsR]
    have := ih (pre ++ [c]) (o.set c.toNat ((pre.length + 1 : Nat) : Int)) (fun x hx => hr x (by simp [hx])) (by simpa using hp) (by simpa using ho)
    simpa using this
end
theorem numbersOfWalk_both (W H : Int) (L : List Int) (A B : Int) (s : List Int) (hl : L.length ≤ 1048576) (hs : s.length ≤ 1048576) : ∃ (r : List Int) (b : Bool), r.length ≤ 1048576 ∧ Ev (fun k => spec_NumbersOfWalk.f k W H L A B s) (r, b) ∧ Ev (fun k => impl_NumbersOfWalk.f k W H L A B s) (r, b) := by
  have noS : Ev (fun k => spec_NumbersOfWalk.j0 k s true W H L) (([] : List Int), false) := by
    refine Ev.step (fun k => by rw [spec_NumbersOfWalk.j0]) ?_
    simp only [if_true]
    exact Ev.now _
  by_cases t : Two W H L A B
  · have g := t.1
    have ha := g.area
    have hw0 := toWalk_ev g hl A B s
    have hw1 := isWalk_ev g hl A B s
    rcases Bool.eq_false_or_eq_true (walkB W H L A B s) with hx | hx
    · have hw := walkB_has hx
      rw [hx] at hw0 hw1
      have h1 : 0 ≤ W * H := by omega
      have h2 : (W * H).toNat ≤ 35184372088832 := by omega
      refine ⟨numsR 0 s (List.replicate (W * H).toNat 0), true, by rw [numsR_length]; simp; omega, ?_, ?_⟩
      · unfold spec_NumbersOfWalk.f
        refine Ev.bind (two_yes t hl) ?_
        simp only [if_true]
        refine Ev.bind hw0 ?_
        simp only [Bool.not_true]
        refine Ev.step (fun k => by rw [spec_NumbersOfWalk.j0]) ?_
        simp only [Bool.false_eq_true, if_false, g.wrapArea, h1, h2, if_true]
        have := specNums_loop (W := W) (H := H) (L := L) s [] (List.replicate (W * H).toNat 0) hw.2.2 (by simpa using hw.2.1) (by simp; omega)
        simpa using this
      · unfold impl_NumbersOfWalk.f
        refine Ev.bind (graphOf_two t hl) ?_
        simp only [if_true]
        refine Ev.bind hw1 ?_
        simp only [if_true]
        refine Ev.bind (a := numsR 0 s (List.replicate (W * H).toNat 0)) ?_ (Ev.now _)
        simp only [impl_Board_numbers.f, g.wrapArea, h1, h2, if_true]
        have := implNums_loop (W := W) (H := H) (L := L) s [] (List.replicate (W * H).toNat 0) hw.2.2 (by simpa using hw.2.1) (by simp; omega)
        simpa using this
    · rw [hx] at hw0 hw1
      refine ⟨[], false, by simp, ?_, ?_⟩
      · unfold spec_NumbersOfWalk.f
        refine Ev.bind (two_yes t hl) ?_
        simp only [if_true]
        refine Ev.bind hw0 ?_
        simp only [Bool.not_false]
        exact noS
      · unfold impl_NumbersOfWalk.f
        refine Ev.bind (graphOf_two t hl) ?_
        simp only [if_true]
        refine Ev.bind hw1 ?_
        simp only [Bool.false_eq_true, if_false]
        exact Ev.now _
  · refine ⟨[], false, by simp, ?_, ?_⟩
    · unfold spec_NumbersOfWalk.f
      refine Ev.bind (two_no t hl) ?_
      simp only [Bool.false_eq_true, if_false]
      exact noS
    · unfold impl_NumbersOfWalk.f
      refine Ev.bind (graphOf_not t hl) ?_
      simp only [Bool.false_eq_true, if_false]
      exact Ev.now _
theorem FnExactNumbersOfWalk : FnExactNumbersOfWalkSaid := by
  intro a0_0 a0_1 l0_2 a1_0 a1_1 l2 _ _ hlen_l0_2 _ _ _ hlen_l2 _
  by_cases hb_l2 : (l2.length : Int) > 1048576
  · refine ⟨0, ?_⟩
    simp [laws_FnExactNumbersOfWalk.f, hb_l2]
  have hs_l2 : l2.length ≤ 1048576 := by omega
  by_cases hb_l0_2 : 1048576 < l0_2.length
  · refine ⟨0, ?_⟩
    simp [laws_FnExactNumbersOfWalk.f, szBoard_big a0_0 a0_1 l0_2 hb_l0_2 hlen_l0_2, hb_l2]
  have hs_l0_2 : l0_2.length ≤ 1048576 := by omega
  obtain ⟨r, b, hr, hs, hi⟩ := numbersOfWalk_both a0_0 a0_1 l0_2 a1_0 a1_1 l2 hs_l0_2 hs_l2
  refine rounds_of ?_
  have n0 : ¬ (1048576 - (l0_2.length : Int) < 0) := by omega
  have n1 : ¬ (1 + (l0_2.length : Int) < 0) := by omega
  have n2 : ¬ (1 + (l2.length : Int) < 0) := by omega
  have n12 : ¬ (1 + (l0_2.length : Int) + (l2.length : Int) < 0) := by omega
  have nr : ¬ (1 + (r.length : Int) < 0) := by omega
  unfold laws_FnExactNumbersOfWalk.f
  repeat (first
    | exact Ev.now _
    | refine Ev.bind (toBoard_ev _ _ _ (by assumption)) ?_
    | refine Ev.bind (eqBoard_ev _ _ _ (by assumption)) ?_
    | refine Ev.bind (markBoard_ev _ _ _ (by assumption)) ?_
    | refine Ev.bind (toIntS_ev _ (by assumption)) ?_
    | refine Ev.bind (eqIntS_ev _ (by assumption)) ?_
    | refine Ev.bind (markIntS_ev _ (by assumption)) ?_
    | refine Ev.bind (heldIntS_ev _ (by assumption)) ?_
    | refine Ev.bind (markIntS_any _ _ (by assumption) (by omega)) ?_
    | refine Ev.bind hs ?_
    | refine Ev.bind hi ?_
    | simp only [Option.bind_some, if_true, if_false, bne_self_eq_false, Bool.false_eq_true, ne_eq, not_true_eq_false, not_false_eq_true, hb_l2, szBoard_fit _ _ _ hs_l0_2, laws_toLeaper.f, n0, n1, n2, n12, nr]
    | (refine Ev.step (fun k => by rw [laws_FnExactNumbersOfWalk.j0]) ?_)
    | (refine Ev.step (fun k => by rw [laws_FnExactNumbersOfWalk.j1]) ?_)
    | (refine Ev.step (fun k => by rw [laws_FnExactNumbersOfWalk.j2]) ?_))
end Go.Proofs.Ythoklbeenjppbaa.Pure

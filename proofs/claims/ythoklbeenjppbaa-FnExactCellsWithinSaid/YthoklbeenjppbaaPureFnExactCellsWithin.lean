/- CellsWithin: the program and the reference tell the same list of cells, so the law's function answers true for all arguments. -/
import Derived.Test.YthoklbeenjppbaaStateFnExactCellsWithin
import Derived.Test.YthoklbeenjppbaaHFar
import Derived.Test.YthoklbeenjppbaaQ46
namespace Go.Proofs.Ythoklbeenjppbaa.Pure
open Go.RowKit Go.IntWalk Go.Proofs.Ythoklbeenjppbaa.Q Go.Proofs.Ythoklbeenjppbaa.H Go.Proofs.YthoklbeenjppbaaW.PrintWords Go.Proofs.YthoklbeenjppbaaW.PrintMore
set_option linter.unusedVariables false
set_option linter.unusedSimpArgs false
def withinM (n : Int) : Int → List Int → List Int
  | _, [] => []
  | i, x :: r => if 0 ≤ x ∧ x ≤ n then i :: withinM n (i + 1) r else withinM n (i + 1) r
theorem withinM_length (n : Int) (l : List Int) : ∀ i, (withinM n i l).length ≤ l.length := by
  induction l with
  | nil => intro i; simp [withinM]
  | cons x r ih => intro i; rw [withinM]; have := ih (i + 1); split <;> simp <;> omega
theorem specWithin_loop (n : Int) (rest pre acc : List Int) (hp : (pre ++ rest).length ≤ 1000) (ha : acc.length ≤ pre.length) :
    Ev (fun k => spec_CellsWithin.l0 k n acc (pre ++ rest) ((pre ++ rest).length : Int) (pre.length : Int)) (acc ++ withinM n (pre.length : Int) rest, true) := by
  induction rest generalizing pre acc with
  | nil =>
    refine Ev.step (fun k => by rw [spec_CellsWithin.l0]) ?_
    simp only [List.append_nil, nlt_end, if_false, withinM]
    exact Ev.now _
  | cons x r ih =>
    refine Ev.step (fun k => by rw [spec_CellsWithin.l0]) ?_
    have h0 : (0 : Int) ≤ (pre.length : Int) := by omega
    have h5 : pre.length ≤ 1000 := by simp at hp; omega
    have h6 : acc.length < 17592186044416 := by omega
    simp only [lt_mid pre x r, h0, if_true, rd_mid, l1In_eq, Option.bind_some, w_succ (show pre.length ≤ 4611686018427387904 by omega), withinM]
    by_cases c : 0 ≤ x ∧ x ≤ n
    · have c' : (decide (0 ≤ x) && decide (x ≤ n)) = true := by simp [c]
      simp only [c, c', and_self, if_true, h6]
      have := ih (pre ++ [x]) (acc ++ [(pre.length : Int)]) (by simpa using hp) (by simp; omega)
      simpa using this
    · have c' : (decide (0 ≤ x) && decide (x ≤ n)) = false := by simp only [Bool.and_eq_false_iff, decide_eq_false_iff_not]; omega
      simp only [c, c', if_false, Bool.false_eq_true]
      have := ih (pre ++ [x]) acc (by simpa using hp) (by simp; omega)
      simpa using this
theorem implWithin_loop (n : Int) (rest pre acc : List Int) (hp : (pre ++ rest).length ≤ 1000) (ha : acc.length ≤ pre.length) :
    Ev (fun k => impl_CellsWithin.l0 k n acc (pre ++ rest) ((pre ++ rest).length : Int) (pre.length : Int)) (acc ++ withinM n (pre.length : Int) rest, true) := by
  induction rest generalizing pre acc with
  | nil =>
    refine Ev.step (fun k => by rw [impl_CellsWithin.l0]) ?_
    simp only [List.append_nil, nlt_end, if_false, withinM]
    exact Ev.now _
  | cons x r ih =>
    refine Ev.step (fun k => by rw [impl_CellsWithin.l0]) ?_
    have h0 : (0 : Int) ≤ (pre.length : Int) := by omega
    have h5 : pre.length ≤ 1000 := by simp at hp; omega
    have h6 : acc.length < 17592186044416 := by omega
    simp only [lt_mid pre x r, h0, if_true, rd_mid, w_succ (show pre.length ≤ 4611686018427387904 by omega), withinM]
    have no : Ev (fun k => impl_CellsWithin.l0 k n acc (pre ++ x :: r) ((pre ++ x :: r).length : Int) ((pre.length + 1 : Nat) : Int)) (acc ++ withinM n ((pre.length : Int) + 1) r, true) := by
      have := ih (pre ++ [x]) acc (by simpa using hp) (by simp; omega)
      simpa using this
    by_cases c1 : x ≥ 0
    · by_cases c2 : x ≤ n
      · have c : 0 ≤ x ∧ x ≤ n := ⟨c1, c2⟩
        simp only [c, c1, c2, and_self, if_true, h6]
        have := ih (pre ++ [x]) (acc ++ [(pre.length : Int)]) (by simpa using hp) (by simp; omega)
        simpa using this
      · simp only [c1, c2, if_true, if_false, and_false]
        exact no
    · have c3 : ¬ (0 ≤ x ∧ x ≤ n) := fun h => c1 h.1
      rw [if_neg c3]
      simp only [c1, if_false]
      exact no
theorem cellsWithin_both (W H : Int) (L : List Int) (A B x n : Int) (hl : L.length ≤ 1048576) : ∃ (r : List Int) (b : Bool), r.length ≤ 1048576 ∧ Ev (fun k => spec_CellsWithin.f k W H L A B x n) (r, b) ∧ Ev (fun k => impl_CellsWithin.f k W H L A B x n) (r, b) := by
  have noS : Ev (fun k => spec_CellsWithin.j0 k x n true W H L A B) (([] : List Int), false) := by
    refine Ev.step (fun k => by rw [spec_CellsWithin.j0]) ?_
    simp only [if_true]
    exact Ev.now _
  have noI : Ev (fun k => impl_CellsWithin.j0 k x n true W H L A B (cellsM W H L) (nearM W H L A B)) (([] : List Int), false) := by
    refine Ev.step (fun k => by rw [impl_CellsWithin.j0]) ?_
    simp only [if_true]
    exact Ev.now _
  by_cases t : AskM W H L A B x x
  · have g := t.1.1
    have ha := g.area
    have hx := has_range t.2.1
    have hf := farM_keep (A := A) (B := B) g hx
    by_cases hn : 0 ≤ n ∧ n ≤ 12
    · have h1 : (decide (0 ≤ n) && decide (n ≤ 12)) = true := by simp [hn]
      have h2 : ¬ n < 0 := by omega
      have h3 : decide (n > 12) = false := by simp; omega
      refine ⟨withinM n 0 (farM W H L A B x), true, by have := withinM_length n (farM W H L A B x) 0; omega, ?_, ?_⟩
      · unfold spec_CellsWithin.f
        refine Ev.bind (faAsked_yes t hl) ?_
        simp only [if_true, l1In_eq, Option.bind_some, h1, Bool.not_true]
        refine Ev.step (fun k => by rw [spec_CellsWithin.j0]) ?_
        simp only [Bool.false_eq_true, if_false]
        refine Ev.bind (faFrom_ev g hl x hx) ?_
        have := specWithin_loop n (farM W H L A B x) [] [] (by simp; omega) (by simp)
        simpa using this
      · unfold impl_CellsWithin.f
        refine Ev.bind (implTwo_yes t hl) ?_
        simp only [if_true, h2, h3, if_false]
        refine Ev.step (fun k => by rw [impl_CellsWithin.j0]) ?_
        simp only [Bool.false_eq_true, if_false]
        refine Ev.bind (far_ev g x t.2.1) ?_
        have := implWithin_loop n (farM W H L A B x) [] [] (by simp; omega) (by simp)
        simpa using this
    · have h1 : (decide (0 ≤ n) && decide (n ≤ 12)) = false := by simp only [Bool.and_eq_false_iff, decide_eq_false_iff_not]; omega
      refine ⟨[], false, by simp, ?_, ?_⟩
      · unfold spec_CellsWithin.f
        refine Ev.bind (faAsked_yes t hl) ?_
        simp only [if_true, l1In_eq, Option.bind_some, h1, Bool.not_false]
        exact noS
      · unfold impl_CellsWithin.f
        refine Ev.bind (implTwo_yes t hl) ?_
        simp only [if_true]
        by_cases h2 : n < 0
        · simp only [h2, if_true]
          exact noI
        · have h3 : decide (n > 12) = true := by simp; omega
          simp only [h2, h3, if_false]
          exact noI
  · refine ⟨[], false, by simp, ?_, ?_⟩
    · unfold spec_CellsWithin.f
      refine Ev.bind (faAsked_no t hl) ?_
      simp only [Bool.false_eq_true, if_false]
      exact noS
    · unfold impl_CellsWithin.f
      refine Ev.bind (implTwo_no t hl) ?_
      simp only [Bool.false_eq_true, if_false]
      exact Ev.now _
theorem FnExactCellsWithin : FnExactCellsWithinSaid := by
  intro a0_0 a0_1 l0_2 a1_0 a1_1 a2 a3 _ _ hlen_l0_2 _ _ _ _ _
  by_cases hb_l0_2 : 1048576 < l0_2.length
  · refine ⟨0, ?_⟩
    simp [laws_FnExactCellsWithin.f, szBoard_big a0_0 a0_1 l0_2 hb_l0_2 hlen_l0_2]
  have hs_l0_2 : l0_2.length ≤ 1048576 := by omega
  obtain ⟨r, b, hr, hs, hi⟩ := cellsWithin_both a0_0 a0_1 l0_2 a1_0 a1_1 a2 a3 hs_l0_2
  refine rounds_of ?_
  have n0 : ¬ (1048576 - (l0_2.length : Int) < 0) := by omega
  have n1 : ¬ (1 + (l0_2.length : Int) < 0) := by omega
  have nr : ¬ (1 + (r.length : Int) < 0) := by omega
  unfold laws_FnExactCellsWithin.f
  repeat (first
    | exact Ev.now _
    | refine Ev.bind (toBoard_ev _ _ _ (by assumption)) ?_
    | refine Ev.bind (eqBoard_ev _ _ _ (by assumption)) ?_
    | refine Ev.bind (markBoard_ev _ _ _ (by assumption)) ?_
    | refine Ev.bind (toIntS_ev _ (by assumption)) ?_
    | refine Ev.bind (eqIntS_ev _ (by assumption)) ?_
    | refine Ev.bind (markIntS_ev _ (by assumption)) ?_
    | refine Ev.bind (heldIntS_ev _ (by assumption)) ?_
    | refine Ev.bind (markIntS_any _ _ (by assumption) (by omega)) ?_
    | refine Ev.bind hs ?_
    | refine Ev.bind hi ?_
    | simp only [Option.bind_some, if_true, if_false, bne_self_eq_false, Bool.false_eq_true, ne_eq, not_true_eq_false, not_false_eq_true, szBoard_fit _ _ _ hs_l0_2, laws_toLeaper.f, n0, n1, nr]
    | (refine Ev.step (fun k => by rw [laws_FnExactCellsWithin.j0]) ?_)
    | (refine Ev.step (fun k => by rw [laws_FnExactCellsWithin.j1]) ?_)
    | (refine Ev.step (fun k => by rw [laws_FnExactCellsWithin.j2]) ?_))
end Go.Proofs.Ythoklbeenjppbaa.Pure

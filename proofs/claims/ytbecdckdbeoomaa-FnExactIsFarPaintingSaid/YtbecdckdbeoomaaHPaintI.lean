/- Colours of cells and paintings: the reference's tests and the program's are the same. -/
import Derived.Test.YtbecdckdbeoomaaHPairsI
import Derived.Test.YtbecdckdbeoomaaQ27
import Derived.Test.YtbecdckdbeoomaaQ28
import Derived.Test.YtbecdckdbeoomaaQ29
namespace Go.Proofs.Ytbecdckdbeoomaa.H
open Go.RowKit Go.IntWalk Go.Proofs.Ytbecdckdbeoomaa.Q Go.Proofs.YtbecdckdbeoomaaW.PrintWords Go.Proofs.YtbecdckdbeoomaaW.PrintMore
set_option linter.unusedVariables false
set_option linter.unusedSimpArgs false
def colOk (W H : Int) (L : List Int) (i x : Int) : Bool := if hasB W H L i = true then decide (0 ≤ x) && decide (x ≤ 8) else decide (x = -1)
def colsR (W H : Int) (L : List Int) : Int → List Int → Bool
  | _, [] => true
  | i, x :: r => colOk W H L i x && colsR W H L (i + 1) r
def colsB (W H : Int) (L col : List Int) : Bool := decide ((col.length : Int) = W * H) && colsR W H L 0 col
section
variable {W H : Int} {L : List Int} {A B : Int}
theorem paGood_loop (g : BoardM W H L) (hl : L.length ≤ 1048576) (rest pre : List Int) (hp : (pre ++ rest).length ≤ 64) :
    Ev (fun k => spec_paGood.l0 k (pre ++ rest) ((pre ++ rest).length : Int) (pre.length : Int) W H L) (colsR W H L (pre.length : Int) rest) := by
  induction rest generalizing pre with
  | nil =>
    refine Ev.step (fun k => by rw [spec_paGood.l0]) ?_
    simp only [List.append_nil, nlt_end, if_false, colsR]
    exact Ev.now _
  | cons x r ih =>
    refine Ev.step (fun k => by rw [spec_paGood.l0]) ?_
    have h0 : (0 : Int) ≤ (pre.length : Int) := by omega
    have h5 : pre.length ≤ 64 := by simp at hp; omega
    have go : Ev (fun k => spec_paGood.l0 k (pre ++ x :: r) ((pre ++ x :: r).length : Int) ((pre.length + 1 : Nat) : Int) W H L) (colsR W H L ((pre.length : Int) + 1) r) := by
      have := ih (pre ++ [x]) (by simpa using hp)
      simpa using this
    simp only [lt_mid pre x r, h0, if_true, rd_mid, w_succ (show pre.length ≤ 4611686018427387904 by omega), colsR, l1In_eq, Option.bind_some]
    refine Ev.bind (boHas_ev g (pre.length : Int) hl) ?_
    rcases Bool.eq_false_or_eq_true (hasB W H L (pre.length : Int)) with hh | hh
    · rcases Bool.eq_false_or_eq_true (decide (0 ≤ x) && decide (x ≤ 8)) with hx | hx
      · have e : colOk W H L (pre.length : Int) x = true := by unfold colOk; rw [if_pos hh, hx]
        simp only [hh, hx, e, bne_self_eq_false, Bool.false_eq_true, if_false, Bool.true_and]
        refine Ev.bind (boHas_ev g (pre.length : Int) hl) ?_
        simp only [hh, if_true]
        exact go
      · have e : colOk W H L (pre.length : Int) x = false := by unfold colOk; rw [if_pos hh, hx]
        have e2 : ((true != false) = true) = True := by simp
        simp only [hh, hx, e, e2, if_true, Bool.false_and]
        exact Ev.now _
    · rcases Bool.eq_false_or_eq_true (decide (0 ≤ x) && decide (x ≤ 8)) with hx | hx
      · have hx' : ¬ x = -1 := by simp at hx; omega
        have e : colOk W H L (pre.length : Int) x = false := by unfold colOk; rw [hh]; simp [hx']
        have e2 : ((false != true) = true) = True := by simp
        simp only [hh, hx, e, e2, if_true, Bool.false_and]
        exact Ev.now _
      · simp only [hh, hx, bne_self_eq_false, Bool.false_eq_true, if_false]
        refine Ev.bind (boHas_ev g (pre.length : Int) hl) ?_
        simp only [hh, Bool.false_eq_true, if_false]
        by_cases c : x = -1
        · have e : colOk W H L (pre.length : Int) x = true := by unfold colOk; rw [hh]; simp [c]
          simp only [e, Bool.true_and]
          simp only [if_pos c]
          exact go
        · have e : colOk W H L (pre.length : Int) x = false := by unfold colOk; rw [hh]; simp [c]
          simp only [e, Bool.false_and]
          simp only [if_neg c]
          exact Ev.now _
theorem coloured_loop (g : BoardM W H L) (hl : L.length ≤ 1048576) (rest pre : List Int) (hp : (pre ++ rest).length ≤ 64) :
    Ev (fun k => impl_Board_coloured.l0 k (pre ++ rest) ((pre ++ rest).length : Int) (pre.length : Int) W H L) (colsR W H L (pre.length : Int) rest) := by
  induction rest generalizing pre with
  | nil =>
    refine Ev.step (fun k => by rw [impl_Board_coloured.l0]) ?_
    simp only [List.append_nil, nlt_end, if_false, colsR]
    exact Ev.now _
  | cons x r ih =>
    refine Ev.step (fun k => by rw [impl_Board_coloured.l0]) ?_
    have h0 : (0 : Int) ≤ (pre.length : Int) := by omega
    have h5 : pre.length ≤ 64 := by simp at hp; omega
    have go : Ev (fun k => impl_Board_coloured.l0 k (pre ++ x :: r) ((pre ++ x :: r).length : Int) ((pre.length + 1 : Nat) : Int) W H L) (colsR W H L ((pre.length : Int) + 1) r) := by
      have := ih (pre ++ [x]) (by simpa using hp)
      simpa using this
    simp only [lt_mid pre x r, h0, if_true, rd_mid, w_succ (show pre.length ≤ 4611686018427387904 by omega), colsR]
    refine Ev.bind (has_ev g (pre.length : Int) hl) ?_
    rcases Bool.eq_false_or_eq_true (hasB W H L (pre.length : Int)) with hh | hh
    · simp only [hh, if_true]
      by_cases c1 : x < 0
      · have e : colOk W H L (pre.length : Int) x = false := by unfold colOk; rw [if_pos hh]; simp; omega
        simp only [if_pos c1]
        simp only [e, Bool.false_and]
        exact Ev.now _
      · simp only [if_neg c1]
        by_cases c2 : x ≥ 9
        · have e : colOk W H L (pre.length : Int) x = false := by unfold colOk; rw [if_pos hh]; simp; omega
          simp only [if_pos c2]
          simp only [e, Bool.false_and]
          exact Ev.now _
        · have e : colOk W H L (pre.length : Int) x = true := by unfold colOk; rw [if_pos hh]; simp; omega
          simp only [if_neg c2]
          simp only [e, Bool.true_and]
          refine Ev.bind (has_ev g (pre.length : Int) hl) ?_
          simp only [hh, if_true]
          exact go
    · simp only [hh, Bool.false_eq_true, if_false]
      refine Ev.bind (has_ev g (pre.length : Int) hl) ?_
      simp only [hh, Bool.false_eq_true, if_false]
      by_cases c : x = -1
      · have e : colOk W H L (pre.length : Int) x = true := by unfold colOk; rw [hh]; simp [c]
        simp only [e, Bool.true_and]
        simp only [if_pos c]
        exact go
      · have e : colOk W H L (pre.length : Int) x = false := by unfold colOk; rw [hh]; simp [c]
        simp only [e, Bool.false_and]
        simp only [if_neg c]
        exact Ev.now _
theorem paGood_ev (g : BoardM W H L) (hl : L.length ≤ 1048576) (col : List Int) : Ev (fun k => spec_paGood.f k W H L col) (colsB W H L col) := by
  have ha := g.area
  unfold spec_paGood.f colsB
  by_cases c : (col.length : Int) = W * H
  · simp only [g.wrapArea, c, if_true, decide_true, Bool.true_and]
    have := paGood_loop g hl col [] (by simp; omega)
    rw [← c]
    simpa using this
  · simp only [g.wrapArea, c, if_false, decide_false, Bool.false_and]
    exact Ev.now _
theorem coloured_ev (g : BoardM W H L) (hl : L.length ≤ 1048576) (col : List Int) : Ev (fun k => impl_Board_coloured.f k W H L col) (colsB W H L col) := by
  have ha := g.area
  unfold impl_Board_coloured.f colsB
  by_cases c : (col.length : Int) = W * H
  · simp only [g.wrapArea, c, if_true, decide_true, Bool.true_and]
    have := coloured_loop g hl col [] (by simp; omega)
    rw [← c]
    simpa using this
  · simp only [g.wrapArea, c, if_false, decide_false, Bool.false_and]
    exact Ev.now _
def paintB (W H : Int) (L : List Int) (A B : Int) (col : List Int) : Bool := (pairsM W H L A B (cellsM W H L)).all fun p => !decide (rd col (rd p 0) = rd col (rd p 1))
theorem isPainting_loop (col : List Int) (hc : (col.length : Int) = W * H) (rest pre : List (List Int)) (hr : ∀ p ∈ rest, ∃ c d : Int, p = [c, d] ∧ (0 ≤ c ∧ c < W * H) ∧ (0 ≤ d ∧ d < W * H)) (hp : (pre ++ rest).length ≤ 4096) :
    Ev (fun k => impl_graph_isPainting.l0 k col (pre ++ rest) ((pre ++ rest).length : Int) (pre.length : Int)) (rest.all fun p => !decide (rd col (rd p 0) = rd col (rd p 1))) := by
  induction rest generalizing pre with
  | nil =>
    refine Ev.step (fun k => by rw [impl_graph_isPainting.l0]) ?_
    simp only [List.append_nil, nlt_end, if_false, List.all_nil]
    exact Ev.now _
  | cons p r ih =>
    refine Ev.step (fun k => by rw [impl_graph_isPainting.l0]) ?_
    obtain ⟨c, d, rfl, h1, h2⟩ := hr p (by simp)
    have h0 : (0 : Int) ≤ (pre.length : Int) := by omega
    have h5 : pre.length ≤ 4096 := by simp at hp; omega
    have e : rd_L1 (pre ++ [c, d] :: r) (pre.length : Int) = [c, d] := by simp [rd_L1]
    have e0 : rd [c, d] 0 = c := rfl
    have e1 : rd [c, d] 1 = d := rfl
    have l0 : (0 : Int) < (([c, d] : List Int).length : Int) := by simp
    have l1 : (1 : Int) < (([c, d] : List Int).length : Int) := by simp
    have m1 : c < (col.length : Int) := by omega
    have m2 : d < (col.length : Int) := by omega
    simp only [lt_mid pre [c, d] r, h0, if_true, e, e0, e1, l0, l1, h1.1, h2.1, m1, m2, w_succ (show pre.length ≤ 4611686018427387904 by omega), List.all_cons]
    by_cases x : rd col c = rd col d
    · simp only [x, if_true, decide_true, Bool.not_true, Bool.false_and]
      exact Ev.now _
    · simp only [x, if_false, decide_false, Bool.not_false, Bool.true_and]
      have := ih (pre ++ [[c, d]]) (fun y hy => hr y (by simp [hy])) (by simpa using hp)
      simpa using this
theorem isPainting_ev (g : BoardM W H L) (hl : L.length ≤ 1048576) (col : List Int) : Ev (fun k => impl_graph_isPainting.f k W H L A B (cellsM W H L) (nearM W H L A B) col) (colsB W H L col && paintB W H L A B col) := by
  unfold impl_graph_isPainting.f
  refine Ev.bind (coloured_ev g hl col) ?_
  rcases Bool.eq_false_or_eq_true (colsB W H L col) with hx | hx
  · have hc : (col.length : Int) = W * H := by
      unfold colsB at hx
      simp only [Bool.and_eq_true, decide_eq_true_eq] at hx
      exact hx.1
    simp only [hx, if_true, Bool.true_and]
    refine Ev.bind (pairs_ev g) ?_
    have := isPainting_loop (W := W) (H := H) col hc (pairsM W H L A B (cellsM W H L)) [] (fun p hp => by
      obtain ⟨c, d, rfl, h1, h2, _⟩ := (mem_pairsM p).1 hp
      exact ⟨c, d, rfl, has_range h1, has_range h2⟩) (by simpa using pairsM_length g)
    simpa [paintB] using this
  · simp only [hx, Bool.false_eq_true, if_false, Bool.false_and]
    exact Ev.now _
end
end Go.Proofs.Ytbecdckdbeoomaa.H

/- The plain law of FnBoardsTurnedOfAll: for all boards, cells, names and sizes the printed law's function answers true after some number of rounds. -/
import Derived.Test.YtmfbhhicioepjaaHLaw
import Derived.IntWalk
import Derived.Test.YtmfbhhicioepjaaHSort
import Derived.Test.YtmfbhhicioepjaaHTurn
import Derived.Test.YtmfbhhicioepjaaStateFnBoardsTurnedOfAll
import Derived.Test.YtmfbhhicioepjaaQ6
import Derived.Test.YtmfbhhicioepjaaQ7
import Derived.Test.YtmfbhhicioepjaaQ8
import Derived.Test.YtmfbhhicioepjaaQ9
import Derived.Test.YtmfbhhicioepjaaQ10
import Derived.Test.YtmfbhhicioepjaaQ12
import Derived.Test.YtmfbhhicioepjaaQ11
namespace Go.Proofs.Ytmfbhhicioepjaa.H
open Go.RowKit Go.IntWalk Go.Proofs.Ytmfbhhicioepjaa.Q Go.Proofs.YtmfbhhicioepjaaW.PrintWords Go.Proofs.YtmfbhhicioepjaaW.PrintMore
set_option linter.unusedVariables false
set_option linter.unusedSimpArgs false

/-! ### Words of lists and numbers -/
theorem rd_mid (pre : List Int) (x : Int) (r : List Int) : rd (pre ++ x :: r) (pre.length : Int) = x := by simp [rd]
theorem lt_mid {α : Type} (pre : List α) (x : α) (r : List α) : (pre.length : Int) < ((pre ++ x :: r).length : Int) := by simp; omega
theorem nlt_end {α : Type} (pre : List α) : ¬ ((pre.length : Int) < (pre.length : Int)) := by omega
theorem w_succ {n : Nat} (h : n ≤ 4611686018427387904) : wrap64 ((n : Int) + 1) = ((n + 1 : Nat) : Int) := by rw [wrap64_in _ (by omega)]; omega
theorem rd_nat (l : List Int) (i : Nat) (h : i < l.length) : rd l (i : Int) = l[i] := by simp [rd, List.getD_eq_getElem?_getD, List.getElem?_eq_getElem h]

/-! ### The law's own functions -/
/-! ### Boards, leapers, cells -/
def hasB (W H : Int) (L : List Int) (c : Int) : Bool := decide (0 ≤ c) && decide (c < W * H) && !L.contains c
def BoardM (W H : Int) (L : List Int) : Prop := 1 ≤ W ∧ W ≤ 8 ∧ 1 ≤ H ∧ H ≤ 8 ∧ (L.length : Int) < W * H ∧ (∀ x ∈ L, 0 ≤ x ∧ x < W * H) ∧ L.Pairwise (· < ·)
def cellsM (W H : Int) (L : List Int) : List Int := ((List.range (W * H).toNat).map Int.ofNat).filter (hasB W H L)
theorem BoardM.area {W H : Int} {L : List Int} (g : BoardM W H L) : 1 ≤ W * H ∧ W * H ≤ 64 := by
  obtain ⟨h1, h2, h3, h4, _⟩ := g
  constructor
  · have := Int.mul_le_mul h1 h3 (by omega) (by omega); omega
  · have := Int.mul_le_mul h2 h4 (by omega) (by omega); omega
theorem BoardM.wrapArea {W H : Int} {L : List Int} (g : BoardM W H L) : wrap64 (W * H) = W * H := wrap64_in _ (by have := g.area; omega)
theorem mem_cellsM {W H : Int} {L : List Int} {c : Int} : c ∈ cellsM W H L ↔ hasB W H L c = true := by
  unfold cellsM
  rw [List.mem_filter]
  constructor
  · exact fun h => h.2
  · intro h
    refine ⟨?_, h⟩
    have h' := h
    simp only [hasB, Bool.and_eq_true, decide_eq_true_eq] at h'
    refine List.mem_map.2 ⟨c.toNat, List.mem_range.2 (by omega), ?_⟩
    show ((c.toNat : Nat) : Int) = c
    omega
theorem cellsM_length {W H : Int} {L : List Int} (g : BoardM W H L) : (cellsM W H L).length ≤ 64 := by
  unfold cellsM
  refine Nat.le_trans (List.length_filter_le _ _) ?_
  have := g.area
  simp; omega
theorem has_range {W H : Int} {L : List Int} {c : Int} (h : hasB W H L c = true) : 0 ≤ c ∧ c < W * H := by
  simp only [hasB, Bool.and_eq_true, decide_eq_true_eq] at h
  exact h.1
/-! ### What the reference's first functions tell -/
theorem l1In_eq (n lo hi : Int) : spec_l1In.f n lo hi = some (decide (lo ≤ n) && decide (n ≤ hi)) := by
  unfold spec_l1In.f
  split <;> rename_i h
  · have : lo ≤ n := h
    simp [this]
  · have : ¬ lo ≤ n := h
    simp [this]
theorem l1Has_loop (c : Int) (rest pre : List Int) (hl : (pre ++ rest).length ≤ 4611686018427387904) : Ev (fun k => spec_l1Has.l0 k c (pre ++ rest) ((pre ++ rest).length : Int) (pre.length : Int)) (rest.contains c) := by
  induction rest generalizing pre with
  | nil =>
    refine Ev.step (fun k => by rw [spec_l1Has.l0]) ?_
    simp only [List.append_nil, nlt_end, if_false]
    exact Ev.now _
  | cons x r ih =>
    refine Ev.step (fun k => by rw [spec_l1Has.l0]) ?_
    have h4 : (0 : Int) ≤ (pre.length : Int) := by omega
    have h5 : pre.length ≤ 4611686018427387904 := by simp at hl; omega
    simp only [lt_mid pre x r, h4, if_true, rd_mid, w_succ h5]
    by_cases hx : x = c
    · simp only [hx, if_true, List.contains_cons, beq_self_eq_true, Bool.true_or]
      exact Ev.now _
    · have := ih (pre ++ [x]) (by simpa using hl)
      have hx' : ¬ c = x := fun h => hx h.symm
      simp only [hx, if_false]
      simpa [hx'] using this
theorem l1Has_ev (l : List Int) (c : Int) (hl : l.length ≤ 4611686018427387904) : Ev (fun k => spec_l1Has.f k l c) (l.contains c) := by
  unfold spec_l1Has.f
  simpa using l1Has_loop c l [] (by simpa using hl)
theorem l1All_loop (lo hi : Int) (rest pre : List Int) (hl : (pre ++ rest).length ≤ 4611686018427387904) : Ev (fun k => spec_l1All.l0 k lo hi (pre ++ rest) ((pre ++ rest).length : Int) (pre.length : Int)) (rest.all fun n => decide (lo ≤ n) && decide (n ≤ hi)) := by
  induction rest generalizing pre with
  | nil =>
    refine Ev.step (fun k => by rw [spec_l1All.l0]) ?_
    simp only [List.append_nil, nlt_end, if_false]
    exact Ev.now _
  | cons x r ih =>
    refine Ev.step (fun k => by rw [spec_l1All.l0]) ?_
    have h4 : (0 : Int) ≤ (pre.length : Int) := by omega
    have h5 : pre.length ≤ 4611686018427387904 := by simp at hl; omega
    simp only [lt_mid pre x r, h4, if_true, rd_mid, w_succ h5, l1In_eq, Option.bind_some, List.all_cons]
    cases hx : (decide (lo ≤ x) && decide (x ≤ hi)) with
    | false => simp only [Bool.false_eq_true, if_false, Bool.false_and]; exact Ev.now _
    | true =>
      have := ih (pre ++ [x]) (by simpa using hl)
      simp only [if_true, Bool.true_and]
      simpa using this
theorem l1All_ev (l : List Int) (lo hi : Int) (hl : l.length ≤ 4611686018427387904) : Ev (fun k => spec_l1All.f k l lo hi) (l.all fun n => decide (lo ≤ n) && decide (n ≤ hi)) := by
  unfold spec_l1All.f
  simpa using l1All_loop lo hi l [] (by simpa using hl)
theorem boHas_ev {W H : Int} {L : List Int} (g : BoardM W H L) (c : Int) (hl : L.length ≤ 1048576) : Ev (fun k => spec_boHas.f k W H L c) (hasB W H L c) := by
  have ha := g.area
  have e : wrap64 (W * H - 1) = W * H - 1 := wrap64_in _ (by omega)
  simp only [spec_boHas.f, g.wrapArea, e, l1In_eq, Option.bind_some]
  by_cases h : 0 ≤ c ∧ c ≤ W * H - 1
  · have h1 : (decide (0 ≤ c) && decide (c ≤ W * H - 1)) = true := by simp [h]
    have h2 : c < W * H := by omega
    simp only [h1, if_true]
    refine Ev.bind (l1Has_ev L c (by omega)) ?_
    have : hasB W H L c = !L.contains c := by simp [hasB, h.1, h2]
    rw [this]
    exact Ev.now _
  · have h1 : (decide (0 ≤ c) && decide (c ≤ W * H - 1)) = false := by simp; omega
    have h2 : hasB W H L c = false := by
      simp only [hasB, Bool.and_eq_false_iff, decide_eq_false_iff_not]
      omega
    simp only [h1, Bool.false_eq_true, if_false, h2]
    exact Ev.now _
open Classical in
theorem rising_loop (W H : Int) (L : List Int) (hl : L.length ≤ 4611686018427387904) : ∀ (n i : Nat), n + i = L.length → 1 ≤ i → Ev (fun k => spec_boGood.l0 k (i : Int) W H L) (decide (∀ j, i ≤ j → ∀ h : j < L.length, L[j - 1] < L[j])) := by
  intro n
  induction n with
  | zero =>
    intro i h1 h2
    refine Ev.step (fun k => by rw [spec_boGood.l0]) ?_
    have h3 : ¬ ((i : Int) < (L.length : Int)) := by omega
    have h4 : (∀ j, i ≤ j → ∀ h : j < L.length, L[j - 1] < L[j]) = True := by
      refine eq_true (fun j hj h => ?_)
      omega
    simp only [h3, if_false, h4, decide_true]
    exact Ev.now _
  | succ n ih =>
    intro i h1 h2
    refine Ev.step (fun k => by rw [spec_boGood.l0]) ?_
    have h3 : (i : Int) < (L.length : Int) := by omega
    have h4 : wrap64 ((i : Int) - 1) = ((i - 1 : Nat) : Int) := by rw [wrap64_in _ (by omega)]; omega
    have h5 : (0 : Int) ≤ ((i - 1 : Nat) : Int) := by omega
    have h6 : ((i - 1 : Nat) : Int) < (L.length : Int) := by omega
    have h7 : (0 : Int) ≤ (i : Int) := by omega
    simp only [h3, h4, h5, h6, h7, if_true, rd_nat L (i - 1) (by omega), rd_nat L i (by omega), w_succ (show i ≤ 4611686018427387904 by omega)]
    by_cases hx : L[i - 1] ≥ L[i]
    · have h8 : decide (∀ j, i ≤ j → ∀ h : j < L.length, L[j - 1] < L[j]) = false := by
        rw [decide_eq_false_iff_not]
        intro h
        have := h i (by omega) (by omega)
        omega
      simp only [hx, if_true, h8]
      exact Ev.now _
    · have h8 : (∀ j, i ≤ j → ∀ h : j < L.length, L[j - 1] < L[j]) = (∀ j, i + 1 ≤ j → ∀ h : j < L.length, L[j - 1] < L[j]) := by
        rw [eq_iff_iff]
        constructor
        · intro h j hj; exact h j (by omega)
        · intro h j hj hjl
          rcases Nat.lt_or_ge i j with h9 | h9
          · exact h j (by omega) hjl
          · obtain rfl : j = i := by omega
            omega
      simp only [hx, if_false, h8]
      exact ih (i + 1) (by omega) (by omega)
theorem pairwise_iff (L : List Int) : L.Pairwise (· < ·) ↔ ∀ j, 1 ≤ j → ∀ h : j < L.length, L[j - 1] < L[j] := by
  constructor
  · intro h j hj hl
    exact List.pairwise_iff_getElem.1 h (j - 1) j (by omega) hl (by omega)
  · intro h
    rw [List.pairwise_iff_getElem]
    intro i j hi hj hij
    have : ∀ d, ∀ (hd : i + d + 1 < L.length), L[i] < L[i + d + 1] := by
      intro d
      induction d with
      | zero => intro hd; have := h (i + 0 + 1) (by omega) hd; simpa using this
      | succ d ih => intro hd; have h1 := ih (by omega); have h2 := h (i + (d + 1) + 1) (by omega) hd; simp at h2; exact Int.lt_trans h1 h2
    have := this (j - i - 1) (by omega)
    simpa [show i + (j - i - 1) + 1 = j by omega] using this
theorem boSize_eq (W H : Int) : spec_boSize.f W H = some (decide (1 ≤ W ∧ W ≤ 8 ∧ 1 ≤ H ∧ H ≤ 8)) := by
  simp only [spec_boSize.f, l1In_eq, Option.bind_some]
  by_cases h1 : 1 ≤ W <;> by_cases h2 : W ≤ 8 <;> by_cases h3 : 1 ≤ H <;> by_cases h4 : H ≤ 8 <;> simp [h1, h2, h3, h4]
theorem boGood_j0_true {W H : Int} {L : List Int} : Ev (fun k => spec_boGood.j0 k true W H L) false := by
  refine Ev.step (fun k => by rw [spec_boGood.j0]) ?_
  simp only [if_true]
  exact Ev.now _
open Classical in
theorem boGood_ev (W H : Int) (L : List Int) (hl : L.length ≤ 1048576) : Ev (fun k => spec_boGood.f k W H L) (decide (BoardM W H L)) := by
  simp only [spec_boGood.f, boSize_eq, Option.bind_some]
  by_cases h1 : 1 ≤ W ∧ W ≤ 8 ∧ 1 ≤ H ∧ H ≤ 8
  · obtain ⟨a1, a2, a3, a4⟩ := h1
    have ar1 : 1 ≤ W * H := by have := Int.mul_le_mul a1 a3 (by omega) (by omega); omega
    have ar2 : W * H ≤ 64 := by have := Int.mul_le_mul a2 a4 (by omega) (by omega); omega
    have e1 : wrap64 (W * H) = W * H := wrap64_in _ (by omega)
    have e2 : wrap64 (W * H - 1) = W * H - 1 := wrap64_in _ (by omega)
    simp only [a1, a2, a3, a4, and_self, decide_true, if_true, e1, e2]
    by_cases h2 : (L.length : Int) ≥ W * H
    · have : decide (BoardM W H L) = false := by
        rw [decide_eq_false_iff_not]; rintro ⟨_, _, _, _, h, _⟩; omega
      simp only [h2, if_true, this]
      exact boGood_j0_true
    · simp only [h2, if_false]
      refine Ev.bind (l1All_ev L 0 (W * H - 1) (by omega)) ?_
      cases h3 : (L.all fun n => decide (0 ≤ n) && decide (n ≤ W * H - 1)) with
      | false =>
        have : decide (BoardM W H L) = false := by
          rw [decide_eq_false_iff_not]; rintro ⟨_, _, _, _, _, h, _⟩
          have : (L.all fun n => decide (0 ≤ n) && decide (n ≤ W * H - 1)) = true := by
            rw [List.all_eq_true]
            intro x hx
            have := h x hx
            simp; omega
          rw [this] at h3; cases h3
        simp only [Bool.not_false, this]
        exact boGood_j0_true
      | true =>
        simp only [Bool.not_true]
        refine Ev.step (fun k => by rw [spec_boGood.j0]) ?_
        simp only [Bool.false_eq_true, if_false]
        have hr : Ev (fun k => spec_boGood.l0 k 1 W H L) (decide (∀ j, 1 ≤ j → ∀ h : j < L.length, L[j - 1] < L[j])) := by
          rcases Nat.eq_zero_or_pos L.length with h0 | h0
          · have h4 : (∀ j, 1 ≤ j → ∀ h : j < L.length, L[j - 1] < L[j]) = True := by
              exact eq_true (fun j hj h => by omega)
            refine Ev.step (fun k => by rw [spec_boGood.l0]) ?_
            have h3 : ¬ ((1 : Int) < (L.length : Int)) := by omega
            simp only [h3, if_false, h4, decide_true]
            exact Ev.now _
          · exact rising_loop W H L (by omega) (L.length - 1) 1 (by omega) (by omega)
        have h5 : (∀ j, 1 ≤ j → ∀ h : j < L.length, L[j - 1] < L[j]) = BoardM W H L := by
          rw [eq_iff_iff]
          constructor
          · intro h
            refine ⟨a1, a2, a3, a4, by omega, ?_, (pairwise_iff L).2 h⟩
            intro x hx
            have := List.all_eq_true.1 h3 x hx
            simp at this; omega
          · rintro ⟨_, _, _, _, _, _, h⟩; exact (pairwise_iff L).1 h
        simp only [h5] at hr
        exact hr
  · have : decide (BoardM W H L) = false := by
      rw [decide_eq_false_iff_not]; rintro ⟨b1, b2, b3, b4, _⟩; exact h1 ⟨b1, b2, b3, b4⟩
    simp only [h1, decide_false, Bool.false_eq_true, if_false, this]
    exact boGood_j0_true
theorem cell_bounds {W H : Int} {L : List Int} (g : BoardM W H L) {c : Int} (h : 0 ≤ c ∧ c < W * H) : 0 ≤ c % W ∧ c % W < W ∧ 0 ≤ c / W ∧ c / W < H ∧ c % W + c / W * W = c := by
  have hW : 0 < W := by have := g.1; omega
  have h1 := Int.emod_nonneg c (show W ≠ 0 by omega)
  have h2 := Int.emod_lt_of_pos c hW
  have h3 : 0 ≤ c / W := Int.ediv_nonneg h.1 (by omega)
  have h4 : c / W < H := by
    rw [Int.ediv_lt_iff_lt_mul hW]
    have := Int.mul_comm W H; omega
  have h5 := Int.emod_add_mul_ediv c W
  have h6 := Int.mul_comm W (c / W)
  exact ⟨h1, h2, h3, h4, by omega⟩
theorem tmod_of {W c : Int} (h : 0 ≤ c) : Int.tmod c W = c % W := by rw [Int.tmod_eq_emod_of_nonneg h]
theorem tdiv_of {W c : Int} (h : 0 ≤ c) : Int.tdiv c W = c / W := by rw [Int.tdiv_eq_ediv_of_nonneg h]
theorem boCells_loop {W H : Int} {L : List Int} (g : BoardM W H L) (hl : L.length ≤ 1048576) : ∀ (n i : Nat), (n + i : Int) = W * H → ∀ acc : List Int, acc.length ≤ i → Ev (fun k => spec_boCells.l0 k acc (i : Int) W H L) (acc ++ ((List.range' i n).map Int.ofNat).filter (hasB W H L)) := by
  have ha := g.area
  intro n
  induction n with
  | zero =>
    intro i h1 acc h2
    refine Ev.step (fun k => by rw [spec_boCells.l0]) ?_
    have h3 : ¬ ((i : Int) < W * H) := by omega
    simp only [g.wrapArea, h3, if_false, List.range'_zero, List.map_nil, List.filter_nil, List.append_nil]
    exact Ev.now _
  | succ n ih =>
    intro i h1 acc h2
    refine Ev.step (fun k => by rw [spec_boCells.l0]) ?_
    have h3 : ((i : Int) < W * H) := by omega
    simp only [g.wrapArea, h3, if_true, w_succ (show i ≤ 4611686018427387904 by omega)]
    refine Ev.bind (boHas_ev g (i : Int) hl) ?_
    have h4 : acc.length < 17592186044416 := by omega
    cases hx : hasB W H L (i : Int) with
    | true =>
      simp only [h4, if_true]
      have := ih (i + 1) (by omega) (acc ++ [(i : Int)]) (by simp; omega)
      simpa [List.range'_succ, List.filter_cons, hx] using this
    | false =>
      simp only [Bool.false_eq_true, if_false]
      have := ih (i + 1) (by omega) acc (by omega)
      simpa [List.range'_succ, List.filter_cons, hx] using this
theorem boCells_ev {W H : Int} {L : List Int} (g : BoardM W H L) (hl : L.length ≤ 1048576) : Ev (fun k => spec_boCells.f k W H L) (cellsM W H L) := by
  have ha := g.area
  have := boCells_loop g hl (W * H).toNat 0 (by omega) [] (by simp)
  unfold spec_boCells.f cellsM
  rw [List.range_eq_range']
  simpa using this
/-! ### Marks -/
end Go.Proofs.Ytmfbhhicioepjaa.H

namespace Go.Proofs.Ytmfbhhicioepjaa.H
open Go.RowKit Go.IntWalk Go.Proofs.Ytmfbhhicioepjaa.Q Go.Proofs.YtmfbhhicioepjaaW.PrintWords Go.Proofs.YtmfbhhicioepjaaW.PrintMore
set_option linter.unusedVariables false
set_option linter.unusedSimpArgs false

theorem index_loop (c : Int) (rest pre : List Int) (hl : (pre ++ rest).length ≤ 4611686018427387904) : ∃ i, Ev (fun k => slices_Index_int_int.l0 k (pre ++ rest) c ((pre ++ rest).length : Int) (pre.length : Int)) i ∧ (decide (i ≥ 0) = rest.contains c) := by
  induction rest generalizing pre with
  | nil =>
    refine ⟨-1, Ev.step (fun k => by rw [slices_Index_int_int.l0]) ?_, by simp⟩
    simp only [List.append_nil, nlt_end, if_false]
    exact Ev.now _
  | cons x r ih =>
    have h4 : (0 : Int) ≤ (pre.length : Int) := by omega
    have h5 : pre.length ≤ 4611686018427387904 := by simp at hl; omega
    by_cases hx : c = x
    · refine ⟨(pre.length : Int), Ev.step (fun k => by rw [slices_Index_int_int.l0]) ?_, by simp [hx]⟩
      simp only [lt_mid pre x r, h4, if_true, rd_mid, w_succ h5, hx]
      exact Ev.now _
    · obtain ⟨i, hi, he⟩ := ih (pre ++ [x]) (by simpa using hl)
      refine ⟨i, Ev.step (fun k => by rw [slices_Index_int_int.l0]) ?_, by simpa [hx] using he⟩
      simp only [lt_mid pre x r, h4, if_true, rd_mid, w_succ h5, hx, if_false]
      simpa using hi
theorem contains_ev (l : List Int) (c : Int) (hl : l.length ≤ 4611686018427387904) : Ev (fun k => slices_Contains_int_int.f k l c) (l.contains c) := by
  obtain ⟨i, hi, he⟩ := index_loop c l [] (by simpa using hl)
  unfold slices_Contains_int_int.f slices_Index_int_int.f
  rw [← he]
  refine Ev.bind (by simpa using hi) (Ev.now _)
/-! ### Steps -/
theorem sort_key {l m : List Int} (hl : l.Nodup) (hm : m.Pairwise (· < ·)) (h : ∀ x, x ∈ l ↔ x ∈ m) : sortL l = m := by
  unfold sortL
  have hmn : m.Nodup := hm.imp (fun h => by omega)
  refine List.Perm.eq_of_pairwise (le := fun x y => x ≤ y) (fun a b _ _ h1 h2 => by omega) ?_ (hm.imp (fun h => by omega)) ?_
  · refine (List.pairwise_mergeSort (le := fun x y => decide (x ≤ y)) (fun a b c => ?_) (fun a b => ?_) l).imp (fun h => by simpa using h)
    · simp; omega
    · simp; omega
  · exact (List.mergeSort_perm l _).trans ((List.perm_ext_iff_of_nodup hl hmn).2 h)
end Go.Proofs.Ytmfbhhicioepjaa.H

namespace Go.Proofs.Ytmfbhhicioepjaa.H
open Go.RowKit Go.IntWalk Go.Proofs.Ytmfbhhicioepjaa.Q Go.Proofs.YtmfbhhicioepjaaW.PrintWords Go.Proofs.YtmfbhhicioepjaaW.PrintMore
set_option linter.unusedVariables false
set_option linter.unusedSimpArgs false

theorem has_ev {W H : Int} {L : List Int} (g : BoardM W H L) (c : Int) (hl : L.length ≤ 1048576) : Ev (fun k => impl_Board_has.f k W H L c) (hasB W H L c) := by
  have ha := g.area
  simp only [impl_Board_has.f, g.wrapArea]
  by_cases h1 : c ≥ 0
  · by_cases h2 : c < W * H
    · simp only [h1, h2, if_true]
      refine Ev.bind (contains_ev L c (by omega)) ?_
      have h3 : (0 : Int) ≤ c := h1
      have : hasB W H L c = !L.contains c := by simp [hasB, h3, h2]
      rw [this]
      exact Ev.now _
    · have : hasB W H L c = false := by simp [hasB, h2]
      simp only [h1, h2, if_true, if_false, this]
      exact Ev.now _
  · have h3 : ¬ (0 : Int) ≤ c := h1
    have : hasB W H L c = false := by simp [hasB, h3]
    simp only [h1, if_false, this]
    exact Ev.now _
open Classical in
theorem isBoard_loop (W H : Int) (L : List Int) (ha : wrap64 (W * H) = W * H) (hl : L.length ≤ 4611686018427387904) : ∀ (n i : Nat), n + i = L.length → Ev (fun k => impl_IsBoard.l0 k L (L.length : Int) (i : Int) W H L) (decide (∀ j, i ≤ j → ∀ h : j < L.length, (0 ≤ L[j] ∧ L[j] < W * H) ∧ (1 ≤ j → L[j - 1] < L[j]))) := by
  intro n
  induction n with
  | zero =>
    intro i h1
    refine Ev.step (fun k => by rw [impl_IsBoard.l0]) ?_
    have h3 : ¬ ((i : Int) < (L.length : Int)) := by omega
    have h4 : (∀ j, i ≤ j → ∀ h : j < L.length, (0 ≤ L[j] ∧ L[j] < W * H) ∧ (1 ≤ j → L[j - 1] < L[j])) = True := eq_true (fun j hj h => by omega)
    simp only [h3, if_false, h4, decide_true]
    exact Ev.now _
  | succ n ih =>
    intro i h1
    refine Ev.step (fun k => by rw [impl_IsBoard.l0]) ?_
    have h3 : (i : Int) < (L.length : Int) := by omega
    have hi : i < L.length := by omega
    have h7 : (0 : Int) ≤ (i : Int) := by omega
    have no : ((0 ≤ L[i] ∧ L[i] < W * H) ∧ (1 ≤ i → L[i - 1] < L[i])) ∨ ¬ ((0 ≤ L[i] ∧ L[i] < W * H) ∧ (1 ≤ i → L[i - 1] < L[i])) := Classical.em _
    have bad : ¬ ((0 ≤ L[i] ∧ L[i] < W * H) ∧ (1 ≤ i → L[i - 1] < L[i])) → decide (∀ j, i ≤ j → ∀ h : j < L.length, (0 ≤ L[j] ∧ L[j] < W * H) ∧ (1 ≤ j → L[j - 1] < L[j])) = false := fun hb => by
      rw [decide_eq_false_iff_not]
      exact fun h => hb (h i (by omega) hi)
    have good : ((0 ≤ L[i] ∧ L[i] < W * H) ∧ (1 ≤ i → L[i - 1] < L[i])) → (∀ j, i ≤ j → ∀ h : j < L.length, (0 ≤ L[j] ∧ L[j] < W * H) ∧ (1 ≤ j → L[j - 1] < L[j])) = (∀ j, i + 1 ≤ j → ∀ h : j < L.length, (0 ≤ L[j] ∧ L[j] < W * H) ∧ (1 ≤ j → L[j - 1] < L[j])) := fun hg => by
      rw [eq_iff_iff]
      constructor
      · intro h j hj; exact h j (by omega)
      · intro h j hj hjl
        rcases Nat.lt_or_ge i j with h9 | h9
        · exact h j (by omega) hjl
        · obtain rfl : j = i := by omega
          exact hg
    simp only [h3, h7, if_true, rd_nat L i hi, ha, w_succ (show i ≤ 4611686018427387904 by omega)]
    by_cases c1 : L[i] < 0
    · rw [bad (fun h => by omega)]
      simp only [c1, if_true]
      exact Ev.now _
    simp only [c1, if_false]
    by_cases c2 : L[i] ≥ W * H
    · rw [bad (fun h => by omega)]
      simp only [c2, if_true]
      exact Ev.now _
    simp only [c2, if_false]
    by_cases c3 : (i : Int) > 0
    · have h4 : wrap64 ((i : Int) - 1) = ((i - 1 : Nat) : Int) := by rw [wrap64_in _ (by omega)]; omega
      have h5 : (0 : Int) ≤ ((i - 1 : Nat) : Int) := by omega
      have h6 : ((i - 1 : Nat) : Int) < (L.length : Int) := by omega
      simp only [c3, if_true, h4, h5, h6, rd_nat L (i - 1) (by omega)]
      by_cases c4 : L[i - 1] ≥ L[i]
      · rw [bad (fun h => by have := h.2 (by omega); omega)]
        simp only [c4, if_true]
        exact Ev.now _
      · simp only [c4, if_false, good ⟨⟨by omega, by omega⟩, fun _ => by omega⟩]
        exact ih (i + 1) (by omega)
    · simp only [c3, if_false, good ⟨⟨by omega, by omega⟩, fun h => absurd h (by omega)⟩]
      exact ih (i + 1) (by omega)
theorem sized_eq (n : Int) : impl_sized.f n = some (decide (1 ≤ n ∧ n ≤ 8)) := by
  unfold impl_sized.f
  by_cases h1 : n ≥ 1
  · have h2 : (1 : Int) ≤ n := h1
    simp [h1, h2]
  · have h2 : ¬ (1 : Int) ≤ n := h1
    simp [h1, h2]
theorem isBoard_no {W H : Int} {L : List Int} : Ev (fun k => impl_IsBoard.j0 k true W H L) false := by
  refine Ev.step (fun k => by rw [impl_IsBoard.j0]) ?_
  simp only [if_true]
  exact Ev.now _
open Classical in
theorem isBoard_ev (W H : Int) (L : List Int) (hl : L.length ≤ 1048576) : Ev (fun k => impl_IsBoard.f k W H L) (decide (BoardM W H L)) := by
  simp only [impl_IsBoard.f, sized_eq, Option.bind_some]
  by_cases h1 : 1 ≤ W ∧ W ≤ 8
  · by_cases h2 : 1 ≤ H ∧ H ≤ 8
    · have ar1 : 1 ≤ W * H := by have := Int.mul_le_mul h1.1 h2.1 (by omega) (by omega); omega
      have ar2 : W * H ≤ 64 := by have := Int.mul_le_mul h1.2 h2.2 (by omega) (by omega); omega
      have e1 : wrap64 (W * H) = W * H := wrap64_in _ (by omega)
      simp only [h1, h2, and_self, decide_true, if_true, e1]
      by_cases h3 : (L.length : Int) ≥ W * H
      · have : decide (BoardM W H L) = false := by
          rw [decide_eq_false_iff_not]; rintro ⟨_, _, _, _, h, _⟩; omega
        simp only [h3, decide_true, this]
        exact isBoard_no
      · simp only [h3, decide_false]
        refine Ev.step (fun k => by rw [impl_IsBoard.j0]) ?_
        simp only [Bool.false_eq_true, if_false]
        have h4 := isBoard_loop W H L e1 (by omega) L.length 0 rfl
        have h5 : (∀ j, 0 ≤ j → ∀ h : j < L.length, (0 ≤ L[j] ∧ L[j] < W * H) ∧ (1 ≤ j → L[j - 1] < L[j])) = BoardM W H L := by
          rw [eq_iff_iff]
          constructor
          · intro h
            refine ⟨h1.1, h1.2, h2.1, h2.2, by omega, ?_, (pairwise_iff L).2 fun j hj hjl => (h j (by omega) hjl).2 hj⟩
            intro x hx
            obtain ⟨j, hj, rfl⟩ := List.getElem_of_mem hx
            exact (h j (by omega) hj).1
          · rintro ⟨_, _, _, _, _, h, p⟩ j _ hj
            exact ⟨h _ (List.getElem_mem hj), fun h1 => (pairwise_iff L).1 p j h1 hj⟩
        simp only [h5] at h4
        simpa using h4
    · have : decide (BoardM W H L) = false := by
        rw [decide_eq_false_iff_not]; rintro ⟨_, _, a, b, _⟩; exact h2 ⟨a, b⟩
      simp only [h1, h2, and_self, decide_true, decide_false, if_true, Bool.false_eq_true, if_false, this]
      exact isBoard_no
  · have : decide (BoardM W H L) = false := by
      rw [decide_eq_false_iff_not]; rintro ⟨a, b, _⟩; exact h1 ⟨a, b⟩
    simp only [h1, decide_false, Bool.false_eq_true, if_false, this]
    exact isBoard_no
theorem present_loop {W H : Int} {L : List Int} (g : BoardM W H L) (hl : L.length ≤ 1048576) : ∀ (n i : Nat), (n + i : Int) = W * H → ∀ acc : List Int, acc.length ≤ i → Ev (fun k => impl_Board_present.l0 k acc (W * H) (i : Int) W H L) (acc ++ ((List.range' i n).map Int.ofNat).filter (hasB W H L)) := by
  have ha := g.area
  intro n
  induction n with
  | zero =>
    intro i h1 acc h2
    refine Ev.step (fun k => by rw [impl_Board_present.l0]) ?_
    have h3 : ¬ ((i : Int) < W * H) := by omega
    simp only [h3, if_false, List.range'_zero, List.map_nil, List.filter_nil, List.append_nil]
    exact Ev.now _
  | succ n ih =>
    intro i h1 acc h2
    refine Ev.step (fun k => by rw [impl_Board_present.l0]) ?_
    have h3 : ((i : Int) < W * H) := by omega
    have h0 : (0 : Int) ≤ (i : Int) := by omega
    simp only [h3, if_true, w_succ (show i ≤ 4611686018427387904 by omega)]
    refine Ev.bind (contains_ev L (i : Int) (by omega)) ?_
    have h4 : acc.length < 17592186044416 := by omega
    have hb : hasB W H L (i : Int) = !L.contains (i : Int) := by simp [hasB, h0, h3]
    cases hx : L.contains (i : Int) with
    | false =>
      rw [hx] at hb
      simp only [Bool.false_eq_true, if_false, h4, if_true]
      have := ih (i + 1) (by omega) (acc ++ [(i : Int)]) (by simp; omega)
      simpa [List.range'_succ, List.filter_cons, hb] using this
    | true =>
      rw [hx] at hb
      simp only [if_true]
      have := ih (i + 1) (by omega) acc (by omega)
      simpa [List.range'_succ, List.filter_cons, hb] using this
theorem present_ev {W H : Int} {L : List Int} (g : BoardM W H L) (hl : L.length ≤ 1048576) : Ev (fun k => impl_Board_present.f k W H L) (cellsM W H L) := by
  have ha := g.area
  have := present_loop g hl (W * H).toNat 0 (by omega) [] (by simp)
  unfold impl_Board_present.f cellsM
  rw [List.range_eq_range', g.wrapArea]
  simpa using this

/-! ### The neighbours of a cell -/
theorem cellsM_sorted (W H : Int) (L : List Int) : (cellsM W H L).Pairwise (· < ·) := by
  unfold cellsM
  refine List.Pairwise.filter _ ?_
  rw [List.pairwise_map]
  refine List.pairwise_lt_range.imp (fun h => ?_)
  simp; omega
theorem place_mod {W p q : Int} (h : 0 ≤ p ∧ p < W) : (q * W + p) % W = p ∧ (q * W + p) / W = q := by
  have hW : W ≠ 0 := by omega
  constructor
  · rw [Int.add_comm, Int.add_mul_emod_self_right]; exact Int.emod_eq_of_lt h.1 h.2
  · rw [Int.add_comm, Int.add_mul_ediv_right _ _ hW, Int.ediv_eq_zero_of_lt h.1 h.2]; omega
/-! ### The graph -/
end Go.Proofs.Ytmfbhhicioepjaa.H

namespace Go.Proofs.Ytmfbhhicioepjaa.H
open Go.RowKit Go.IntWalk Go.Proofs.Ytmfbhhicioepjaa.Q Go.Proofs.YtmfbhhicioepjaaW.PrintWords Go.Proofs.YtmfbhhicioepjaaW.PrintMore
set_option linter.unusedVariables false
set_option linter.unusedSimpArgs false
def insL (n : Int) : List Int → List Int
  | [] => [n]
  | x :: r => if x < n then x :: insL n r else n :: x :: r
theorem mem_insL (n : Int) (l : List Int) (y : Int) : y ∈ insL n l ↔ y = n ∨ y ∈ l := by
  induction l with
  | nil => simp [insL]
  | cons x r ih =>
    rw [insL]
    split
    · simp only [List.mem_cons, ih]
      constructor
      · rintro (h | h | h)
        · exact .inr (.inl h)
        · exact .inl h
        · exact .inr (.inr h)
      · rintro (h | h | h)
        · exact .inr (.inl h)
        · exact .inl h
        · exact .inr (.inr h)
    · simp
theorem insL_length (n : Int) (l : List Int) : (insL n l).length = l.length + 1 := by
  induction l with
  | nil => rfl
  | cons x r ih => rw [insL]; split <;> simp [ih]
theorem insL_sorted (n : Int) (l : List Int) (h : l.Pairwise (· < ·)) (hn : ¬ n ∈ l) : (insL n l).Pairwise (· < ·) := by
  induction l with
  | nil => simp [insL]
  | cons x r ih =>
    obtain ⟨h1, h2⟩ := List.pairwise_cons.1 h
    rw [insL]
    split
    · rename_i c
      refine List.pairwise_cons.2 ⟨fun y hy => ?_, ih h2 (fun hm => hn (by simp [hm]))⟩
      rcases (mem_insL n r y).1 hy with rfl | hy
      · exact c
      · exact h1 y hy
    · rename_i c
      have hx : x ≠ n := fun e => hn (by simp [e])
      refine List.pairwise_cons.2 ⟨fun y hy => ?_, h⟩
      rcases List.mem_cons.1 hy with rfl | hy
      · omega
      · have := h1 y hy; omega
theorem put_loop (n : Int) (rest pre : List Int) (hp : (pre ++ rest).length ≤ 1000) (hn : ¬ n ∈ rest) :
    Ev (fun k => spec_l1Put.l0 k (pre ++ rest) n (pre.length : Int)) (pre ++ insL n rest) := by
  have fin : ∀ (rest : List Int), (pre ++ rest).length ≤ 1000 → True := fun _ _ => trivial
  induction rest generalizing pre with
  | nil =>
    refine Ev.step (fun k => by rw [spec_l1Put.l0]) ?_
    have h0 : (0 : Int) ≤ (pre.length : Int) := by omega
    have h1 : (pre.length : Int) ≤ (pre.length : Int) := Int.le_refl _
    have e1 : ((pre.length : Int)).toNat = pre.length := by omega
    have h5 : pre.length ≤ 1000 := by simpa using hp
    have c1 : ([] : List Int).length + pre.length < 17592186044416 := by simp; omega
    have c2 : pre.length < 17592186044416 := by omega
    have c3 : (pre ++ [n]).length + ([] : List Int).length < 17592186044416 := by simp; omega
    simp only [List.append_nil, nlt_end, if_false, h0, h1, if_true, e1, List.take_length, List.drop_length, Option.bind_some, List.nil_append, c1, c2, c3, insL]
    exact Ev.now _
  | cons x r ih =>
    refine Ev.step (fun k => by rw [spec_l1Put.l0]) ?_
    have h0 : (0 : Int) ≤ (pre.length : Int) := by omega
    have h5 : pre.length + r.length + 1 ≤ 1000 := by simp at hp; omega
    have hx : ¬ x = n := fun e => hn (by simp [e])
    simp only [lt_mid pre x r, h0, if_true, rd_mid, w_succ (show pre.length ≤ 4611686018427387904 by omega)]
    by_cases c : x < n
    · simp only [c, if_true]
      have := ih (pre ++ [x]) (by simpa using hp) (fun hm => hn (by simp [hm])) (fun _ _ => trivial)
      rw [insL, if_pos c]
      simpa using this
    · have e1 : (pre ++ x :: r).take ((pre.length : Int)).toNat = pre := by simp
      have e2 : (pre ++ x :: r).drop ((pre.length : Int)).toNat = x :: r := by simp
      have h1 : (pre.length : Int) ≤ ((pre ++ x :: r).length : Int) := by simp; omega
      have c1 : ([] : List Int).length + pre.length < 17592186044416 := by simp; omega
      have c2 : pre.length < 17592186044416 := by omega
      have c3 : (pre ++ [n]).length + (x :: r).length < 17592186044416 := by simp; omega
      rw [insL, if_neg c]
      simp only [c, hx, if_false, h1, if_true, e1, e2, Option.bind_some, List.nil_append, c1, c2, c3, List.append_assoc, List.singleton_append]
      have c3' : (pre ++ [n]).length + (x :: r).length < 17592186044416 := c3
      simpa using Ev.now _
theorem l1Put_ev (n : Int) (l : List Int) (hl : l.length ≤ 1000) (hn : ¬ n ∈ l) : Ev (fun k => spec_l1Put.f k l n) (insL n l) := by
  unfold spec_l1Put.f
  simpa using put_loop n l [] (by simpa using hl) hn
def insAll (acc : List Int) : List Int → List Int
  | [] => acc
  | x :: r => insAll (insL x acc) r
theorem insAll_mem (l : List Int) : ∀ acc y, y ∈ insAll acc l ↔ y ∈ acc ∨ y ∈ l := by
  induction l with
  | nil => intro acc y; simp [insAll]
  | cons x r ih =>
    intro acc y
    rw [insAll, ih, mem_insL, List.mem_cons]
    constructor
    · rintro ((h | h) | h)
      · exact .inr (.inl h)
      · exact .inl h
      · exact .inr (.inr h)
    · rintro (h | h | h)
      · exact .inl (.inr h)
      · exact .inl (.inl h)
      · exact .inr h
theorem insAll_sorted (l : List Int) : ∀ acc, acc.Pairwise (· < ·) → l.Nodup → (∀ x ∈ l, ¬ x ∈ acc) → (insAll acc l).Pairwise (· < ·) := by
  induction l with
  | nil => intro acc h _ _; exact h
  | cons x r ih =>
    intro acc h hn hd
    obtain ⟨h1, h2⟩ := List.nodup_cons.1 hn
    rw [insAll]
    refine ih _ (insL_sorted x acc h (hd x (by simp))) h2 (fun y hy hm => ?_)
    rcases (mem_insL x acc y).1 hm with rfl | hm
    · exact h1 hy
    · exact hd y (by simp [hy]) hm
theorem moved_loop (rest : List Int) : ∀ (pre acc : List Int), acc.Pairwise (· < ·) → rest.Nodup → (∀ x ∈ rest, ¬ x ∈ acc) → acc.length + rest.length ≤ 1000 → (pre ++ rest).length ≤ 1000 →
    Ev (fun k => spec_boMoved.l0 k acc (pre ++ rest) ((pre ++ rest).length : Int) (pre.length : Int)) (insAll acc rest) := by
  induction rest with
  | nil =>
    intro pre acc _ _ _ _ _
    refine Ev.step (fun k => by rw [spec_boMoved.l0]) ?_
    simp only [List.append_nil, nlt_end, if_false]
    exact Ev.now _
  | cons x r ih =>
    intro pre acc hs hn hd hl hp
    obtain ⟨h1, h2⟩ := List.nodup_cons.1 hn
    refine Ev.step (fun k => by rw [spec_boMoved.l0]) ?_
    have h4 : (0 : Int) ≤ (pre.length : Int) := by omega
    have h5 : pre.length ≤ 1000 := by simp at hp; omega
    simp only [lt_mid pre x r, h4, if_true, rd_mid, w_succ (show pre.length ≤ 4611686018427387904 by omega)]
    refine Ev.bind (l1Put_ev x acc (by omega) (hd x (by simp))) ?_
    have := ih (pre ++ [x]) (insL x acc) (insL_sorted x acc hs (hd x (by simp))) h2 (fun y hy hm => ?_) (by rw [insL_length]; simp at hl; omega) (by simpa using hp)
    · simpa [insAll] using this
    · rcases (mem_insL x acc y).1 hm with rfl | hm
      · exact h1 hy
      · exact hd y (by simp [hy]) hm
theorem boMoved_ev (l : List Int) (hl : l.length ≤ 1000) (hn : l.Nodup) : Ev (fun k => spec_boMoved.f k l) (sortL l) := by
  unfold spec_boMoved.f
  have e : sortL l = insAll [] l := sort_key hn (insAll_sorted l [] (by simp) hn (by simp)) (fun x => by rw [insAll_mem]; simp)
  rw [e]
  simpa using moved_loop l [] [] (by simp) hn (by simp) (by simpa using hl) (by simpa using hl)
theorem sortL_mem (l : List Int) (x : Int) : x ∈ sortL l ↔ x ∈ l := by unfold sortL; exact List.mem_mergeSort
theorem sortL_sorted (l : List Int) (hn : l.Nodup) : (sortL l).Pairwise (· < ·) := by
  have e : sortL l = insAll [] l := sort_key hn (insAll_sorted l [] (by simp) hn (by simp)) (fun x => by rw [insAll_mem]; simp)
  rw [e]
  exact insAll_sorted l [] (by simp) hn (by simp)
end Go.Proofs.Ytmfbhhicioepjaa.H

namespace Go.Proofs.Ytmfbhhicioepjaa.H
open Go.RowKit Go.IntWalk Go.Proofs.Ytmfbhhicioepjaa.Q Go.Proofs.YtmfbhhicioepjaaW.PrintWords Go.Proofs.YtmfbhhicioepjaaW.PrintMore
set_option linter.unusedVariables false
set_option linter.unusedSimpArgs false
open Classical in
theorem boGood_any (W H : Int) (L : List Int) (hl : L.length ≤ 9223372036854775807) : Ev (fun k => spec_boGood.f k W H L) (decide (BoardM W H L)) := by
  by_cases h : L.length ≤ 1048576
  · exact boGood_ev W H L h
  · have hn : decide (BoardM W H L) = false := by
      rw [decide_eq_false_iff_not]; intro g; have := g.area; have := g.2.2.2.2.1; omega
    simp only [spec_boGood.f, boSize_eq, Option.bind_some, hn]
    by_cases h1 : 1 ≤ W ∧ W ≤ 8 ∧ 1 ≤ H ∧ H ≤ 8
    · obtain ⟨a1, a2, a3, a4⟩ := h1
      have ar1 : 1 ≤ W * H := by have := Int.mul_le_mul a1 a3 (by omega) (by omega); omega
      have ar2 : W * H ≤ 64 := by have := Int.mul_le_mul a2 a4 (by omega) (by omega); omega
      have e1 : wrap64 (W * H) = W * H := wrap64_in _ (by omega)
      have h2 : (L.length : Int) ≥ W * H := by omega
      simp only [a1, a2, a3, a4, and_self, decide_true, if_true, e1, h2]
      exact boGood_j0_true
    · simp only [h1, decide_false, Bool.false_eq_true, if_false]
      exact boGood_j0_true
open Classical in
theorem isBoard_any (W H : Int) (L : List Int) (hl : L.length ≤ 9223372036854775807) : Ev (fun k => impl_IsBoard.f k W H L) (decide (BoardM W H L)) := by
  by_cases h : L.length ≤ 1048576
  · exact isBoard_ev W H L h
  · have hn : decide (BoardM W H L) = false := by
      rw [decide_eq_false_iff_not]; intro g; have := g.area; have := g.2.2.2.2.1; omega
    simp only [impl_IsBoard.f, sized_eq, Option.bind_some, hn]
    by_cases h1 : 1 ≤ W ∧ W ≤ 8
    · by_cases h2 : 1 ≤ H ∧ H ≤ 8
      · have ar1 : 1 ≤ W * H := by have := Int.mul_le_mul h1.1 h2.1 (by omega) (by omega); omega
        have ar2 : W * H ≤ 64 := by have := Int.mul_le_mul h1.2 h2.2 (by omega) (by omega); omega
        have e1 : wrap64 (W * H) = W * H := wrap64_in _ (by omega)
        have h3 : (L.length : Int) ≥ W * H := by omega
        simp only [h1, h2, and_self, decide_true, if_true, e1, h3]
        exact isBoard_no
      · simp only [h1, h2, and_self, decide_true, decide_false, if_true, Bool.false_eq_true, if_false]
        exact isBoard_no
    · simp only [h1, decide_false, Bool.false_eq_true, if_false]
      exact isBoard_no
theorem BoardM.small {W H : Int} {L : List Int} (g : BoardM W H L) : L.length ≤ 64 := by have := g.area; have := g.2.2.2.2.1; omega
theorem good_yes {W H : Int} {L : List Int} (g : BoardM W H L) : Ev (fun k => spec_boGood.f k W H L) true := by
  have := boGood_any W H L (by have := g.small; omega); simpa [g] using this
theorem good_no {W H : Int} {L : List Int} (g : ¬ BoardM W H L) (hl : L.length ≤ 9223372036854775807) : Ev (fun k => spec_boGood.f k W H L) false := by
  have := boGood_any W H L hl; simpa [g] using this
theorem isb_yes {W H : Int} {L : List Int} (g : BoardM W H L) : Ev (fun k => impl_IsBoard.f k W H L) true := by
  have := isBoard_any W H L (by have := g.small; omega); simpa [g] using this
theorem isb_no {W H : Int} {L : List Int} (g : ¬ BoardM W H L) (hl : L.length ≤ 9223372036854775807) : Ev (fun k => impl_IsBoard.f k W H L) false := by
  have := isBoard_any W H L hl; simpa [g] using this
/-! ### Cells -/
def turnC (W H c : Int) : Int := c % W * H + H - 1 - c / W
def mirC (W c : Int) : Int := c / W * W + W - 1 - c % W
section
variable {W H : Int} {L : List Int}
theorem turnC_facts (g : BoardM W H L) {c : Int} (h : 0 ≤ c ∧ c < W * H) : 0 ≤ turnC W H c ∧ turnC W H c < H * W ∧ turnC W H c % H = H - 1 - c / W ∧ turnC W H c / H = c % W ∧ 0 ≤ c % W * H ∧ c % W * H ≤ 56 := by
  obtain ⟨h1, h2, h3, h4, h5⟩ := cell_bounds g h
  obtain ⟨b1, b2, b3, b4, _⟩ := g
  have e : turnC W H c = c % W * H + (H - 1 - c / W) := by unfold turnC; omega
  have pm := place_mod (W := H) (p := H - 1 - c / W) (q := c % W) (by omega)
  have m1 : 0 ≤ c % W * H := Int.mul_nonneg h1 (by omega)
  have m2 : c % W * H ≤ (W - 1) * H := Int.mul_le_mul_of_nonneg_right (by omega) (by omega)
  have m3 : (W - 1) * H = H * W - H := by rw [Int.sub_mul, Int.mul_comm W H]; omega
  have m4 : (W - 1) * H ≤ 7 * 8 := Int.mul_le_mul (by omega) b4 (by omega) (by omega)
  rw [e]
  exact ⟨by omega, by omega, pm.1, pm.2, m1, by omega⟩
theorem mirC_facts (g : BoardM W H L) {c : Int} (h : 0 ≤ c ∧ c < W * H) : 0 ≤ mirC W c ∧ mirC W c < W * H ∧ mirC W c % W = W - 1 - c % W ∧ mirC W c / W = c / W ∧ 0 ≤ c / W * W ∧ c / W * W ≤ 56 := by
  obtain ⟨h1, h2, h3, h4, h5⟩ := cell_bounds g h
  obtain ⟨b1, b2, b3, b4, _⟩ := g
  have e : mirC W c = c / W * W + (W - 1 - c % W) := by unfold mirC; omega
  have pm := place_mod (W := W) (p := W - 1 - c % W) (q := c / W) (by omega)
  have m1 : 0 ≤ c / W * W := Int.mul_nonneg h3 (by omega)
  have m2 : c / W * W ≤ (H - 1) * W := Int.mul_le_mul_of_nonneg_right (by omega) (by omega)
  have m3 : (H - 1) * W = W * H - W := by rw [Int.sub_mul, Int.mul_comm H W]; omega
  have m4 : (H - 1) * W ≤ 7 * 8 := Int.mul_le_mul (by omega) b2 (by omega) (by omega)
  rw [e]
  exact ⟨by omega, by omega, pm.1, pm.2, m1, by omega⟩
theorem cell_ext (g : BoardM W H L) {c d : Int} (hc : 0 ≤ c ∧ c < W * H) (hd : 0 ≤ d ∧ d < W * H) (e1 : c % W = d % W) (e2 : c / W = d / W) : c = d := by
  obtain ⟨_, _, _, _, h1⟩ := cell_bounds g hc
  obtain ⟨_, _, _, _, h2⟩ := cell_bounds g hd
  rw [e1, e2] at h1
  omega
theorem turnC_inj (g : BoardM W H L) {c d : Int} (hc : 0 ≤ c ∧ c < W * H) (hd : 0 ≤ d ∧ d < W * H) (e : turnC W H c = turnC W H d) : c = d := by
  obtain ⟨_, _, a1, a2, _⟩ := turnC_facts g hc
  obtain ⟨_, _, b1, b2, _⟩ := turnC_facts g hd
  rw [e] at a1 a2
  exact cell_ext g hc hd (by omega) (by omega)
theorem mirC_inj (g : BoardM W H L) {c d : Int} (hc : 0 ≤ c ∧ c < W * H) (hd : 0 ≤ d ∧ d < W * H) (e : mirC W c = mirC W d) : c = d := by
  obtain ⟨_, _, a1, a2, _⟩ := mirC_facts g hc
  obtain ⟨_, _, b1, b2, _⟩ := mirC_facts g hd
  rw [e] at a1 a2
  exact cell_ext g hc hd (by omega) (by omega)
theorem holes_nodup (g : BoardM W H L) : L.Nodup := g.2.2.2.2.2.2.imp (fun h => by omega)
theorem map_nodup_on {f : Int → Int} {l : List Int} (hn : l.Nodup) (hf : ∀ x ∈ l, ∀ y ∈ l, f x = f y → x = y) : (l.map f).Nodup := by
  induction l with
  | nil => simp
  | cons x r ih =>
    obtain ⟨h1, h2⟩ := List.nodup_cons.1 hn
    rw [List.map_cons, List.nodup_cons]
    refine ⟨fun hm => ?_, ih h2 (fun a ha b hb => hf a (by simp [ha]) b (by simp [hb]))⟩
    obtain ⟨y, hy, e⟩ := List.mem_map.1 hm
    have := hf y (by simp [hy]) x (by simp) e
    exact h1 (this ▸ hy)
def turnL (W H : Int) (L : List Int) : List Int := sortL (L.map (turnC W H))
def mirL (W : Int) (L : List Int) : List Int := sortL (L.map (mirC W))
theorem turn_nodup (g : BoardM W H L) : (L.map (turnC W H)).Nodup := map_nodup_on (holes_nodup g) (fun x hx y hy e => turnC_inj g (g.2.2.2.2.2.1 x hx) (g.2.2.2.2.2.1 y hy) e)
theorem mir_nodup (g : BoardM W H L) : (L.map (mirC W)).Nodup := map_nodup_on (holes_nodup g) (fun x hx y hy e => mirC_inj g (g.2.2.2.2.2.1 x hx) (g.2.2.2.2.2.1 y hy) e)
theorem mem_turnL (x : Int) : x ∈ turnL W H L ↔ ∃ y ∈ L, turnC W H y = x := by unfold turnL; rw [sortL_mem, List.mem_map]
theorem mem_mirL (x : Int) : x ∈ mirL W L ↔ ∃ y ∈ L, mirC W y = x := by unfold mirL; rw [sortL_mem, List.mem_map]
theorem turn_board (g : BoardM W H L) : BoardM H W (turnL W H L) := by
  refine ⟨g.2.2.1, g.2.2.2.1, g.1, g.2.1, ?_, ?_, sortL_sorted _ (turn_nodup g)⟩
  · unfold turnL; rw [sortL_length, List.length_map, Int.mul_comm]; exact g.2.2.2.2.1
  · intro x hx
    obtain ⟨y, hy, rfl⟩ := (mem_turnL x).1 hx
    obtain ⟨h1, h2, _⟩ := turnC_facts g (g.2.2.2.2.2.1 y hy)
    exact ⟨h1, h2⟩
theorem mir_board (g : BoardM W H L) : BoardM W H (mirL W L) := by
  refine ⟨g.1, g.2.1, g.2.2.1, g.2.2.2.1, ?_, ?_, sortL_sorted _ (mir_nodup g)⟩
  · unfold mirL; rw [sortL_length, List.length_map]; exact g.2.2.2.2.1
  · intro x hx
    obtain ⟨y, hy, rfl⟩ := (mem_mirL x).1 hx
    obtain ⟨h1, h2, _⟩ := mirC_facts g (g.2.2.2.2.2.1 y hy)
    exact ⟨h1, h2⟩
theorem turn4 (g : BoardM W H L) {c : Int} (h : 0 ≤ c ∧ c < W * H) : turnC H W (turnC W H (turnC H W (turnC W H c))) = c := by
  have g2 := turn_board g
  have g3 := turn_board g2
  have g4 := turn_board g3
  obtain ⟨a1, a2, a3, a4, _⟩ := turnC_facts g h
  obtain ⟨b1, b2, b3, b4, _⟩ := turnC_facts g2 ⟨a1, a2⟩
  obtain ⟨c1, c2, c3, c4, _⟩ := turnC_facts g3 ⟨b1, b2⟩
  obtain ⟨d1, d2, d3, d4, _⟩ := turnC_facts g4 ⟨c1, c2⟩
  refine cell_ext g ⟨d1, d2⟩ h ?_ ?_ <;> omega
theorem mir2 (g : BoardM W H L) {c : Int} (h : 0 ≤ c ∧ c < W * H) : mirC W (mirC W c) = c := by
  have g2 := mir_board g
  obtain ⟨a1, a2, a3, a4, _⟩ := mirC_facts g h
  obtain ⟨b1, b2, b3, b4, _⟩ := mirC_facts g2 ⟨a1, a2⟩
  refine cell_ext g ⟨b1, b2⟩ h ?_ ?_ <;> omega
theorem turnL4 (g : BoardM W H L) : turnL H W (turnL W H (turnL H W (turnL W H L))) = L := by
  have g2 := turn_board g
  have g3 := turn_board g2
  have g4 := turn_board g3
  refine sort_key (turn_nodup g4) g.2.2.2.2.2.2 (fun x => ?_)
  rw [List.mem_map]
  constructor
  · rintro ⟨y, hy, rfl⟩
    obtain ⟨z, hz, rfl⟩ := (mem_turnL y).1 hy
    obtain ⟨u, hu, rfl⟩ := (mem_turnL z).1 hz
    obtain ⟨v, hv, rfl⟩ := (mem_turnL u).1 hu
    rw [turn4 g (g.2.2.2.2.2.1 v hv)]
    exact hv
  · intro hx
    exact ⟨_, (mem_turnL _).2 ⟨_, (mem_turnL _).2 ⟨_, (mem_turnL _).2 ⟨x, hx, rfl⟩, rfl⟩, rfl⟩, turn4 g (g.2.2.2.2.2.1 x hx)⟩
theorem mirL2 (g : BoardM W H L) : mirL W (mirL W L) = L := by
  have g2 := mir_board g
  refine sort_key (mir_nodup g2) g.2.2.2.2.2.2 (fun x => ?_)
  rw [List.mem_map]
  constructor
  · rintro ⟨y, hy, rfl⟩
    obtain ⟨z, hz, rfl⟩ := (mem_mirL y).1 hy
    rw [mir2 g (g.2.2.2.2.2.1 z hz)]
    exact hz
  · intro hx
    exact ⟨_, (mem_mirL _).2 ⟨x, hx, rfl⟩, mir2 g (g.2.2.2.2.2.1 x hx)⟩
theorem has_turn (g : BoardM W H L) {c : Int} (h : hasB W H L c = true) : hasB H W (turnL W H L) (turnC W H c) = true := by
  have hr := has_range h
  obtain ⟨h1, h2, _⟩ := turnC_facts g hr
  have hn : ¬ turnC W H c ∈ turnL W H L := fun hm => by
    obtain ⟨y, hy, e⟩ := (mem_turnL _).1 hm
    have := turnC_inj g (g.2.2.2.2.2.1 y hy) hr e
    simp [hasB, this ▸ hy] at h
  simp [hasB, h1, h2, hn]
theorem has_mir (g : BoardM W H L) {c : Int} (h : hasB W H L c = true) : hasB W H (mirL W L) (mirC W c) = true := by
  have hr := has_range h
  obtain ⟨h1, h2, _⟩ := mirC_facts g hr
  have hn : ¬ mirC W c ∈ mirL W L := fun hm => by
    obtain ⟨y, hy, e⟩ := (mem_mirL _).1 hm
    have := mirC_inj g (g.2.2.2.2.2.1 y hy) hr e
    simp [hasB, this ▸ hy] at h
  simp [hasB, h1, h2, hn]
/-! ### What the functions tell of one cell -/
theorem implTurn_eq (g : BoardM W H L) {c : Int} (h : 0 ≤ c ∧ c < W * H) : impl_Board_turned.f W H L c = some (turnC W H c) := by
  obtain ⟨h1, h2, h3, h4, h5⟩ := cell_bounds g h
  obtain ⟨t1, t2, t3, t4, t5, t6⟩ := turnC_facts g h
  obtain ⟨b1, b2, b3, b4, _⟩ := g
  have n0 : ¬ W = 0 := by omega
  unfold impl_Board_turned.f
  have e1 : wrap64 (c % W * H) = c % W * H := wrap64_in _ (by omega)
  have e2 : wrap64 (c % W * H + H) = c % W * H + H := wrap64_in _ (by omega)
  have e3 : wrap64 (c % W * H + H - 1) = c % W * H + H - 1 := wrap64_in _ (by omega)
  have e4 : wrap64 (c / W) = c / W := wrap64_in _ (by omega)
  have e5 : wrap64 (c % W * H + H - 1 - c / W) = c % W * H + H - 1 - c / W := wrap64_in _ (by omega)
  simp only [n0, if_false, tmod_of h.1, tdiv_of h.1, e1, e2, e3, e4, e5]
  rfl
theorem specTurn_eq (g : BoardM W H L) {c : Int} (h : 0 ≤ c ∧ c < W * H) : spec_boTurn.f W H L c = some (turnC W H c) := by
  rw [← implTurn_eq g h]; rfl
theorem implMir_eq (g : BoardM W H L) {c : Int} (h : 0 ≤ c ∧ c < W * H) : impl_Board_mirrored.f W H L c = some (mirC W c) := by
  obtain ⟨h1, h2, h3, h4, h5⟩ := cell_bounds g h
  obtain ⟨t1, t2, t3, t4, t5, t6⟩ := mirC_facts g h
  obtain ⟨b1, b2, b3, b4, _⟩ := g
  have n0 : ¬ W = 0 := by omega
  unfold impl_Board_mirrored.f
  have e1 : wrap64 (c / W) = c / W := wrap64_in _ (by omega)
  have e2 : wrap64 (c / W * W) = c / W * W := wrap64_in _ (by omega)
  have e3 : wrap64 (c / W * W + W) = c / W * W + W := wrap64_in _ (by omega)
  have e4 : wrap64 (c / W * W + W - 1) = c / W * W + W - 1 := wrap64_in _ (by omega)
  have e5 : wrap64 (c / W * W + W - 1 - c % W) = c / W * W + W - 1 - c % W := wrap64_in _ (by omega)
  simp only [n0, if_false, tmod_of h.1, tdiv_of h.1, e1, e2, e3, e4, e5]
  rfl
theorem specMir_eq (g : BoardM W H L) {c : Int} (h : 0 ≤ c ∧ c < W * H) : spec_boMirror.f W H L c = some (mirC W c) := by
  obtain ⟨h1, h2, h3, h4, h5⟩ := cell_bounds g h
  obtain ⟨t1, t2, t3, t4, t5, t6⟩ := mirC_facts g h
  obtain ⟨b1, b2, b3, b4, _⟩ := g
  have n0 : ¬ W = 0 := by omega
  unfold spec_boMirror.f
  have e0 : c - c % W = c / W * W := by omega
  have e1 : wrap64 (c / W * W) = c / W * W := wrap64_in _ (by omega)
  have e3 : wrap64 (c / W * W + W) = c / W * W + W := wrap64_in _ (by omega)
  have e4 : wrap64 (c / W * W + W - 1) = c / W * W + W - 1 := wrap64_in _ (by omega)
  have e5 : wrap64 (c / W * W + W - 1 - c % W) = c / W * W + W - 1 - c % W := wrap64_in _ (by omega)
  simp only [n0, if_false, tmod_of h.1, tdiv_of h.1, e0, e1, e3, e4, e5]
  rfl
/-! ### Boards turned and mirrored -/
theorem movedT_loop (g : BoardM W H L) (a b : Int) (rest : List Int) : ∀ (pre acc : List Int), (∀ x ∈ rest, 0 ≤ x ∧ x < W * H) → acc.length + rest.length ≤ 1000 → (pre ++ rest).length ≤ 1000 →
    Ev (fun k => impl_movedT.l0 k (pre ++ rest) ((pre ++ rest).length : Int) (pre.length : Int) W H L a b acc) (a, b, sortL (acc ++ rest.map (turnC W H))) := by
  induction rest with
  | nil =>
    intro pre acc _ ha hp
    refine Ev.step (fun k => by rw [impl_movedT.l0]) ?_
    have h1 : acc.length < 4611686018427387904 := by simp at ha; omega
    simp only [List.append_nil, nlt_end, if_false, slices_Sort_int_int.f, h1, if_true, Option.bind_some, List.map_nil]
    exact Ev.now _
  | cons x r ih =>
    intro pre acc hr ha hp
    refine Ev.step (fun k => by rw [impl_movedT.l0]) ?_
    have h4 : (0 : Int) ≤ (pre.length : Int) := by omega
    have h5 : pre.length ≤ 1000 := by simp at hp; omega
    have h6 : acc.length < 17592186044416 := by omega
    simp only [lt_mid pre x r, h4, if_true, rd_mid, w_succ (show pre.length ≤ 4611686018427387904 by omega), implTurn_eq g (hr x (by simp)), Option.bind_some, h6]
    have := ih (pre ++ [x]) (acc ++ [turnC W H x]) (fun y hy => hr y (by simp [hy])) (by simp at ha ⊢; omega) (by simpa using hp)
    simpa using this
theorem movedM_loop (g : BoardM W H L) (a b : Int) (rest : List Int) : ∀ (pre acc : List Int), (∀ x ∈ rest, 0 ≤ x ∧ x < W * H) → acc.length + rest.length ≤ 1000 → (pre ++ rest).length ≤ 1000 →
    Ev (fun k => impl_movedM.l0 k (pre ++ rest) ((pre ++ rest).length : Int) (pre.length : Int) W H L a b acc) (a, b, sortL (acc ++ rest.map (mirC W))) := by
  induction rest with
  | nil =>
    intro pre acc _ ha hp
    refine Ev.step (fun k => by rw [impl_movedM.l0]) ?_
    have h1 : acc.length < 4611686018427387904 := by simp at ha; omega
    simp only [List.append_nil, nlt_end, if_false, slices_Sort_int_int.f, h1, if_true, Option.bind_some, List.map_nil]
    exact Ev.now _
  | cons x r ih =>
    intro pre acc hr ha hp
    refine Ev.step (fun k => by rw [impl_movedM.l0]) ?_
    have h4 : (0 : Int) ≤ (pre.length : Int) := by omega
    have h5 : pre.length ≤ 1000 := by simp at hp; omega
    have h6 : acc.length < 17592186044416 := by omega
    simp only [lt_mid pre x r, h4, if_true, rd_mid, w_succ (show pre.length ≤ 4611686018427387904 by omega), implMir_eq g (hr x (by simp)), Option.bind_some, h6]
    have := ih (pre ++ [x]) (acc ++ [mirC W x]) (fun y hy => hr y (by simp [hy])) (by simp at ha ⊢; omega) (by simpa using hp)
    simpa using this
theorem boTurned_loop (g : BoardM W H L) (rest : List Int) : ∀ (pre acc : List Int), (∀ x ∈ rest, 0 ≤ x ∧ x < W * H) → (acc ++ rest.map (turnC W H)).Nodup → acc.length + rest.length ≤ 1000 → (pre ++ rest).length ≤ 1000 →
    Ev (fun k => spec_boTurned.l0 k acc (pre ++ rest) ((pre ++ rest).length : Int) (pre.length : Int) W H L) (H, W, sortL (acc ++ rest.map (turnC W H))) := by
  induction rest with
  | nil =>
    intro pre acc _ hn ha hp
    refine Ev.step (fun k => by rw [spec_boTurned.l0]) ?_
    simp only [List.append_nil, nlt_end, if_false, List.map_nil]
    exact Ev.bind (boMoved_ev acc (by simpa using ha) (by simpa using hn)) (Ev.now _)
  | cons x r ih =>
    intro pre acc hr hn ha hp
    refine Ev.step (fun k => by rw [spec_boTurned.l0]) ?_
    have h4 : (0 : Int) ≤ (pre.length : Int) := by omega
    have h5 : pre.length ≤ 1000 := by simp at hp; omega
    have h6 : acc.length < 17592186044416 := by omega
    simp only [lt_mid pre x r, h4, if_true, rd_mid, w_succ (show pre.length ≤ 4611686018427387904 by omega), specTurn_eq g (hr x (by simp)), Option.bind_some, h6]
    have := ih (pre ++ [x]) (acc ++ [turnC W H x]) (fun y hy => hr y (by simp [hy])) (by simpa using hn) (by simp at ha ⊢; omega) (by simpa using hp)
    simpa using this
theorem boMirrored_loop (g : BoardM W H L) (rest : List Int) : ∀ (pre acc : List Int), (∀ x ∈ rest, 0 ≤ x ∧ x < W * H) → (acc ++ rest.map (mirC W)).Nodup → acc.length + rest.length ≤ 1000 → (pre ++ rest).length ≤ 1000 →
    Ev (fun k => spec_boMirrored.l0 k acc (pre ++ rest) ((pre ++ rest).length : Int) (pre.length : Int) W H L) (W, H, sortL (acc ++ rest.map (mirC W))) := by
  induction rest with
  | nil =>
    intro pre acc _ hn ha hp
    refine Ev.step (fun k => by rw [spec_boMirrored.l0]) ?_
    simp only [List.append_nil, nlt_end, if_false, List.map_nil]
    exact Ev.bind (boMoved_ev acc (by simpa using ha) (by simpa using hn)) (Ev.now _)
  | cons x r ih =>
    intro pre acc hr hn ha hp
    refine Ev.step (fun k => by rw [spec_boMirrored.l0]) ?_
    have h4 : (0 : Int) ≤ (pre.length : Int) := by omega
    have h5 : pre.length ≤ 1000 := by simp at hp; omega
    have h6 : acc.length < 17592186044416 := by omega
    simp only [lt_mid pre x r, h4, if_true, rd_mid, w_succ (show pre.length ≤ 4611686018427387904 by omega), specMir_eq g (hr x (by simp)), Option.bind_some, h6]
    have := ih (pre ++ [x]) (acc ++ [mirC W x]) (fun y hy => hr y (by simp [hy])) (by simpa using hn) (by simp at ha ⊢; omega) (by simpa using hp)
    simpa using this
theorem implTurnBoard (g : BoardM W H L) : Ev (fun k => impl_TurnBoard.f k W H L) (H, W, turnL W H L, true) := by
  unfold impl_TurnBoard.f
  refine Ev.bind (isb_yes g) ?_
  simp only [if_true]
  have h := g.small
  have := movedT_loop g H W L [] [] g.2.2.2.2.2.1 (by simp; omega) (by simp; omega)
  refine Ev.bind (a := (H, W, turnL W H L)) ?_ (Ev.now _)
  unfold impl_movedT.f
  simpa [turnL] using this
theorem implMirBoard (g : BoardM W H L) : Ev (fun k => impl_MirrorBoard.f k W H L) (W, H, mirL W L, true) := by
  unfold impl_MirrorBoard.f
  refine Ev.bind (isb_yes g) ?_
  simp only [if_true]
  have h := g.small
  have := movedM_loop g W H L [] [] g.2.2.2.2.2.1 (by simp; omega) (by simp; omega)
  refine Ev.bind (a := (W, H, mirL W L)) ?_ (Ev.now _)
  unfold impl_movedM.f
  simpa [mirL] using this
theorem specTurnBoard (g : BoardM W H L) : Ev (fun k => spec_TurnBoard.f k W H L) (H, W, turnL W H L, true) := by
  unfold spec_TurnBoard.f
  refine Ev.bind (good_yes g) ?_
  simp only [if_true]
  have h := g.small
  have := boTurned_loop g L [] [] g.2.2.2.2.2.1 (by simpa using turn_nodup g) (by simp; omega) (by simp; omega)
  refine Ev.bind (a := (H, W, turnL W H L)) ?_ (Ev.now _)
  unfold spec_boTurned.f
  simpa [turnL] using this
theorem specMirBoard (g : BoardM W H L) : Ev (fun k => spec_MirrorBoard.f k W H L) (W, H, mirL W L, true) := by
  unfold spec_MirrorBoard.f
  refine Ev.bind (good_yes g) ?_
  simp only [if_true]
  have h := g.small
  have := boMirrored_loop g L [] [] g.2.2.2.2.2.1 (by simpa using mir_nodup g) (by simp; omega) (by simp; omega)
  refine Ev.bind (a := (W, H, mirL W L)) ?_ (Ev.now _)
  unfold spec_boMirrored.f
  simpa [mirL] using this
end
end Go.Proofs.Ytmfbhhicioepjaa.H

namespace Go.Proofs.Ytmfbhhicioepjaa.H
open Go.RowKit Go.IntWalk Go.Proofs.Ytmfbhhicioepjaa.Q Go.Proofs.YtmfbhhicioepjaaW.PrintWords Go.Proofs.YtmfbhhicioepjaaW.PrintMore
set_option linter.unusedVariables false
set_option linter.unusedSimpArgs false
def nameN (p q : Int) : ByteArray := strOfNums [97 + p, 49 + q]
theorem name_fin : ∀ p q : Fin 8, (⟨#[97, 98, 99, 100, 101, 102, 103, 104]⟩ : ByteArray).extract p.val (p.val + 1) ++ strOfNums [49 + (q.val : Int)] = nameN (p.val : Int) (q.val : Int) := by decide +kernel
theorem name_eq (p q : Int) (hp : 0 ≤ p ∧ p < 8) (hq : 0 ≤ q ∧ q < 8) : (⟨#[97, 98, 99, 100, 101, 102, 103, 104]⟩ : ByteArray).extract p.toNat (p + 1).toNat ++ strOfNums [49 + q] = nameN p q := by
  have h := name_fin ⟨p.toNat, by omega⟩ ⟨q.toNat, by omega⟩
  have e1 : ((p.toNat : Nat) : Int) = p := by omega
  have e2 : ((q.toNat : Nat) : Int) = q := by omega
  have e3 : (p + 1).toNat = p.toNat + 1 := by omega
  simp only [e1, e2] at h
  rw [e3]
  exact h
theorem nameN_list (p q : Int) : (nameN p q).toList = [UInt8.ofNat (97 + p).toNat, UInt8.ofNat (49 + q).toNat] := by
  rw [ByteArray.toList_eq]; unfold nameN; rw [strOfNums_data]; rfl
theorem ofNat_toNat (n : Nat) (h : n < 256) : (UInt8.ofNat n).toNat = n := by simp; omega
theorem name_iff (p q : Int) (hp : 0 ≤ p ∧ p < 8) (hq : 0 ≤ q ∧ q < 8) (s : ByteArray) : (nameN p q).toList = s.toList ↔ s.size = 2 ∧ bt s 0 = 97 + p ∧ bt s 1 = 49 + q := by
  rw [nameN_list]
  obtain ⟨⟨l⟩⟩ := s
  rw [ByteArray.toList_eq]
  have hsz : (⟨⟨l⟩⟩ : ByteArray).size = l.length := rfl
  have hb0 : ∀ h : 0 < l.length, bt ⟨⟨l⟩⟩ 0 = (l[0].toNat : Int) := fun h => (bt_at ⟨⟨l⟩⟩ 0 h).symm
  have hb1 : ∀ h : 1 < l.length, bt ⟨⟨l⟩⟩ 1 = (l[1].toNat : Int) := fun h => (bt_at ⟨⟨l⟩⟩ 1 h).symm
  show [UInt8.ofNat (97 + p).toNat, UInt8.ofNat (49 + q).toNat] = l ↔ _
  rw [hsz]
  constructor
  · intro h
    subst h
    refine ⟨rfl, ?_, ?_⟩
    · rw [hb0 (by simp)]
      have := ofNat_toNat (97 + p).toNat (by omega)
      show ((UInt8.ofNat (97 + p).toNat).toNat : Int) = _
      omega
    · rw [hb1 (by simp)]
      have := ofNat_toNat (49 + q).toNat (by omega)
      show ((UInt8.ofNat (49 + q).toNat).toNat : Int) = _
      omega
  · rintro ⟨h1, h2, h3⟩
    obtain ⟨a, b, rfl⟩ : ∃ a b, l = [a, b] := by
      match l, h1 with
      | [a, b], _ => exact ⟨a, b, rfl⟩
    have e0 : bt ⟨⟨[a, b]⟩⟩ 0 = (a.toNat : Int) := (bt_at ⟨⟨[a, b]⟩⟩ 0 (by show 0 < 2; omega)).symm
    have e1 : bt ⟨⟨[a, b]⟩⟩ 1 = (b.toNat : Int) := (bt_at ⟨⟨[a, b]⟩⟩ 1 (by show 1 < 2; omega)).symm
    rw [h2] at e0
    rw [h3] at e1
    have e0' : (97 + p).toNat = a.toNat := by omega
    have e1' : (49 + q).toNat = b.toNat := by omega
    rw [e0', e1']
    simp
theorem byte_range (s : ByteArray) (i : Int) : 0 ≤ bt s i ∧ bt s i ≤ 255 := by
  unfold bt
  split
  · rename_i h; have := (s[i.toNat]'h).toNat_lt; omega
  · omega
section
variable {W H : Int} {L : List Int}
theorem cell8 (g : BoardM W H L) {c : Int} (h : 0 ≤ c ∧ c < W * H) : (0 ≤ c % W ∧ c % W < 8) ∧ (0 ≤ c / W ∧ c / W < 8) := by
  obtain ⟨h1, h2, h3, h4, h5⟩ := cell_bounds g h
  obtain ⟨b1, b2, b3, b4, _⟩ := g
  exact ⟨⟨h1, by omega⟩, h3, by omega⟩
theorem implName_eq (g : BoardM W H L) {c : Int} (h : 0 ≤ c ∧ c < W * H) : impl_Board_name.f W H L c = some (nameN (c % W) (c / W)) := by
  obtain ⟨⟨h1, h2⟩, h3, h4⟩ := cell8 g h
  have n0 : ¬ W = 0 := by have := g.1; omega
  unfold impl_Board_name.f nameN
  have e1 : wrap64 (97 + c % W) = 97 + c % W := wrap64_in _ (by omega)
  have e2 : wrap64 (c / W) = c / W := wrap64_in _ (by omega)
  have e3 : wrap64 (49 + c / W) = 49 + c / W := wrap64_in _ (by omega)
  have e4 : (97 + c % W) % 256 = 97 + c % W := by rw [Int.emod_eq_of_lt (by omega) (by omega)]
  have e5 : (49 + c / W) % 256 = 49 + c / W := by rw [Int.emod_eq_of_lt (by omega) (by omega)]
  simp only [n0, if_false, tmod_of h.1, tdiv_of h.1, e1, e2, e3, e4, e5]
theorem l1Num_ev (q : Int) (hq : 0 ≤ q ∧ q < 8) : Ev (fun k => spec_l1Num.f k (q + 1)) (strOfNums [49 + q]) := by
  refine Ev.step (fun k => by rw [spec_l1Num.f]) ?_
  have h1 : q + 1 < 10 := by omega
  have e1 : wrap64 (48 + (q + 1)) = 49 + q := by rw [wrap64_in _ (by omega)]; omega
  have e2 : (49 + q) % 256 = 49 + q := by rw [Int.emod_eq_of_lt (by omega) (by omega)]
  simp only [h1, if_true, e1, e2]
  exact Ev.now _
theorem specName_ev (g : BoardM W H L) {c : Int} (h : 0 ≤ c ∧ c < W * H) : Ev (fun k => spec_boName.f k W H L c) (nameN (c % W) (c / W)) := by
  obtain ⟨hp, hq⟩ := cell8 g h
  have n0 : ¬ W = 0 := by have := g.1; omega
  unfold spec_boName.f
  have e1 : wrap64 (c % W + 1) = c % W + 1 := wrap64_in _ (by omega)
  have e2 : wrap64 (c / W) = c / W := wrap64_in _ (by omega)
  have e3 : wrap64 (c / W + 1) = c / W + 1 := wrap64_in _ (by omega)
  have h1 : c % W ≤ c % W + 1 := by omega
  have h2 : c % W + 1 ≤ 8 := by omega
  simp only [n0, if_false, tmod_of h.1, tdiv_of h.1, e1, e2, e3, hp.1, h1, h2, if_true]
  refine Ev.bind (l1Num_ev (c / W) hq) ?_
  have hs : ((⟨#[97, 98, 99, 100, 101, 102, 103, 104]⟩ : ByteArray).extract (c % W).toNat (c % W + 1).toNat).size + (strOfNums [49 + c / W]).size ≤ 9223372036854775807 := by
    have h3 := ByteArray.size_extract (a := (⟨#[97, 98, 99, 100, 101, 102, 103, 104]⟩ : ByteArray)) (b := (c % W).toNat) (e := (c % W + 1).toNat)
    have h4 : (⟨#[97, 98, 99, 100, 101, 102, 103, 104]⟩ : ByteArray).size = 8 := rfl
    rw [strOfNums_size]
    simp only [List.length_cons, List.length_nil]
    omega
  simp only [hs, if_true, name_eq _ _ hp hq]
  exact Ev.now _
/-! ### One cell of any board -/
open Classical in
noncomputable def hasM (W H : Int) (L : List Int) (c : Int) : Bool × Bool := if BoardM W H L then (hasB W H L c, true) else (false, false)
open Classical in
noncomputable def okM (W H : Int) (L : List Int) (c : Int) : Bool := decide (BoardM W H L) && hasB W H L c
theorem implHas (hl : L.length ≤ 9223372036854775807) (c : Int) : Ev (fun k => impl_HasCell.f k W H L c) (hasM W H L c) := by
  unfold impl_HasCell.f hasM
  by_cases g : BoardM W H L
  · refine Ev.bind (isb_yes g) ?_
    simp only [if_true, g]
    exact Ev.bind (has_ev g c (by have := g.small; omega)) (Ev.now _)
  · refine Ev.bind (isb_no g hl) ?_
    simp only [Bool.false_eq_true, if_false, g]
    exact Ev.now _
theorem specHas (hl : L.length ≤ 9223372036854775807) (c : Int) : Ev (fun k => spec_HasCell.f k W H L c) (hasM W H L c) := by
  unfold spec_HasCell.f hasM
  by_cases g : BoardM W H L
  · refine Ev.bind (good_yes g) ?_
    simp only [if_true, g]
    exact Ev.bind (boHas_ev g c (by have := g.small; omega)) (Ev.now _)
  · refine Ev.bind (good_no g hl) ?_
    simp only [Bool.false_eq_true, if_false, g]
    exact Ev.now _
/-- What a function tells that asks for a board and a cell that is there. -/
noncomputable def askM {α : Type} (z : α) (f : Int → α) (W H : Int) (L : List Int) (c : Int) : α × Bool := if okM W H L c = true then (f c, true) else (z, false)
theorem askM_ok {α : Type} (z : α) (f : Int → α) (c : Int) : (askM z f W H L c).2 = okM W H L c := by
  unfold askM; split
  · rename_i h; rw [h]
  · rename_i h; simp only [Bool.not_eq_true] at h; rw [h]
theorem ask_impl {α : Type} (z : α) (f : Int → α) (e : Int → Option α) (hl : L.length ≤ 9223372036854775807) (c : Int) (he : ∀ g : BoardM W H L, 0 ≤ c ∧ c < W * H → e c = some (f c)) :
    Ev (fun k => (impl_IsBoard.f k W H L).bind fun t => (if t = true then ((impl_Board_has.f k W H L c).bind fun t1 => (if t1 = true then ((e c).bind fun t2 => (some (t2, true))) else (some (z, false)))) else (some (z, false)))) (askM z f W H L c) := by
  by_cases g : BoardM W H L
  · refine Ev.bind (isb_yes g) ?_
    simp only [if_true]
    refine Ev.bind (has_ev g c (by have := g.small; omega)) ?_
    cases hb : hasB W H L c with
    | true =>
      have h : askM z f W H L c = (f c, true) := by unfold askM okM; simp [g, hb]
      simp only [if_true, he g (has_range hb), Option.bind_some, h]
      exact Ev.now _
    | false =>
      have h : askM z f W H L c = (z, false) := by unfold askM okM; simp [hb]
      simp only [Bool.false_eq_true, if_false, h]
      exact Ev.now _
  · have h : askM z f W H L c = (z, false) := by unfold askM okM; simp [g]
    refine Ev.bind (isb_no g hl) ?_
    simp only [Bool.false_eq_true, if_false, h]
    exact Ev.now _
theorem ask_spec {α : Type} (z : α) (f : Int → α) (e : Nat → Int → Option α) (hl : L.length ≤ 9223372036854775807) (c : Int) (he : ∀ g : BoardM W H L, 0 ≤ c ∧ c < W * H → Ev (fun k => e k c) (f c)) :
    Ev (fun k => (spec_boGood.f k W H L).bind fun t => (if t = true then ((spec_boHas.f k W H L c).bind fun t1 => (if t1 = true then ((e k c).bind fun t2 => (some (t2, true))) else (some (z, false)))) else (some (z, false)))) (askM z f W H L c) := by
  by_cases g : BoardM W H L
  · refine Ev.bind (good_yes g) ?_
    simp only [if_true]
    refine Ev.bind (boHas_ev g c (by have := g.small; omega)) ?_
    cases hb : hasB W H L c with
    | true =>
      have h : askM z f W H L c = (f c, true) := by unfold askM okM; simp [g, hb]
      simp only [if_true, h]
      exact Ev.bind (he g (has_range hb)) (Ev.now _)
    | false =>
      have h : askM z f W H L c = (z, false) := by unfold askM okM; simp [hb]
      simp only [Bool.false_eq_true, if_false, h]
      exact Ev.now _
  · have h : askM z f W H L c = (z, false) := by unfold askM okM; simp [g]
    refine Ev.bind (good_no g hl) ?_
    simp only [Bool.false_eq_true, if_false, h]
    exact Ev.now _
theorem implTurnCell (hl : L.length ≤ 9223372036854775807) (c : Int) : Ev (fun k => impl_TurnCell.f k W H L c) (askM 0 (turnC W H) W H L c) := by
  unfold impl_TurnCell.f
  exact ask_impl 0 (turnC W H) (fun c => impl_Board_turned.f W H L c) hl c (fun g h => implTurn_eq g h)
theorem specTurnCell (hl : L.length ≤ 9223372036854775807) (c : Int) : Ev (fun k => spec_TurnCell.f k W H L c) (askM 0 (turnC W H) W H L c) := by
  unfold spec_TurnCell.f
  exact ask_spec 0 (turnC W H) (fun _ c => spec_boTurn.f W H L c) hl c (fun g h => by simp only [specTurn_eq g h]; exact Ev.now _)
theorem implMirCell (hl : L.length ≤ 9223372036854775807) (c : Int) : Ev (fun k => impl_MirrorCell.f k W H L c) (askM 0 (mirC W) W H L c) := by
  unfold impl_MirrorCell.f
  exact ask_impl 0 (mirC W) (fun c => impl_Board_mirrored.f W H L c) hl c (fun g h => implMir_eq g h)
theorem specMirCell (hl : L.length ≤ 9223372036854775807) (c : Int) : Ev (fun k => spec_MirrorCell.f k W H L c) (askM 0 (mirC W) W H L c) := by
  unfold spec_MirrorCell.f
  exact ask_spec 0 (mirC W) (fun _ c => spec_boMirror.f W H L c) hl c (fun g h => by simp only [specMir_eq g h]; exact Ev.now _)
theorem implNameOf (hl : L.length ≤ 9223372036854775807) (c : Int) : Ev (fun k => impl_NameOf.f k W H L c) (askM (⟨#[]⟩ : ByteArray) (fun c => nameN (c % W) (c / W)) W H L c) := by
  unfold impl_NameOf.f
  exact ask_impl _ (fun c => nameN (c % W) (c / W)) (fun c => impl_Board_name.f W H L c) hl c (fun g h => implName_eq g h)
theorem specNameOf (hl : L.length ≤ 9223372036854775807) (c : Int) : Ev (fun k => spec_NameOf.f k W H L c) (askM (⟨#[]⟩ : ByteArray) (fun c => nameN (c % W) (c / W)) W H L c) := by
  unfold spec_NameOf.f
  exact ask_spec _ (fun c => nameN (c % W) (c / W)) (fun k c => spec_boName.f k W H L c) hl c (fun g h => specName_ev g h)
/-! ### The cell of a name -/
def placeN (W : Int) (s : ByteArray) : Int := (bt s 1 - 49) * W + (bt s 0 - 97)
def NameOk (W H : Int) (L : List Int) (s : ByteArray) : Prop := s.size = 2 ∧ (0 ≤ bt s 0 - 97 ∧ bt s 0 - 97 < W) ∧ (0 ≤ bt s 1 - 49 ∧ bt s 1 - 49 < H) ∧ hasB W H L (placeN W s) = true
open Classical in
noncomputable def findM (W H : Int) (L : List Int) (s : ByteArray) : Int × Bool := if BoardM W H L ∧ NameOk W H L s then (placeN W s, true) else (0, false)
theorem implFind_no (s : ByteArray) : Ev (fun k => impl_CellOfName.j0 k s true W H L) (0, false) := by
  refine Ev.step (fun k => by rw [impl_CellOfName.j0]) ?_
  simp only [if_true]
  exact Ev.now _
theorem implFind (hl : L.length ≤ 9223372036854775807) (s : ByteArray) : Ev (fun k => impl_CellOfName.f k W H L s) (findM W H L s) := by
  unfold impl_CellOfName.f
  by_cases g : BoardM W H L
  · refine Ev.bind (isb_yes g) ?_
    simp only [if_true]
    by_cases hs : s.size = 2
    · have hs' : ((s.size : Int) != 2) = false := by simp [hs]
      simp only [hs']
      refine Ev.step (fun k => by rw [impl_CellOfName.j0]) ?_
      have s0 : (0 : Int) < (s.size : Int) := by omega
      have s1 : (1 : Int) < (s.size : Int) := by omega
      obtain ⟨r1, r2⟩ := byte_range s 0
      obtain ⟨r3, r4⟩ := byte_range s 1
      have e1 : wrap64 (bt s 0) = bt s 0 := wrap64_in _ (by omega)
      have e2 : wrap64 (bt s 0 - 97) = bt s 0 - 97 := wrap64_in _ (by omega)
      have e3 : wrap64 (bt s 1) = bt s 1 := wrap64_in _ (by omega)
      have e4 : wrap64 (bt s 1 - 49) = bt s 1 - 49 := wrap64_in _ (by omega)
      simp only [Bool.false_eq_true, if_false, s0, s1, if_true, e1, e2, e3, e4]
      by_cases c1 : bt s 0 - 97 < 0
      · have h : findM W H L s = (0, false) := by unfold findM; rw [if_neg]; rintro ⟨_, _, ⟨h, _⟩, _⟩; omega
        simp only [c1, if_true, h]; exact Ev.now _
      by_cases c2 : bt s 0 - 97 ≥ W
      · have h : findM W H L s = (0, false) := by unfold findM; rw [if_neg]; rintro ⟨_, _, ⟨_, h⟩, _⟩; omega
        simp only [c1, c2, if_false, if_true, h]; exact Ev.now _
      by_cases c3 : bt s 1 - 49 < 0
      · have h : findM W H L s = (0, false) := by unfold findM; rw [if_neg]; rintro ⟨_, _, _, ⟨h, _⟩, _⟩; omega
        simp only [c1, c2, c3, if_false, if_true, h]; exact Ev.now _
      by_cases c4 : bt s 1 - 49 ≥ H
      · have h : findM W H L s = (0, false) := by unfold findM; rw [if_neg]; rintro ⟨_, _, _, ⟨_, h⟩, _⟩; omega
        simp only [c1, c2, c3, c4, if_false, if_true, h]; exact Ev.now _
      have b1 := g.1
      have b2 := g.2.1
      have b4 := g.2.2.2.1
      have m1 : 0 ≤ (bt s 1 - 49) * W := Int.mul_nonneg (by omega) (by omega)
      have m2 : (bt s 1 - 49) * W ≤ 8 * 8 := Int.mul_le_mul (by omega) b2 (by omega) (by omega)
      have e5 : wrap64 ((bt s 1 - 49) * W) = (bt s 1 - 49) * W := wrap64_in _ (by omega)
      have e6 : wrap64 ((bt s 1 - 49) * W + (bt s 0 - 97)) = placeN W s := by rw [wrap64_in _ (by omega)]; rfl
      simp only [c1, c2, c3, c4, if_false, e5, e6]
      refine Ev.bind (has_ev g (placeN W s) (by have := g.small; omega)) ?_
      cases hb : hasB W H L (placeN W s) with
      | true =>
        have h : findM W H L s = (placeN W s, true) := by unfold findM; rw [if_pos]; exact ⟨g, hs, ⟨by omega, by omega⟩, ⟨by omega, by omega⟩, hb⟩
        simp only [if_true, h]; exact Ev.now _
      | false =>
        have h : findM W H L s = (0, false) := by unfold findM; rw [if_neg]; rintro ⟨_, _, _, _, h⟩; rw [hb] at h; cases h
        simp only [Bool.false_eq_true, if_false, h]; exact Ev.now _
    · have hs' : ((s.size : Int) != 2) = true := by simp; omega
      have h : findM W H L s = (0, false) := by unfold findM; rw [if_neg]; rintro ⟨_, h, _⟩; exact hs h
      simp only [hs', h]
      exact implFind_no s
  · have h : findM W H L s = (0, false) := by unfold findM; rw [if_neg]; exact fun h => g h.1
    refine Ev.bind (isb_no g hl) ?_
    simp only [Bool.false_eq_true, if_false, h]
    exact implFind_no s
theorem name_place (g : BoardM W H L) {c : Int} (hc : hasB W H L c = true) (s : ByteArray) : (nameN (c % W) (c / W)).toList = s.toList ↔ NameOk W H L s ∧ c = placeN W s := by
  have hr := has_range hc
  obtain ⟨hp, hq⟩ := cell8 g hr
  obtain ⟨h1, h2, h3, h4, h5⟩ := cell_bounds g hr
  rw [name_iff _ _ hp hq]
  constructor
  · rintro ⟨a1, a2, a3⟩
    have e1 : bt s 0 - 97 = c % W := by omega
    have e2 : bt s 1 - 49 = c / W := by omega
    have e : c = placeN W s := by unfold placeN; rw [e1, e2]; omega
    refine ⟨⟨a1, ?_, ?_, e ▸ hc⟩, e⟩
    · rw [e1]; exact ⟨h1, h2⟩
    · rw [e2]; exact ⟨h3, h4⟩
  · rintro ⟨⟨a1, a2, a3, _⟩, rfl⟩
    obtain ⟨p1, p2⟩ := place_mod (W := W) (p := bt s 0 - 97) (q := bt s 1 - 49) a2
    unfold placeN
    rw [p1, p2]
    exact ⟨a1, by omega, by omega⟩
open Classical in
theorem find_loop (g : BoardM W H L) (s : ByteArray) (rest : List Int) : ∀ pre : List Int, (∀ x ∈ rest, hasB W H L x = true) → (pre ++ rest).length ≤ 1000 →
    Ev (fun k => spec_boFind.l0 k s (pre ++ rest) ((pre ++ rest).length : Int) (pre.length : Int) W H L) (if placeN W s ∈ rest ∧ NameOk W H L s then placeN W s else -1) := by
  induction rest with
  | nil =>
    intro pre _ _
    refine Ev.step (fun k => by rw [spec_boFind.l0]) ?_
    simp only [List.append_nil, nlt_end, if_false, List.not_mem_nil, false_and]
    exact Ev.now _
  | cons x r ih =>
    intro pre hr hp
    refine Ev.step (fun k => by rw [spec_boFind.l0]) ?_
    have h4 : (0 : Int) ≤ (pre.length : Int) := by omega
    have h5 : pre.length ≤ 1000 := by simp at hp; omega
    simp only [lt_mid pre x r, h4, if_true, rd_mid, w_succ (show pre.length ≤ 4611686018427387904 by omega)]
    refine Ev.bind (specName_ev g (has_range (hr x (by simp)))) ?_
    by_cases hx : (nameN (x % W) (x / W)).toList = s.toList
    · obtain ⟨a1, a2⟩ := (name_place g (hr x (by simp)) s).1 hx
      have h : (if placeN W s ∈ x :: r ∧ NameOk W H L s then placeN W s else -1) = x := by rw [if_pos ⟨by simp [a2], a1⟩, a2]
      rw [h]
      simp only [hx, if_true]
      exact Ev.now _
    · have h : (placeN W s ∈ x :: r ∧ NameOk W H L s) = (placeN W s ∈ r ∧ NameOk W H L s) := by
        rw [eq_iff_iff]
        constructor
        · rintro ⟨h1, h2⟩
          rcases List.mem_cons.1 h1 with e | h1
          · exact absurd ((name_place g (hr x (by simp)) s).2 ⟨h2, e.symm⟩) hx
          · exact ⟨h1, h2⟩
        · rintro ⟨h1, h2⟩; exact ⟨by simp [h1], h2⟩
      simp only [hx, if_false]
      have h2 := ih (pre ++ [x]) (fun y hy => hr y (by simp [hy])) (by simpa using hp)
      have h3 : (if placeN W s ∈ x :: r ∧ NameOk W H L s then placeN W s else -1) = (if placeN W s ∈ r ∧ NameOk W H L s then placeN W s else -1) := by
        by_cases c : placeN W s ∈ r ∧ NameOk W H L s
        · rw [if_pos c, if_pos (h ▸ c)]
        · rw [if_neg c, if_neg (fun d => c (h ▸ d))]
      rw [h3]
      simpa using h2
open Classical in
theorem specFind (hl : L.length ≤ 9223372036854775807) (s : ByteArray) : Ev (fun k => spec_CellOfName.f k W H L s) (findM W H L s) := by
  unfold spec_CellOfName.f
  by_cases g : BoardM W H L
  · refine Ev.bind (good_yes g) ?_
    simp only [if_true]
    have hf : Ev (fun k => spec_boFind.f k W H L s) (if placeN W s ∈ cellsM W H L ∧ NameOk W H L s then placeN W s else -1) := by
      unfold spec_boFind.f
      refine Ev.bind (boCells_ev g (by have := g.small; omega)) ?_
      have := find_loop g s (cellsM W H L) [] (fun x hx => mem_cellsM.1 hx) (by have := cellsM_length g; simp; omega)
      simpa using this
    refine Ev.bind hf ?_
    by_cases c : NameOk W H L s
    · have hm : placeN W s ∈ cellsM W H L ∧ NameOk W H L s := ⟨mem_cellsM.2 c.2.2.2, c⟩
      have h : findM W H L s = (placeN W s, true) := by unfold findM; rw [if_pos ⟨g, c⟩]
      have hn : ¬ placeN W s < 0 := by have := (has_range c.2.2.2).1; omega
      simp only [if_pos hm, hn, if_false, h]
      exact Ev.now _
    · have h : findM W H L s = (0, false) := by unfold findM; rw [if_neg (fun d => c d.2)]
      have hn : (-1 : Int) < 0 := by omega
      simp only [if_neg (fun d : placeN W s ∈ cellsM W H L ∧ NameOk W H L s => c d.2), hn, if_true, h]
      exact Ev.now _
  · have h : findM W H L s = (0, false) := by unfold findM; rw [if_neg (fun d => g d.1)]
    refine Ev.bind (good_no g hl) ?_
    simp only [Bool.false_eq_true, if_false, h]
    exact Ev.now _
theorem find_name (g : BoardM W H L) {c : Int} (hc : hasB W H L c = true) : findM W H L (nameN (c % W) (c / W)) = (c, true) := by
  obtain ⟨h1, h2⟩ := (name_place g hc (nameN (c % W) (c / W))).1 rfl
  unfold findM
  rw [if_pos ⟨g, h1⟩, ← h2]
end
end Go.Proofs.Ytmfbhhicioepjaa.H

namespace Go.Proofs.Ytmfbhhicioepjaa.H
open Go.RowKit Go.IntWalk Go.Proofs.Ytmfbhhicioepjaa.Q Go.Proofs.YtmfbhhicioepjaaW.PrintWords Go.Proofs.YtmfbhhicioepjaaW.PrintMore
set_option linter.unusedVariables false
set_option linter.unusedSimpArgs false
theorem ySame_loop (rest pre : List Int) (hl : (pre ++ rest).length ≤ 4611686018427387904) : Ev (fun k => laws_ySame.l0 k (pre ++ rest) (pre ++ rest) ((pre ++ rest).length : Int) (pre.length : Int)) true := by
  induction rest generalizing pre with
  | nil =>
    refine Ev.step (fun k => by rw [laws_ySame.l0]) ?_
    simp only [List.append_nil, nlt_end, if_false]
    exact Ev.now _
  | cons x r ih =>
    refine Ev.step (fun k => by rw [laws_ySame.l0]) ?_
    have h4 : (0 : Int) ≤ (pre.length : Int) := by omega
    have h5 : pre.length ≤ 4611686018427387904 := by simp at hl; omega
    simp only [lt_mid pre x r, h4, if_true, rd_mid, w_succ h5]
    have := ih (pre ++ [x]) (by simpa using hl)
    simpa using this
theorem ySame_ev (l : List Int) (hl : l.length ≤ 4611686018427387904) : Ev (fun k => laws_ySame.f k l l) true := by
  unfold laws_ySame.f
  simp only [if_true]
  simpa using ySame_loop l [] (by simpa using hl)
theorem yBoard_ev (W H : Int) (l : List Int) (hl : l.length ≤ 4611686018427387904) : Ev (fun k => laws_yBoard.f k W H l W H l) true := by
  unfold laws_yBoard.f
  simp only [if_true]
  exact Ev.bind (ySame_ev l hl) (Ev.now _)
theorem yRises_loop (l : List Int) (hl : l.length ≤ 4611686018427387904) (hs : l.Pairwise (· < ·)) : ∀ (n i : Nat), n + i = l.length → 1 ≤ i → Ev (fun k => laws_yRises.l0 k l (i : Int)) true := by
  intro n
  induction n with
  | zero =>
    intro i h1 h2
    refine Ev.step (fun k => by rw [laws_yRises.l0]) ?_
    have h3 : ¬ ((i : Int) < (l.length : Int)) := by omega
    simp only [h3, if_false]
    exact Ev.now _
  | succ n ih =>
    intro i h1 h2
    refine Ev.step (fun k => by rw [laws_yRises.l0]) ?_
    have h3 : (i : Int) < (l.length : Int) := by omega
    have h4 : wrap64 ((i : Int) - 1) = ((i - 1 : Nat) : Int) := by rw [wrap64_in _ (by omega)]; omega
    have h5 : (0 : Int) ≤ ((i - 1 : Nat) : Int) := by omega
    have h6 : ((i - 1 : Nat) : Int) < (l.length : Int) := by omega
    have h7 : (0 : Int) ≤ (i : Int) := by omega
    have h8 : ¬ l[i - 1] ≥ l[i] := by have := (pairwise_iff l).1 hs i h2 (by omega); omega
    simp only [h3, h4, h5, h6, h7, if_true, rd_nat l (i - 1) (by omega), rd_nat l i (by omega), w_succ (show i ≤ 4611686018427387904 by omega), h8, if_false]
    exact ih (i + 1) (by omega) (by omega)
theorem yRises_ev (l : List Int) (hl : l.length ≤ 4611686018427387904) (hs : l.Pairwise (· < ·)) : Ev (fun k => laws_yRises.f k l) true := by
  unfold laws_yRises.f
  rcases Nat.eq_zero_or_pos l.length with h0 | h0
  · refine Ev.step (fun k => by rw [laws_yRises.l0]) ?_
    have h3 : ¬ ((1 : Int) < (l.length : Int)) := by omega
    simp only [h3, if_false]
    exact Ev.now _
  · exact yRises_loop l hl hs (l.length - 1) 1 (by omega) (by omega)
theorem filter_split (p : Int → Bool) (l : List Int) : (l.filter p).length + (l.filter (fun x => !p x)).length = l.length := by
  induction l with
  | nil => rfl
  | cons x r ih => cases h : p x <;> simp [List.filter_cons, h] <;> omega
theorem count_cells {W H : Int} {L : List Int} (g : BoardM W H L) : ((cellsM W H L).length : Int) = W * H - (L.length : Int) := by
  have ha := g.area
  have e1 : cellsM W H L = ((List.range (W * H).toNat).map Int.ofNat).filter (fun x => !L.contains x) := by
    unfold cellsM
    refine List.filter_congr (fun x hx => ?_)
    obtain ⟨n, hn, rfl⟩ := List.mem_map.1 hx
    have hn := List.mem_range.1 hn
    have h1 : (0 : Int) ≤ Int.ofNat n := by show (0 : Int) ≤ (n : Int); omega
    have h2 : Int.ofNat n < W * H := by show (n : Int) < W * H; omega
    simp only [hasB, h1, h2, decide_true, Bool.true_and]
  have hs : ((List.range (W * H).toNat).map Int.ofNat).Pairwise (· < ·) := by
    rw [List.pairwise_map]
    refine List.pairwise_lt_range.imp (fun h => ?_)
    simp; omega
  have hf : (((List.range (W * H).toNat).map Int.ofNat).filter (fun x => L.contains x)).Pairwise (· < ·) := hs.filter _
  have e2 : sortL (((List.range (W * H).toNat).map Int.ofNat).filter (fun x => L.contains x)) = L := by
    refine sort_key (hf.imp (fun h => by omega)) g.2.2.2.2.2.2 (fun x => ?_)
    rw [List.mem_filter]
    constructor
    · rintro ⟨_, h⟩; simpa using h
    · intro h
      have hr := g.2.2.2.2.2.1 x h
      refine ⟨List.mem_map.2 ⟨x.toNat, List.mem_range.2 (by omega), ?_⟩, by simpa using h⟩
      show ((x.toNat : Nat) : Int) = x
      omega
  have e3 := congrArg List.length e2
  rw [sortL_length] at e3
  have e4 := filter_split (fun x => L.contains x) ((List.range (W * H).toNat).map Int.ofNat)
  rw [e3, ← e1] at e4
  rw [List.length_map, List.length_range] at e4
  omega
section
variable {W H : Int} {L : List Int}
open Classical in
noncomputable def cellsR (W H : Int) (L : List Int) : List Int × Bool := if BoardM W H L then (cellsM W H L, true) else ([], false)
open Classical in
noncomputable def countR (W H : Int) (L : List Int) : Int × Bool := if BoardM W H L then (W * H - (L.length : Int), true) else (0, false)
open Classical in
noncomputable def turnR (W H : Int) (L : List Int) : Int × Int × List Int × Bool := if BoardM W H L then (H, W, turnL W H L, true) else (0, 0, [], false)
open Classical in
noncomputable def mirR (W H : Int) (L : List Int) : Int × Int × List Int × Bool := if BoardM W H L then (W, H, mirL W L, true) else (0, 0, [], false)
theorem implTurnR (hl : L.length ≤ 9223372036854775807) : Ev (fun k => impl_TurnBoard.f k W H L) (turnR W H L) := by
  unfold turnR
  by_cases g : BoardM W H L
  · simp only [g, if_true]; exact implTurnBoard g
  · unfold impl_TurnBoard.f
    refine Ev.bind (isb_no g hl) ?_
    simp only [Bool.false_eq_true, if_false, g]
    exact Ev.now _
theorem specTurnR (hl : L.length ≤ 9223372036854775807) : Ev (fun k => spec_TurnBoard.f k W H L) (turnR W H L) := by
  unfold turnR
  by_cases g : BoardM W H L
  · simp only [g, if_true]; exact specTurnBoard g
  · unfold spec_TurnBoard.f
    refine Ev.bind (good_no g hl) ?_
    simp only [Bool.false_eq_true, if_false, g]
    exact Ev.now _
theorem implMirR (hl : L.length ≤ 9223372036854775807) : Ev (fun k => impl_MirrorBoard.f k W H L) (mirR W H L) := by
  unfold mirR
  by_cases g : BoardM W H L
  · simp only [g, if_true]; exact implMirBoard g
  · unfold impl_MirrorBoard.f
    refine Ev.bind (isb_no g hl) ?_
    simp only [Bool.false_eq_true, if_false, g]
    exact Ev.now _
theorem specMirR (hl : L.length ≤ 9223372036854775807) : Ev (fun k => spec_MirrorBoard.f k W H L) (mirR W H L) := by
  unfold mirR
  by_cases g : BoardM W H L
  · simp only [g, if_true]; exact specMirBoard g
  · unfold spec_MirrorBoard.f
    refine Ev.bind (good_no g hl) ?_
    simp only [Bool.false_eq_true, if_false, g]
    exact Ev.now _
theorem implCellsR (hl : L.length ≤ 9223372036854775807) : Ev (fun k => impl_CellsOf.f k W H L) (cellsR W H L) := by
  unfold cellsR impl_CellsOf.f
  by_cases g : BoardM W H L
  · refine Ev.bind (isb_yes g) ?_
    simp only [g, if_true]
    exact Ev.bind (present_ev g (by have := g.small; omega)) (Ev.now _)
  · refine Ev.bind (isb_no g hl) ?_
    simp only [Bool.false_eq_true, if_false, g]
    exact Ev.now _
theorem specCellsR (hl : L.length ≤ 9223372036854775807) : Ev (fun k => spec_CellsOf.f k W H L) (cellsR W H L) := by
  unfold cellsR spec_CellsOf.f
  by_cases g : BoardM W H L
  · refine Ev.bind (good_yes g) ?_
    simp only [g, if_true]
    exact Ev.bind (boCells_ev g (by have := g.small; omega)) (Ev.now _)
  · refine Ev.bind (good_no g hl) ?_
    simp only [Bool.false_eq_true, if_false, g]
    exact Ev.now _
theorem implCountR (hl : L.length ≤ 9223372036854775807) : Ev (fun k => impl_CountCells.f k W H L) (countR W H L) := by
  unfold countR impl_CountCells.f
  by_cases g : BoardM W H L
  · refine Ev.bind (isb_yes g) ?_
    have e1 : wrap64 (W * H - (L.length : Int)) = W * H - (L.length : Int) := wrap64_in _ (by have := g.area; have := g.small; omega)
    simp only [g, if_true, g.wrapArea, e1]
    exact Ev.now _
  · refine Ev.bind (isb_no g hl) ?_
    simp only [Bool.false_eq_true, if_false, g]
    exact Ev.now _
theorem specCountR (hl : L.length ≤ 9223372036854775807) : Ev (fun k => spec_CountCells.f k W H L) (countR W H L) := by
  unfold countR spec_CountCells.f
  by_cases g : BoardM W H L
  · refine Ev.bind (good_yes g) ?_
    simp only [g, if_true]
    refine Ev.bind (boCells_ev g (by have := g.small; omega)) ?_
    simp only [count_cells g]
    exact Ev.now _
  · refine Ev.bind (good_no g hl) ?_
    simp only [Bool.false_eq_true, if_false, g]
    exact Ev.now _
end
def plainR (w h : Int) : Int × Int × List Int × Bool := if 1 ≤ w ∧ w ≤ 8 ∧ 1 ≤ h ∧ h ≤ 8 then (w, h, [], true) else (0, 0, [], false)
theorem implPlain (w h : Int) : impl_PlainBoard.f w h = some (plainR w h) := by
  unfold impl_PlainBoard.f plainR
  simp only [sized_eq, Option.bind_some]
  by_cases h1 : 1 ≤ w <;> by_cases h2 : w ≤ 8 <;> by_cases h3 : 1 ≤ h <;> by_cases h4 : h ≤ 8 <;> simp [h1, h2, h3, h4]
theorem specPlain (w h : Int) : spec_PlainBoard.f w h = some (plainR w h) := by
  unfold spec_PlainBoard.f plainR
  simp only [boSize_eq, Option.bind_some]
  by_cases h1 : 1 ≤ w ∧ w ≤ 8 ∧ 1 ≤ h ∧ h ≤ 8 <;> simp [h1]
/-! ### The law -/
theorem last_ev (c : Int) (s : ByteArray) (w h W H : Int) (L : List Int) (W2 H2 : Int) (L2 : List Int) (hl : L.length ≤ 9223372036854775807) (hl2 : L2.length ≤ 9223372036854775807) :
    Ev (fun k => laws_FnBoardsTurnedOfAll.j2 k c s w h W H L W2 H2 L2) true := by
  refine Ev.step (fun k => by rw [laws_FnBoardsTurnedOfAll.j2]) ?_
  refine Ev.bind (implHas hl c) ?_
  refine Ev.bind (specHas hl c) ?_
  refine Ev.bind (implNameOf hl c) ?_
  refine Ev.bind (specNameOf hl c) ?_
  refine Ev.bind (implTurnCell hl c) ?_
  refine Ev.bind (specTurnCell hl c) ?_
  refine Ev.bind (implMirCell hl c) ?_
  refine Ev.bind (specMirCell hl c) ?_
  refine Ev.bind (implFind hl2 s) ?_
  refine Ev.bind (specFind hl2 s) ?_
  simp only [implPlain, specPlain, Option.bind_some, beq_self_eq_true, if_true, askM_ok]
  refine Ev.bind (yBoard_ev _ _ _ (by unfold plainR; split <;> simp)) ?_
  simp only [if_true]
  have e1 : ((hasM W H L c).2 = true → okM W H L c = (hasM W H L c).1) ∧ ((hasM W H L c).2 = false → okM W H L c = false) := by
    unfold hasM okM
    by_cases g : BoardM W H L <;> simp [g]
  cases hb : (hasM W H L c).2 with
  | true =>
    simp only [if_true, e1.1 hb, beq_self_eq_true]
    exact Ev.now _
  | false =>
    simp only [Bool.false_eq_true, if_false, e1.2 hb, beq_self_eq_true, if_true]
    exact Ev.now _
section
variable {W H : Int} {L : List Int} (c : Int) (s : ByteArray) (w h W1 H1 : Int) (L1 : List Int) (W2 H2 : Int) (L2 : List Int)
theorem cells_loop (g : BoardM W H L) (hl1 : L1.length ≤ 9223372036854775807) (hl2 : L2.length ≤ 9223372036854775807) (rest : List Int) : ∀ pre : List Int, (∀ x ∈ rest, hasB W H L x = true) → (pre ++ rest).length ≤ 1000 →
    Ev (fun k => laws_FnBoardsTurnedOfAll.l1 k c s w h (pre ++ rest) ((pre ++ rest).length : Int) (pre.length : Int) W H L W1 H1 L1 W2 H2 L2 H W (turnL W H L) W H (mirL W L)) true := by
  have hl : L.length ≤ 9223372036854775807 := by have := g.small; omega
  have gt := turn_board g
  have gm := mir_board g
  induction rest with
  | nil =>
    intro pre _ _
    refine Ev.step (fun k => by rw [laws_FnBoardsTurnedOfAll.l1]) ?_
    simp only [List.append_nil, nlt_end, if_false]
    exact last_ev c s w h W1 H1 L1 W2 H2 L2 hl1 hl2
  | cons x r ih =>
    intro pre hr hp
    refine Ev.step (fun k => by rw [laws_FnBoardsTurnedOfAll.l1]) ?_
    have h4 : (0 : Int) ≤ (pre.length : Int) := by omega
    have h5 : pre.length ≤ 1000 := by simp at hp; omega
    simp only [lt_mid pre x r, h4, if_true, rd_mid, w_succ (show pre.length ≤ 4611686018427387904 by omega)]
    have hx := hr x (by simp)
    have ok : okM W H L x = true := by unfold okM; simp [g, hx]
    have e1 : hasM W H L x = (true, true) := by unfold hasM; simp [g, hx]
    have e2 : askM (0 : Int) (turnC W H) W H L x = (turnC W H x, true) := by unfold askM; rw [if_pos ok]
    have e3 : hasM H W (turnL W H L) (turnC W H x) = (true, true) := by unfold hasM; simp [gt, has_turn g hx]
    have e4 : askM (0 : Int) (mirC W) W H L x = (mirC W x, true) := by unfold askM; rw [if_pos ok]
    have e5 : hasM W H (mirL W L) (mirC W x) = (true, true) := by unfold hasM; simp [gm, has_mir g hx]
    have e6 : askM (⟨#[]⟩ : ByteArray) (fun c => nameN (c % W) (c / W)) W H L x = (nameN (x % W) (x / W), true) := by unfold askM; rw [if_pos ok]
    refine Ev.bind (implHas hl x) ?_
    refine Ev.bind (implTurnCell hl x) ?_
    simp only [e1, e2]
    refine Ev.bind (implHas (by have := gt.small; omega) (turnC W H x)) ?_
    refine Ev.bind (implMirCell hl x) ?_
    simp only [e3, e4]
    refine Ev.bind (implHas (by have := gm.small; omega) (mirC W x)) ?_
    refine Ev.bind (implNameOf hl x) ?_
    simp only [e5, e6]
    refine Ev.bind (implFind hl (nameN (x % W) (x / W))) ?_
    simp only [find_name g hx, if_true]
    have := ih (pre ++ [x]) (fun y hy => hr y (by simp [hy])) (by simpa using hp)
    simpa using this
theorem turns_end (g : BoardM W H L) (hl1 : L1.length ≤ 9223372036854775807) (hl2 : L2.length ≤ 9223372036854775807) :
    Ev (fun k => laws_FnBoardsTurnedOfAll.l0 k c s w h (cellsM W H L) (W * H - (L.length : Int)) 4 W H L W1 H1 L1 W2 H2 L2 H W (turnL W H L) W H (mirL W L) W H L) true := by
  have hsm := g.small
  have ha := g.area
  refine Ev.step (fun k => by rw [laws_FnBoardsTurnedOfAll.l0]) ?_
  have h0 : ¬ (4 : Int) < 4 := by omega
  simp only [h0, if_false]
  refine Ev.bind (implMirBoard (mir_board g)) ?_
  simp only [mirL2 g]
  refine Ev.bind (yBoard_ev W H L (by omega)) ?_
  simp only [if_true]
  refine Ev.bind (yBoard_ev W H L (by omega)) ?_
  have e1 : wrap64 (W * H - (L.length : Int) + (L.length : Int)) = wrap64 (W * H) := by congr 1; omega
  simp only [if_true, count_cells g, e1]
  refine Ev.bind (yRises_ev _ (by have := cellsM_length g; omega) (cellsM_sorted W H L)) ?_
  simp only [if_true]
  have := cells_loop c s w h W1 H1 L1 W2 H2 L2 g hl1 hl2 (cellsM W H L) [] (fun x hx => mem_cellsM.1 hx) (by have := cellsM_length g; simp; omega)
  simpa [count_cells g] using this
theorem turns_step {Wn Hn : Int} {Ln : List Int} (gn : BoardM Wn Hn Ln) (cs : List Int) (n i : Int) (hi : 0 ≤ i ∧ i < 4) (Wt Ht : Int) (Lt : List Int) (Wm Hm : Int) (Lm : List Int)
    (hk : Ev (fun k => laws_FnBoardsTurnedOfAll.l0 k c s w h cs n (i + 1) W H L W1 H1 L1 W2 H2 L2 Wt Ht Lt Wm Hm Lm Hn Wn (turnL Wn Hn Ln)) true) :
    Ev (fun k => laws_FnBoardsTurnedOfAll.l0 k c s w h cs n i W H L W1 H1 L1 W2 H2 L2 Wt Ht Lt Wm Hm Lm Wn Hn Ln) true := by
  refine Ev.step (fun k => by rw [laws_FnBoardsTurnedOfAll.l0]) ?_
  have e1 : wrap64 (i + 1) = i + 1 := wrap64_in _ (by omega)
  simp only [hi.2, if_true, e1]
  refine Ev.bind (implTurnBoard gn) ?_
  simp only [if_true]
  exact hk
theorem turns_ev (g : BoardM W H L) (hl1 : L1.length ≤ 9223372036854775807) (hl2 : L2.length ≤ 9223372036854775807) :
    Ev (fun k => laws_FnBoardsTurnedOfAll.l0 k c s w h (cellsM W H L) (W * H - (L.length : Int)) 0 W H L W1 H1 L1 W2 H2 L2 H W (turnL W H L) W H (mirL W L) W H L) true := by
  have g2 := turn_board g
  have g3 := turn_board g2
  have g4 := turn_board g3
  refine turns_step c s w h W1 H1 L1 W2 H2 L2 g _ _ 0 (by omega) _ _ _ _ _ _ ?_
  refine turns_step c s w h W1 H1 L1 W2 H2 L2 g2 _ _ 1 (by omega) _ _ _ _ _ _ ?_
  refine turns_step c s w h W1 H1 L1 W2 H2 L2 g3 _ _ 2 (by omega) _ _ _ _ _ _ ?_
  refine turns_step c s w h W1 H1 L1 W2 H2 L2 g4 _ _ 3 (by omega) _ _ _ _ _ _ ?_
  rw [turnL4 g]
  exact turns_end c s w h W1 H1 L1 W2 H2 L2 g hl1 hl2
end
open Classical in
theorem turned_ev (W H : Int) (L : List Int) (W1 H1 : Int) (L1 : List Int) (c W2 H2 : Int) (L2 : List Int) (s : ByteArray) (w h : Int) (hl : L.length ≤ 9223372036854775807) (hl1 : L1.length ≤ 9223372036854775807) (hl2 : L2.length ≤ 9223372036854775807) :
    Ev (fun k => laws_FnBoardsTurnedOfAll.f k W H L W1 H1 L1 c W2 H2 L2 s w h) true := by
  unfold laws_FnBoardsTurnedOfAll.f
  by_cases hs : (s.size : Int) > 1048576
  · simp only [hs, if_true]; exact Ev.now _
  simp only [hs, if_false]
  refine Ev.bind (implTurnR hl) ?_
  refine Ev.bind (specTurnR hl) ?_
  refine Ev.bind (implMirR hl) ?_
  refine Ev.bind (specMirR hl) ?_
  refine Ev.bind (implCellsR hl) ?_
  refine Ev.bind (specCellsR hl) ?_
  refine Ev.bind (implCountR hl) ?_
  refine Ev.bind (specCountR hl) ?_
  have b1 : (turnR W H L).2.2.1.length ≤ 4611686018427387904 := by
    unfold turnR; split
    · rename_i g; have := (turn_board g).small; show (turnL W H L).length ≤ _; omega
    · simp
  have b2 : (mirR W H L).2.2.1.length ≤ 4611686018427387904 := by
    unfold mirR; split
    · rename_i g; have := (mir_board g).small; show (mirL W L).length ≤ _; omega
    · simp
  have b3 : (cellsR W H L).1.length ≤ 4611686018427387904 := by
    unfold cellsR; split
    · rename_i g; have := cellsM_length g; show (cellsM W H L).length ≤ _; omega
    · simp
  simp only [bne_self_eq_false, Bool.false_eq_true, if_false]
  refine Ev.bind (yBoard_ev _ _ _ b1) ?_
  simp only [if_true]
  refine Ev.bind (yBoard_ev _ _ _ b2) ?_
  simp only [if_true]
  refine Ev.bind (ySame_ev _ b3) ?_
  simp only [if_true]
  have c1 : (turnR W H L).2.2.2 = decide (BoardM W H L) := by unfold turnR; by_cases g : BoardM W H L <;> simp [g]
  have c2 : (mirR W H L).2.2.2 = decide (BoardM W H L) := by unfold mirR; by_cases g : BoardM W H L <;> simp [g]
  have c3 : (cellsR W H L).2 = decide (BoardM W H L) := by unfold cellsR; by_cases g : BoardM W H L <;> simp [g]
  have c4 : (countR W H L).2 = decide (BoardM W H L) := by unfold countR; by_cases g : BoardM W H L <;> simp [g]
  refine Ev.bind (isBoard_any W H L hl) ?_
  simp only [c1, c2, c3, c4, bne_self_eq_false, Bool.false_eq_true, if_false]
  refine Ev.bind (isBoard_any W H L hl) ?_
  have hsp : Ev (fun k => spec_IsBoard.f k W H L) (decide (BoardM W H L)) := by
    unfold spec_IsBoard.f; exact Ev.bind (boGood_any W H L hl) (Ev.now _)
  refine Ev.bind hsp ?_
  simp only [bne_self_eq_false, Bool.false_eq_true, if_false]
  by_cases g : BoardM W H L
  · have d1 : turnR W H L = (H, W, turnL W H L, true) := by unfold turnR; rw [if_pos g]
    have d2 : mirR W H L = (W, H, mirL W L, true) := by unfold mirR; rw [if_pos g]
    have d3 : cellsR W H L = (cellsM W H L, true) := by unfold cellsR; rw [if_pos g]
    have d4 : countR W H L = (W * H - (L.length : Int), true) := by unfold countR; rw [if_pos g]
    simp only [g, decide_true, if_true, d1, d2, d3, d4]
    exact turns_ev c s w h W1 H1 L1 W2 H2 L2 g hl1 hl2
  · simp only [g, decide_false, Bool.false_eq_true, if_false]
    exact last_ev c s w h W1 H1 L1 W2 H2 L2 hl1 hl2
end Go.Proofs.Ytmfbhhicioepjaa.H
namespace Go.Proofs.Ytmfbhhicioepjaa.Pure
open Go.Proofs.Ytmfbhhicioepjaa.H Go.Proofs.YtmfbhhicioepjaaW.PrintWords
theorem FnBoardsTurnedOfAll : FnBoardsTurnedOfAllSaid := by
  intro a0 a1 l2 b0 b1 m2 c d0 d1 n2 s w h _ _ hl _ _ _ hm _ _ _ _ hn _ _ _
  exact rounds_of (turned_ev a0 a1 l2 b0 b1 m2 c d0 d1 n2 s w h hl hm hn)
end Go.Proofs.Ytmfbhhicioepjaa.Pure

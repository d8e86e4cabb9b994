/- MostPairs: the program's matching (one cell after another, partners moved) and the reference's search of all sets tell the same greatest number, so the law's function answers true for all arguments. -/
import Derived.Test.YtfjomkjngolboaaHLaw
import Derived.IntWalk
import Derived.Test.YtfjomkjngolboaaHSort
import Derived.Test.YtfjomkjngolboaaStateFnExactMostPairs
import Derived.Test.YtfjomkjngolboaaQ1
import Derived.Test.YtfjomkjngolboaaQ2
import Derived.Test.YtfjomkjngolboaaQ6
import Derived.Test.YtfjomkjngolboaaQ13
import Derived.Test.YtfjomkjngolboaaQ14
import Derived.Test.YtfjomkjngolboaaQ3
import Derived.Test.YtfjomkjngolboaaQ4
import Derived.Test.YtfjomkjngolboaaQ5
import Derived.Test.YtfjomkjngolboaaQ9
import Derived.Test.YtfjomkjngolboaaQ15
import Derived.Test.YtfjomkjngolboaaQ8
import Derived.Test.YtfjomkjngolboaaQ7
import Derived.Test.YtfjomkjngolboaaQ10
import Derived.Test.YtfjomkjngolboaaQ11
namespace Go.Proofs.Ytfjomkjngolboaa.H
open Go.RowKit Go.IntWalk Go.Proofs.Ytfjomkjngolboaa.Q Go.Proofs.YtfjomkjngolboaaW.PrintWords Go.Proofs.YtfjomkjngolboaaW.PrintMore
set_option linter.unusedVariables false
set_option linter.unusedSimpArgs false

/-! ### Words of lists and numbers -/
theorem rd_mid (pre : List Int) (x : Int) (r : List Int) : rd (pre ++ x :: r) (pre.length : Int) = x := by simp [rd]
theorem lt_mid {α : Type} (pre : List α) (x : α) (r : List α) : (pre.length : Int) < ((pre ++ x :: r).length : Int) := by simp; omega
theorem nlt_end {α : Type} (pre : List α) : ¬ ((pre.length : Int) < (pre.length : Int)) := by omega
theorem w_succ {n : Nat} (h : n ≤ 4611686018427387904) : wrap64 ((n : Int) + 1) = ((n + 1 : Nat) : Int) := by rw [wrap64_in _ (by omega)]; omega
theorem rd_nat (l : List Int) (i : Nat) (h : i < l.length) : rd l (i : Int) = l[i] := by simp [rd, List.getD_eq_getElem?_getD, List.getElem?_eq_getElem h]

/-! ### The law's own functions -/
theorem toIntS_loop (rest pre : List Int) (hl : (pre ++ rest).length ≤ 4611686018427387904) : Ev (fun k => laws_toIntS.l0 k (pre ++ rest) (pre ++ List.replicate rest.length 0) (pre.length : Int)) (pre ++ rest) := by
  induction rest generalizing pre with
  | nil =>
    refine Ev.step (fun k => by rw [laws_toIntS.l0]) ?_
    simp only [List.append_nil, List.length_nil, List.replicate_zero, nlt_end, if_false]
    exact Ev.now _
  | cons x r ih =>
    refine Ev.step (fun k => by rw [laws_toIntS.l0]) ?_
    have h3 : (pre.length : Int) < ((pre ++ List.replicate (x :: r).length 0).length : Int) := by simp; omega
    have h4 : (0 : Int) ≤ (pre.length : Int) := by omega
    have h5 : pre.length ≤ 4611686018427387904 := by simp at hl; omega
    simp only [lt_mid pre x r, h3, h4, if_true, rd_mid, w_succ h5]
    have h6 : (pre ++ List.replicate (x :: r).length 0).set ((pre.length : Int)).toNat x = (pre ++ [x]) ++ List.replicate r.length 0 := by simp [List.replicate_succ]
    rw [h6]
    have := ih (pre ++ [x]) (by simpa using hl)
    simpa using this
theorem toIntS_ev (l : List Int) (hl : l.length ≤ 1048576) : Ev (fun k => laws_toIntS.f k l) l := by
  have h1 : (0 : Int) ≤ (l.length : Int) := by omega
  have h2 : ((l.length : Int) : Int).toNat ≤ 35184372088832 := by omega
  simp only [laws_toIntS.f, h1, h2, if_true]
  simpa using toIntS_loop l [] (by simp; omega)
theorem toBoard_ev (W H : Int) (l : List Int) (hl : l.length ≤ 1048576) : Ev (fun k => laws_toBoard.f k W H l) (W, H, l) := by
  simp only [laws_toBoard.f]
  exact Ev.bind (toIntS_ev l hl) (Ev.now _)
theorem eqIntS_loop (rest pre : List Int) (hl : (pre ++ rest).length ≤ 4611686018427387904) : Ev (fun k => laws_eqIntS.l0 k (pre ++ rest) (pre ++ rest) (pre.length : Int)) true := by
  induction rest generalizing pre with
  | nil =>
    refine Ev.step (fun k => by rw [laws_eqIntS.l0]) ?_
    simp only [List.append_nil, nlt_end, if_false]
    exact Ev.now _
  | cons x r ih =>
    refine Ev.step (fun k => by rw [laws_eqIntS.l0]) ?_
    have h4 : (0 : Int) ≤ (pre.length : Int) := by omega
    have h5 : pre.length ≤ 4611686018427387904 := by simp at hl; omega
    simp only [lt_mid pre x r, h4, if_true, rd_mid, w_succ h5]
    have := ih (pre ++ [x]) (by simpa using hl)
    simpa using this
theorem eqIntS_ev (l : List Int) (hl : l.length ≤ 1048576) : Ev (fun k => laws_eqIntS.f k l l) true := by
  simp only [laws_eqIntS.f, if_true]
  simpa using eqIntS_loop l [] (by simp; omega)
theorem eqBoard_ev (W H : Int) (l : List Int) (hl : l.length ≤ 1048576) : Ev (fun k => laws_eqBoard.f k W H l W H l) true := by
  simp only [laws_eqBoard.f, if_true]
  refine Ev.bind (eqIntS_ev l hl) ?_
  simp only [if_true]
  exact Ev.now _
theorem szBoard_big (W H : Int) (l : List Int) (h : 1048576 < l.length) (h2 : l.length ≤ 9223372036854775807) : laws_szBoard.f W H l 1048576 = some (-1) := by
  have e : wrap64 (1048576 - (l.length : Int)) = 1048576 - (l.length : Int) := wrap64_in _ (by omega)
  have h3 : 1048576 - (l.length : Int) < 0 := by omega
  simp [laws_szBoard.f, laws_szIntS.f, e, h3]
theorem szBoard_fit (W H : Int) (l : List Int) (h : l.length ≤ 1048576) : laws_szBoard.f W H l 1048576 = some (1048576 - (l.length : Int)) := by
  have e : wrap64 (1048576 - (l.length : Int)) = 1048576 - (l.length : Int) := wrap64_in _ (by omega)
  have h3 : ¬ 1048576 - (l.length : Int) < 0 := by omega
  simp [laws_szBoard.f, laws_szIntS.f, e, h3]

/-! ### Boards, leapers, cells -/
def hasB (W H : Int) (L : List Int) (c : Int) : Bool := decide (0 ≤ c) && decide (c < W * H) && !L.contains c
def BoardM (W H : Int) (L : List Int) : Prop := 1 ≤ W ∧ W ≤ 8 ∧ 1 ≤ H ∧ H ≤ 8 ∧ (L.length : Int) < W * H ∧ (∀ x ∈ L, 0 ≤ x ∧ x < W * H) ∧ L.Pairwise (· < ·)
def Leap (A B : Int) : Prop := 0 ≤ A ∧ A ≤ B ∧ 1 ≤ B ∧ B ≤ 5
def Two (W H : Int) (L : List Int) (A B : Int) : Prop := BoardM W H L ∧ Leap A B
def isB (W A B x y : Int) : Bool :=
  let u := ((x % W - y % W).natAbs : Int)
  let v := ((x / W - y / W).natAbs : Int)
  (decide (u = A) && decide (v = B)) || (decide (u = B) && decide (v = A))
def cellsM (W H : Int) (L : List Int) : List Int := ((List.range (W * H).toNat).map Int.ofNat).filter (hasB W H L)
def leapsM (W H : Int) (L : List Int) (A B c : Int) : List Int := (cellsM W H L).filter (isB W A B c)
theorem BoardM.area {W H : Int} {L : List Int} (g : BoardM W H L) : 1 ≤ W * H ∧ W * H ≤ 64 := by
  obtain ⟨h1, h2, h3, h4, _⟩ := g
  constructor
  · have := Int.mul_le_mul h1 h3 (by omega) (by omega); omega
  · have := Int.mul_le_mul h2 h4 (by omega) (by omega); omega
theorem BoardM.wrapArea {W H : Int} {L : List Int} (g : BoardM W H L) : wrap64 (W * H) = W * H := wrap64_in _ (by have := g.area; omega)
theorem mem_cellsM {W H : Int} {L : List Int} {c : Int} : c ∈ cellsM W H L ↔ hasB W H L c = true := by
  unfold cellsM
  rw [List.mem_filter]
  constructor
  · exact fun h => h.2
  · intro h
    refine ⟨?_, h⟩
    have h' := h
    simp only [hasB, Bool.and_eq_true, decide_eq_true_eq] at h'
    refine List.mem_map.2 ⟨c.toNat, List.mem_range.2 (by omega), ?_⟩
    show ((c.toNat : Nat) : Int) = c
    omega
theorem cellsM_length {W H : Int} {L : List Int} (g : BoardM W H L) : (cellsM W H L).length ≤ 64 := by
  unfold cellsM
  refine Nat.le_trans (List.length_filter_le _ _) ?_
  have := g.area
  simp; omega
theorem has_range {W H : Int} {L : List Int} {c : Int} (h : hasB W H L c = true) : 0 ≤ c ∧ c < W * H := by
  simp only [hasB, Bool.and_eq_true, decide_eq_true_eq] at h
  exact h.1
theorem leapsM_length {W H : Int} {L : List Int} (g : BoardM W H L) (A B c : Int) : (leapsM W H L A B c).length ≤ 64 := Nat.le_trans (List.length_filter_le _ _) (cellsM_length g)

/-! ### What the reference's first functions tell -/
theorem l1In_eq (n lo hi : Int) : spec_l1In.f n lo hi = some (decide (lo ≤ n) && decide (n ≤ hi)) := by
  unfold spec_l1In.f
  split <;> rename_i h
  · have : lo ≤ n := h
    simp [this]
  · have : ¬ lo ≤ n := h
    simp [this]
theorem l1Has_loop (c : Int) (rest pre : List Int) (hl : (pre ++ rest).length ≤ 4611686018427387904) : Ev (fun k => spec_l1Has.l0 k c (pre ++ rest) ((pre ++ rest).length : Int) (pre.length : Int)) (rest.contains c) := by
  induction rest generalizing pre with
  | nil =>
    refine Ev.step (fun k => by rw [spec_l1Has.l0]) ?_
    simp only [List.append_nil, nlt_end, if_false]
    exact Ev.now _
  | cons x r ih =>
    refine Ev.step (fun k => by rw [spec_l1Has.l0]) ?_
    have h4 : (0 : Int) ≤ (pre.length : Int) := by omega
    have h5 : pre.length ≤ 4611686018427387904 := by simp at hl; omega
    simp only [lt_mid pre x r, h4, if_true, rd_mid, w_succ h5]
    by_cases hx : x = c
    · simp only [hx, if_true, List.contains_cons, beq_self_eq_true, Bool.true_or]
      exact Ev.now _
    · have := ih (pre ++ [x]) (by simpa using hl)
      have hx' : ¬ c = x := fun h => hx h.symm
      simp only [hx, if_false]
      simpa [hx'] using this
theorem l1Has_ev (l : List Int) (c : Int) (hl : l.length ≤ 4611686018427387904) : Ev (fun k => spec_l1Has.f k l c) (l.contains c) := by
  unfold spec_l1Has.f
  simpa using l1Has_loop c l [] (by simpa using hl)
theorem l1All_loop (lo hi : Int) (rest pre : List Int) (hl : (pre ++ rest).length ≤ 4611686018427387904) : Ev (fun k => spec_l1All.l0 k lo hi (pre ++ rest) ((pre ++ rest).length : Int) (pre.length : Int)) (rest.all fun n => decide (lo ≤ n) && decide (n ≤ hi)) := by
  induction rest generalizing pre with
  | nil =>
    refine Ev.step (fun k => by rw [spec_l1All.l0]) ?_
    simp only [List.append_nil, nlt_end, if_false]
    exact Ev.now _
  | cons x r ih =>
    refine Ev.step (fun k => by rw [spec_l1All.l0]) ?_
    have h4 : (0 : Int) ≤ (pre.length : Int) := by omega
    have h5 : pre.length ≤ 4611686018427387904 := by simp at hl; omega
    simp only [lt_mid pre x r, h4, if_true, rd_mid, w_succ h5, l1In_eq, Option.bind_some, List.all_cons]
    cases hx : (decide (lo ≤ x) && decide (x ≤ hi)) with
    | false => simp only [Bool.false_eq_true, if_false, Bool.false_and]; exact Ev.now _
    | true =>
      have := ih (pre ++ [x]) (by simpa using hl)
      simp only [if_true, Bool.true_and]
      simpa using this
theorem l1All_ev (l : List Int) (lo hi : Int) (hl : l.length ≤ 4611686018427387904) : Ev (fun k => spec_l1All.f k l lo hi) (l.all fun n => decide (lo ≤ n) && decide (n ≤ hi)) := by
  unfold spec_l1All.f
  simpa using l1All_loop lo hi l [] (by simpa using hl)
theorem boHas_ev {W H : Int} {L : List Int} (g : BoardM W H L) (c : Int) (hl : L.length ≤ 1048576) : Ev (fun k => spec_boHas.f k W H L c) (hasB W H L c) := by
  have ha := g.area
  have e : wrap64 (W * H - 1) = W * H - 1 := wrap64_in _ (by omega)
  simp only [spec_boHas.f, g.wrapArea, e, l1In_eq, Option.bind_some]
  by_cases h : 0 ≤ c ∧ c ≤ W * H - 1
  · have h1 : (decide (0 ≤ c) && decide (c ≤ W * H - 1)) = true := by simp [h]
    have h2 : c < W * H := by omega
    simp only [h1, if_true]
    refine Ev.bind (l1Has_ev L c (by omega)) ?_
    have : hasB W H L c = !L.contains c := by simp [hasB, h.1, h2]
    rw [this]
    exact Ev.now _
  · have h1 : (decide (0 ≤ c) && decide (c ≤ W * H - 1)) = false := by simp; omega
    have h2 : hasB W H L c = false := by
      simp only [hasB, Bool.and_eq_false_iff, decide_eq_false_iff_not]
      omega
    simp only [h1, Bool.false_eq_true, if_false, h2]
    exact Ev.now _
open Classical in
theorem rising_loop (W H : Int) (L : List Int) (hl : L.length ≤ 4611686018427387904) : ∀ (n i : Nat), n + i = L.length → 1 ≤ i → Ev (fun k => spec_boGood.l0 k (i : Int) W H L) (decide (∀ j, i ≤ j → ∀ h : j < L.length, L[j - 1] < L[j])) := by
  intro n
  induction n with
  | zero =>
    intro i h1 h2
    refine Ev.step (fun k => by rw [spec_boGood.l0]) ?_
    have h3 : ¬ ((i : Int) < (L.length : Int)) := by omega
    have h4 : (∀ j, i ≤ j → ∀ h : j < L.length, L[j - 1] < L[j]) = True := by
      refine eq_true (fun j hj h => ?_)
      omega
    simp only [h3, if_false, h4, decide_true]
    exact Ev.now _
  | succ n ih =>
    intro i h1 h2
    refine Ev.step (fun k => by rw [spec_boGood.l0]) ?_
    have h3 : (i : Int) < (L.length : Int) := by omega
    have h4 : wrap64 ((i : Int) - 1) = ((i - 1 : Nat) : Int) := by rw [wrap64_in _ (by omega)]; omega
    have h5 : (0 : Int) ≤ ((i - 1 : Nat) : Int) := by omega
    have h6 : ((i - 1 : Nat) : Int) < (L.length : Int) := by omega
    have h7 : (0 : Int) ≤ (i : Int) := by omega
    simp only [h3, h4, h5, h6, h7, if_true, rd_nat L (i - 1) (by omega), rd_nat L i (by omega), w_succ (show i ≤ 4611686018427387904 by omega)]
    by_cases hx : L[i - 1] ≥ L[i]
    · have h8 : decide (∀ j, i ≤ j → ∀ h : j < L.length, L[j - 1] < L[j]) = false := by
        rw [decide_eq_false_iff_not]
        intro h
        have := h i (by omega) (by omega)
        omega
      simp only [hx, if_true, h8]
      exact Ev.now _
    · have h8 : (∀ j, i ≤ j → ∀ h : j < L.length, L[j - 1] < L[j]) = (∀ j, i + 1 ≤ j → ∀ h : j < L.length, L[j - 1] < L[j]) := by
        rw [eq_iff_iff]
        constructor
        · intro h j hj; exact h j (by omega)
        · intro h j hj hjl
          rcases Nat.lt_or_ge i j with h9 | h9
          · exact h j (by omega) hjl
          · obtain rfl : j = i := by omega
            omega
      simp only [hx, if_false, h8]
      exact ih (i + 1) (by omega) (by omega)
theorem pairwise_iff (L : List Int) : L.Pairwise (· < ·) ↔ ∀ j, 1 ≤ j → ∀ h : j < L.length, L[j - 1] < L[j] := by
  constructor
  · intro h j hj hl
    exact List.pairwise_iff_getElem.1 h (j - 1) j (by omega) hl (by omega)
  · intro h
    rw [List.pairwise_iff_getElem]
    intro i j hi hj hij
    have : ∀ d, ∀ (hd : i + d + 1 < L.length), L[i] < L[i + d + 1] := by
      intro d
      induction d with
      | zero => intro hd; have := h (i + 0 + 1) (by omega) hd; simpa using this
      | succ d ih => intro hd; have h1 := ih (by omega); have h2 := h (i + (d + 1) + 1) (by omega) hd; simp at h2; exact Int.lt_trans h1 h2
    have := this (j - i - 1) (by omega)
    simpa [show i + (j - i - 1) + 1 = j by omega] using this
theorem boSize_eq (W H : Int) : spec_boSize.f W H = some (decide (1 ≤ W ∧ W ≤ 8 ∧ 1 ≤ H ∧ H ≤ 8)) := by
  simp only [spec_boSize.f, l1In_eq, Option.bind_some]
  by_cases h1 : 1 ≤ W <;> by_cases h2 : W ≤ 8 <;> by_cases h3 : 1 ≤ H <;> by_cases h4 : H ≤ 8 <;> simp [h1, h2, h3, h4]
theorem boGood_j0_true {W H : Int} {L : List Int} : Ev (fun k => spec_boGood.j0 k true W H L) false := by
  refine Ev.step (fun k => by rw [spec_boGood.j0]) ?_
  simp only [if_true]
  exact Ev.now _
open Classical in
theorem boGood_ev (W H : Int) (L : List Int) (hl : L.length ≤ 1048576) : Ev (fun k => spec_boGood.f k W H L) (decide (BoardM W H L)) := by
  simp only [spec_boGood.f, boSize_eq, Option.bind_some]
  by_cases h1 : 1 ≤ W ∧ W ≤ 8 ∧ 1 ≤ H ∧ H ≤ 8
  · obtain ⟨a1, a2, a3, a4⟩ := h1
    have ar1 : 1 ≤ W * H := by have := Int.mul_le_mul a1 a3 (by omega) (by omega); omega
    have ar2 : W * H ≤ 64 := by have := Int.mul_le_mul a2 a4 (by omega) (by omega); omega
    have e1 : wrap64 (W * H) = W * H := wrap64_in _ (by omega)
    have e2 : wrap64 (W * H - 1) = W * H - 1 := wrap64_in _ (by omega)
    simp only [a1, a2, a3, a4, and_self, decide_true, if_true, e1, e2]
    by_cases h2 : (L.length : Int) ≥ W * H
    · have : decide (BoardM W H L) = false := by
        rw [decide_eq_false_iff_not]; rintro ⟨_, _, _, _, h, _⟩; omega
      simp only [h2, if_true, this]
      exact boGood_j0_true
    · simp only [h2, if_false]
      refine Ev.bind (l1All_ev L 0 (W * H - 1) (by omega)) ?_
      cases h3 : (L.all fun n => decide (0 ≤ n) && decide (n ≤ W * H - 1)) with
      | false =>
        have : decide (BoardM W H L) = false := by
          rw [decide_eq_false_iff_not]; rintro ⟨_, _, _, _, _, h, _⟩
          have : (L.all fun n => decide (0 ≤ n) && decide (n ≤ W * H - 1)) = true := by
            rw [List.all_eq_true]
            intro x hx
            have := h x hx
            simp; omega
          rw [this] at h3; cases h3
        simp only [Bool.not_false, this]
        exact boGood_j0_true
      | true =>
        simp only [Bool.not_true]
        refine Ev.step (fun k => by rw [spec_boGood.j0]) ?_
        simp only [Bool.false_eq_true, if_false]
        have hr : Ev (fun k => spec_boGood.l0 k 1 W H L) (decide (∀ j, 1 ≤ j → ∀ h : j < L.length, L[j - 1] < L[j])) := by
          rcases Nat.eq_zero_or_pos L.length with h0 | h0
          · have h4 : (∀ j, 1 ≤ j → ∀ h : j < L.length, L[j - 1] < L[j]) = True := by
              exact eq_true (fun j hj h => by omega)
            refine Ev.step (fun k => by rw [spec_boGood.l0]) ?_
            have h3 : ¬ ((1 : Int) < (L.length : Int)) := by omega
            simp only [h3, if_false, h4, decide_true]
            exact Ev.now _
          · exact rising_loop W H L (by omega) (L.length - 1) 1 (by omega) (by omega)
        have h5 : (∀ j, 1 ≤ j → ∀ h : j < L.length, L[j - 1] < L[j]) = BoardM W H L := by
          rw [eq_iff_iff]
          constructor
          · intro h
            refine ⟨a1, a2, a3, a4, by omega, ?_, (pairwise_iff L).2 h⟩
            intro x hx
            have := List.all_eq_true.1 h3 x hx
            simp at this; omega
          · rintro ⟨_, _, _, _, _, _, h⟩; exact (pairwise_iff L).1 h
        simp only [h5] at hr
        exact hr
  · have : decide (BoardM W H L) = false := by
      rw [decide_eq_false_iff_not]; rintro ⟨b1, b2, b3, b4, _⟩; exact h1 ⟨b1, b2, b3, b4⟩
    simp only [h1, decide_false, Bool.false_eq_true, if_false, this]
    exact boGood_j0_true
open Classical in
theorem boLeaper_eq (A B : Int) : spec_boLeaper.f A B = some (decide (Leap A B)) := by
  simp only [spec_boLeaper.f, l1In_eq, Option.bind_some]
  unfold Leap
  by_cases h1 : 1 ≤ B <;> by_cases h2 : B ≤ 5 <;> by_cases h3 : 0 ≤ A <;> by_cases h4 : A ≤ B <;> simp [h1, h2, h3, h4]
open Classical in
theorem boTwo_ev (W H : Int) (L : List Int) (A B : Int) (hl : L.length ≤ 1048576) : Ev (fun k => spec_boTwo.f k W H L A B) (decide (Two W H L A B)) := by
  unfold spec_boTwo.f
  refine Ev.bind (boGood_ev W H L hl) ?_
  by_cases g : BoardM W H L
  · simp only [g, decide_true, if_true, boLeaper_eq, Option.bind_some]
    have : decide (Two W H L A B) = decide (Leap A B) := by simp [Two, g]
    rw [this]
    exact Ev.now _
  · have : decide (Two W H L A B) = false := by simp [Two, g]
    simp only [g, decide_false, Bool.false_eq_true, if_false, this]
    exact Ev.now _
theorem two_yes {W H : Int} {L : List Int} {A B : Int} (t : Two W H L A B) (hl : L.length ≤ 1048576) : Ev (fun k => spec_boTwo.f k W H L A B) true := by
  have := boTwo_ev W H L A B hl
  simpa [t] using this
theorem two_no {W H : Int} {L : List Int} {A B : Int} (t : ¬ Two W H L A B) (hl : L.length ≤ 1048576) : Ev (fun k => spec_boTwo.f k W H L A B) false := by
  have := boTwo_ev W H L A B hl
  simpa [t] using this
theorem l1Abs_eq (n : Int) (h : -100 ≤ n ∧ n ≤ 100) : spec_l1Abs.f n = some (n.natAbs : Int) := by
  have e : wrap64 (-n) = -n := wrap64_in _ (by omega)
  simp only [spec_l1Abs.f, spec_l1Most.f, e]
  by_cases hn : n > -n
  · simp only [hn, if_true, Option.bind_some]; congr 1; omega
  · simp only [hn, if_false, Option.bind_some]; congr 1; omega
theorem cell_bounds {W H : Int} {L : List Int} (g : BoardM W H L) {c : Int} (h : 0 ≤ c ∧ c < W * H) : 0 ≤ c % W ∧ c % W < W ∧ 0 ≤ c / W ∧ c / W < H ∧ c % W + c / W * W = c := by
  have hW : 0 < W := by have := g.1; omega
  have h1 := Int.emod_nonneg c (show W ≠ 0 by omega)
  have h2 := Int.emod_lt_of_pos c hW
  have h3 : 0 ≤ c / W := Int.ediv_nonneg h.1 (by omega)
  have h4 : c / W < H := by
    rw [Int.ediv_lt_iff_lt_mul hW]
    have := Int.mul_comm W H; omega
  have h5 := Int.emod_add_mul_ediv c W
  have h6 := Int.mul_comm W (c / W)
  exact ⟨h1, h2, h3, h4, by omega⟩
theorem tmod_of {W c : Int} (h : 0 ≤ c) : Int.tmod c W = c % W := by rw [Int.tmod_eq_emod_of_nonneg h]
theorem tdiv_of {W c : Int} (h : 0 ≤ c) : Int.tdiv c W = c / W := by rw [Int.tdiv_eq_ediv_of_nonneg h]
theorem boIs_eq {W H : Int} {L : List Int} (g : BoardM W H L) (A B x y : Int) (hx : 0 ≤ x ∧ x < W * H) (hy : 0 ≤ y ∧ y < W * H) : spec_boIs.f W H L A B x y = some (isB W A B x y) := by
  obtain ⟨p1, p2, p3, p4, _⟩ := cell_bounds g hx
  obtain ⟨q1, q2, q3, q4, _⟩ := cell_bounds g hy
  have b1 := g.1
  have b2 := g.2.1
  have b3 := g.2.2.2.1
  have n0 : ¬ W = 0 := by omega
  have e1 : wrap64 (x % W - y % W) = x % W - y % W := wrap64_in _ (by omega)
  have e2 : wrap64 (x / W) = x / W := wrap64_in _ (by omega)
  have e3 : wrap64 (y / W) = y / W := wrap64_in _ (by omega)
  have e4 : wrap64 (x / W - y / W) = x / W - y / W := wrap64_in _ (by omega)
  unfold spec_boIs.f isB
  simp only [n0, if_false, tmod_of hx.1, tmod_of hy.1, tdiv_of hx.1, tdiv_of hy.1, e1, e2, e3, e4, l1Abs_eq _ (show -100 ≤ x % W - y % W ∧ x % W - y % W ≤ 100 by omega), l1Abs_eq _ (show -100 ≤ x / W - y / W ∧ x / W - y / W ≤ 100 by omega), Option.bind_some]
  generalize ((x % W - y % W).natAbs : Int) = u
  generalize ((x / W - y / W).natAbs : Int) = v
  by_cases h1 : u = A <;> by_cases h2 : v = B <;> by_cases h3 : u = B <;> by_cases h4 : v = A <;> simp [h1, h2, h3, h4] <;> simp_all
theorem boCells_loop {W H : Int} {L : List Int} (g : BoardM W H L) (hl : L.length ≤ 1048576) : ∀ (n i : Nat), (n + i : Int) = W * H → ∀ acc : List Int, acc.length ≤ i → Ev (fun k => spec_boCells.l0 k acc (i : Int) W H L) (acc ++ ((List.range' i n).map Int.ofNat).filter (hasB W H L)) := by
  have ha := g.area
  intro n
  induction n with
  | zero =>
    intro i h1 acc h2
    refine Ev.step (fun k => by rw [spec_boCells.l0]) ?_
    have h3 : ¬ ((i : Int) < W * H) := by omega
    simp only [g.wrapArea, h3, if_false, List.range'_zero, List.map_nil, List.filter_nil, List.append_nil]
    exact Ev.now _
  | succ n ih =>
    intro i h1 acc h2
    refine Ev.step (fun k => by rw [spec_boCells.l0]) ?_
    have h3 : ((i : Int) < W * H) := by omega
    simp only [g.wrapArea, h3, if_true, w_succ (show i ≤ 4611686018427387904 by omega)]
    refine Ev.bind (boHas_ev g (i : Int) hl) ?_
    have h4 : acc.length < 17592186044416 := by omega
    cases hx : hasB W H L (i : Int) with
    | true =>
      simp only [h4, if_true]
      have := ih (i + 1) (by omega) (acc ++ [(i : Int)]) (by simp; omega)
      simpa [List.range'_succ, List.filter_cons, hx] using this
    | false =>
      simp only [Bool.false_eq_true, if_false]
      have := ih (i + 1) (by omega) acc (by omega)
      simpa [List.range'_succ, List.filter_cons, hx] using this
theorem boCells_ev {W H : Int} {L : List Int} (g : BoardM W H L) (hl : L.length ≤ 1048576) : Ev (fun k => spec_boCells.f k W H L) (cellsM W H L) := by
  have ha := g.area
  have := boCells_loop g hl (W * H).toNat 0 (by omega) [] (by simp)
  unfold spec_boCells.f cellsM
  rw [List.range_eq_range']
  simpa using this
/-! ### Marks -/
def marks : Int → List Int → List Int
  | _, [] => []
  | n, _ :: r => n :: marks (n + 1) r
theorem markIntS_loop (rest pre : List Int) (n : Int) (hn : -9000000000000000000 ≤ n ∧ n + (rest.length : Int) ≤ 9000000000000000000) (hl : (pre ++ rest).length ≤ 4611686018427387904) : Ev (fun k => laws_markIntS.l0 k (pre ++ rest) n (pre.length : Int)) (n + (rest.length : Int), pre ++ marks n rest) := by
  induction rest generalizing pre n with
  | nil =>
    refine Ev.step (fun k => by rw [laws_markIntS.l0]) ?_
    simp only [List.append_nil, nlt_end, if_false, marks, List.length_nil]
    simpa using Ev.now _
  | cons x r ih =>
    refine Ev.step (fun k => by rw [laws_markIntS.l0]) ?_
    have h4 : (0 : Int) ≤ (pre.length : Int) := by omega
    have h5 : pre.length ≤ 4611686018427387904 := by simp at hl; omega
    have e : wrap64 (n + 1) = n + 1 := wrap64_in _ (by simp at hn; omega)
    have e2 : (pre ++ x :: r).set ((pre.length : Int)).toNat n = (pre ++ [n]) ++ r := by simp
    simp only [lt_mid pre x r, h4, if_true, e, e2, w_succ h5]
    have := ih (pre ++ [n]) (n + 1) (by simp at hn; omega) (by simpa using hl)
    have e3 : n + ((x :: r).length : Int) = n + 1 + (r.length : Int) := by simp; omega
    rw [e3]
    simpa [marks] using this
theorem markIntS_ev (l : List Int) (hl : l.length ≤ 1048576) : Ev (fun k => laws_markIntS.f k l 1) (1 + (l.length : Int), marks 1 l) := by
  unfold laws_markIntS.f
  simpa using markIntS_loop l [] 1 (by omega) (by simp; omega)
theorem heldIntS_loop (rest pre : List Int) (n : Int) (hn : -9000000000000000000 ≤ n ∧ n + (rest.length : Int) ≤ 9000000000000000000) (hl : (pre ++ rest).length ≤ 4611686018427387904) : Ev (fun k => laws_heldIntS.l0 k (pre ++ marks n rest) n (pre.length : Int)) (n + (rest.length : Int)) := by
  induction rest generalizing pre n with
  | nil =>
    refine Ev.step (fun k => by rw [laws_heldIntS.l0]) ?_
    simp only [List.append_nil, nlt_end, if_false, marks, List.length_nil]
    simpa using Ev.now _
  | cons x r ih =>
    refine Ev.step (fun k => by rw [laws_heldIntS.l0]) ?_
    have h4 : (0 : Int) ≤ (pre.length : Int) := by omega
    have h5 : pre.length ≤ 4611686018427387904 := by simp at hl; omega
    have e : wrap64 (n + 1) = n + 1 := wrap64_in _ (by simp at hn; omega)
    simp only [marks, lt_mid pre n (marks (n + 1) r), h4, if_true, rd_mid, e, w_succ h5]
    have := ih (pre ++ [n]) (n + 1) (by simp at hn; omega) (by simpa using hl)
    have e3 : n + ((x :: r).length : Int) = n + 1 + (r.length : Int) := by simp; omega
    rw [e3]
    simpa [marks] using this
theorem heldIntS_ev (l : List Int) (hl : l.length ≤ 1048576) : Ev (fun k => laws_heldIntS.f k (marks 1 l) 1) (1 + (l.length : Int)) := by
  unfold laws_heldIntS.f
  simpa using heldIntS_loop l [] 1 (by omega) (by simp; omega)
theorem markIntS_any (l : List Int) (n : Int) (hl : l.length ≤ 1048576) (hn : 0 ≤ n ∧ n ≤ 100000000) : Ev (fun k => laws_markIntS.f k l n) (n + (l.length : Int), marks n l) := by
  unfold laws_markIntS.f
  simpa using markIntS_loop l [] n (by omega) (by simp; omega)
theorem markBoard_ev (W H : Int) (l : List Int) (hl : l.length ≤ 1048576) : Ev (fun k => laws_markBoard.f k W H l 1) (1 + (l.length : Int), marks 1 l) := by
  unfold laws_markBoard.f
  exact Ev.bind (markIntS_ev l hl) (Ev.now _)
end Go.Proofs.Ytfjomkjngolboaa.H

namespace Go.Proofs.Ytfjomkjngolboaa.H
open Go.RowKit Go.IntWalk Go.Proofs.Ytfjomkjngolboaa.Q Go.Proofs.YtfjomkjngolboaaW.PrintWords Go.Proofs.YtfjomkjngolboaaW.PrintMore
set_option linter.unusedVariables false
set_option linter.unusedSimpArgs false

theorem index_loop (c : Int) (rest pre : List Int) (hl : (pre ++ rest).length ≤ 4611686018427387904) : ∃ i, Ev (fun k => slices_Index_int_int.l0 k (pre ++ rest) c ((pre ++ rest).length : Int) (pre.length : Int)) i ∧ (decide (i ≥ 0) = rest.contains c) := by
  induction rest generalizing pre with
  | nil =>
    refine ⟨-1, Ev.step (fun k => by rw [slices_Index_int_int.l0]) ?_, by simp⟩
    simp only [List.append_nil, nlt_end, if_false]
    exact Ev.now _
  | cons x r ih =>
    have h4 : (0 : Int) ≤ (pre.length : Int) := by omega
    have h5 : pre.length ≤ 4611686018427387904 := by simp at hl; omega
    by_cases hx : c = x
    · refine ⟨(pre.length : Int), Ev.step (fun k => by rw [slices_Index_int_int.l0]) ?_, by simp [hx]⟩
      simp only [lt_mid pre x r, h4, if_true, rd_mid, w_succ h5, hx]
      exact Ev.now _
    · obtain ⟨i, hi, he⟩ := ih (pre ++ [x]) (by simpa using hl)
      refine ⟨i, Ev.step (fun k => by rw [slices_Index_int_int.l0]) ?_, by simpa [hx] using he⟩
      simp only [lt_mid pre x r, h4, if_true, rd_mid, w_succ h5, hx, if_false]
      simpa using hi
theorem contains_ev (l : List Int) (c : Int) (hl : l.length ≤ 4611686018427387904) : Ev (fun k => slices_Contains_int_int.f k l c) (l.contains c) := by
  obtain ⟨i, hi, he⟩ := index_loop c l [] (by simpa using hl)
  unfold slices_Contains_int_int.f slices_Index_int_int.f
  rw [← he]
  refine Ev.bind (by simpa using hi) (Ev.now _)
open Classical in
theorem isLeaper_eq (A B : Int) : impl_IsLeaper.f A B = some (decide (Leap A B)) := by
  unfold impl_IsLeaper.f Leap
  by_cases h1 : A ≥ 0 <;> by_cases h2 : A ≤ B <;> by_cases h3 : B ≥ 1 <;> simp [h1, h2, h3] <;> omega
/-! ### Steps -/
theorem mx_max (a b : Int) : mx a b = max a b := by unfold mx; split <;> omega
theorem mn_min (a b : Int) : mn a b = min a b := by unfold mn; split <;> omega
theorem mx_abs (a : Int) : mx a (-a) = (a.natAbs : Int) := by rw [mx_max]; omega
def ys (y : Int) : Nat → List Int
  | 0 => []
  | n + 1 => y :: ys (y + 1) n
def stepOk (A B : Int) (s : List Int) : Bool := decide (mn (mx (rd s 0) (-rd s 0)) (mx (rd s 1) (-rd s 1)) = A) && decide (mx (mx (rd s 0) (-rd s 0)) (mx (rd s 1) (-rd s 1)) = B)
def allSteps : List (List Int) := (ys (-5) 11).flatMap fun x => (ys (-5) 11).map fun y => [x, y]
def stepsM (A B : Int) : List (List Int) := allSteps.filter (stepOk A B)
theorem steps_l1 (A B x : Int) (hx : -5 ≤ x ∧ x ≤ 5) (R : List (List Int)) : ∀ (n : Nat) (y : Int), y + n = 6 → -5 ≤ y → ∀ acc : List (List Int), (acc.length : Int) ≤ 20 * (x + 5) + (y + 5) →
    Ev (fun k => impl_Leaper_steps.l0 k (acc ++ ((ys y n).map fun y => [x, y]).filter (stepOk A B)) (x + 1) A B) R → Ev (fun k => impl_Leaper_steps.l1 k acc x y A B) R := by
  intro n
  induction n with
  | zero =>
    intro y h1 h2 acc h3 hR
    refine Ev.step (fun k => by rw [impl_Leaper_steps.l1]) ?_
    have h4 : ¬ y ≤ 5 := by omega
    have e : wrap64 (x + 1) = x + 1 := wrap64_in _ (by omega)
    simp only [h4, if_false, e]
    simpa [ys] using hR
  | succ n ih =>
    intro y h1 h2 acc h3 hR
    refine Ev.step (fun k => by rw [impl_Leaper_steps.l1]) ?_
    have h4 : y ≤ 5 := by omega
    have e1 : wrap64 (y + 1) = y + 1 := wrap64_in _ (by omega)
    have e2 : wrap64 (-x) = -x := wrap64_in _ (by omega)
    have e3 : wrap64 (-y) = -y := wrap64_in _ (by omega)
    have h5 : acc.length < 5864062014805 := by omega
    simp only [h4, if_true, e1, e2, e3, h5]
    have hs : stepOk A B [x, y] = (decide (mn (mx x (-x)) (mx y (-y)) = A) && decide (mx (mx x (-x)) (mx y (-y)) = B)) := rfl
    by_cases c1 : mn (mx x (-x)) (mx y (-y)) = A
    · by_cases c2 : mx (mx x (-x)) (mx y (-y)) = B
      · have hs' : stepOk A B [x, y] = true := by rw [hs]; simp [c1, c2]
        simp only [c1, c2, if_true]
        refine ih (y + 1) (by omega) (by omega) (acc ++ [[x, y]]) (by simp; omega) ?_
        simpa [ys, List.filter_cons, hs'] using hR
      · have hs' : stepOk A B [x, y] = false := by rw [hs]; simp [c2]
        simp only [c1, c2, if_true, if_false]
        refine ih (y + 1) (by omega) (by omega) acc (by omega) ?_
        simpa [ys, List.filter_cons, hs'] using hR
    · have hs' : stepOk A B [x, y] = false := by rw [hs]; simp [c1]
      simp only [c1, if_false]
      refine ih (y + 1) (by omega) (by omega) acc (by omega) ?_
      simpa [ys, List.filter_cons, hs'] using hR
theorem ys_length (n : Nat) : ∀ y, (ys y n).length = n := by
  induction n with
  | zero => intro y; rfl
  | succ n ih => intro y; simp [ys, ih]
theorem steps_l0 (A B : Int) : ∀ (n : Nat) (x : Int), x + n = 6 → -5 ≤ x → ∀ acc : List (List Int), (acc.length : Int) ≤ 20 * (x + 5) →
    Ev (fun k => impl_Leaper_steps.l0 k acc x A B) (acc ++ ((ys x n).flatMap fun x => (ys (-5) 11).map fun y => [x, y]).filter (stepOk A B)) := by
  intro n
  induction n with
  | zero =>
    intro x h1 h2 acc h3
    refine Ev.step (fun k => by rw [impl_Leaper_steps.l0]) ?_
    have h4 : ¬ x ≤ 5 := by omega
    simp only [h4, if_false, ys, List.flatMap_nil, List.filter_nil, List.append_nil]
    exact Ev.now _
  | succ n ih =>
    intro x h1 h2 acc h3
    refine Ev.step (fun k => by rw [impl_Leaper_steps.l0]) ?_
    have h4 : x ≤ 5 := by omega
    simp only [h4, if_true]
    refine steps_l1 A B x ⟨h2, h4⟩ _ 11 (-5) (by omega) (by omega) acc (by omega) ?_
    have hlen : (((ys (-5) 11).map fun y => [x, y]).filter (stepOk A B)).length ≤ 11 := Nat.le_trans (List.length_filter_le _ _) (by simp [ys_length])
    have := ih (x + 1) (by omega) (by omega) (acc ++ ((ys (-5) 11).map fun y => [x, y]).filter (stepOk A B)) (by rw [List.length_append]; omega)
    have e : (ys x (n + 1)).flatMap (fun x => (ys (-5) 11).map fun y => [x, y]) = ((ys (-5) 11).map fun y => [x, y]) ++ (ys (x + 1) n).flatMap (fun x => (ys (-5) 11).map fun y => [x, y]) := by
      show (x :: ys (x + 1) n).flatMap _ = _
      rw [List.flatMap_cons]
    rw [e, List.filter_append, ← List.append_assoc]
    exact this
theorem steps_ev (A B : Int) : Ev (fun k => impl_Leaper_steps.f k A B) (stepsM A B) := by
  unfold impl_Leaper_steps.f
  have := steps_l0 A B 11 (-5) (by omega) (by omega) [] (by simp)
  simpa [stepsM, allSteps] using this
theorem mem_ys (n : Nat) : ∀ (y z : Int), z ∈ ys y n ↔ y ≤ z ∧ z < y + n := by
  induction n with
  | zero => intro y z; simp [ys]
  | succ n ih => intro y z; simp only [ys, List.mem_cons, ih]; omega
theorem mem_allSteps (s : List Int) : s ∈ allSteps ↔ ∃ x y : Int, (-5 ≤ x ∧ x ≤ 5) ∧ (-5 ≤ y ∧ y ≤ 5) ∧ s = [x, y] := by
  unfold allSteps
  simp only [List.mem_flatMap, List.mem_map, mem_ys]
  constructor
  · rintro ⟨x, hx, y, hy, rfl⟩; exact ⟨x, y, by omega, by omega, rfl⟩
  · rintro ⟨x, y, hx, hy, rfl⟩; exact ⟨x, by omega, y, by omega, rfl⟩
theorem mem_stepsM (A B : Int) (s : List Int) : s ∈ stepsM A B ↔ ∃ x y : Int, (-5 ≤ x ∧ x ≤ 5) ∧ (-5 ≤ y ∧ y ≤ 5) ∧ s = [x, y] ∧ mn (mx x (-x)) (mx y (-y)) = A ∧ mx (mx x (-x)) (mx y (-y)) = B := by
  unfold stepsM
  rw [List.mem_filter, mem_allSteps]
  constructor
  · rintro ⟨⟨x, y, hx, hy, rfl⟩, h⟩
    simp only [stepOk, Bool.and_eq_true, decide_eq_true_eq] at h
    exact ⟨x, y, hx, hy, rfl, h.1, h.2⟩
  · rintro ⟨x, y, hx, hy, rfl, h1, h2⟩
    refine ⟨⟨x, y, hx, hy, rfl⟩, ?_⟩
    simp only [stepOk, Bool.and_eq_true, decide_eq_true_eq]
    exact ⟨h1, h2⟩
theorem allSteps_apart : allSteps.Pairwise fun a b => ¬ (rd a 0 = rd b 0 ∧ rd a 1 = rd b 1) := by decide +kernel
theorem stepsM_apart (A B : Int) : (stepsM A B).Pairwise fun a b => ¬ (rd a 0 = rd b 0 ∧ rd a 1 = rd b 1) := allSteps_apart.filter _
theorem stepsM_length (A B : Int) : (stepsM A B).length ≤ 121 := Nat.le_trans (List.length_filter_le _ _) (by decide +kernel)

theorem sort_key {l m : List Int} (hl : l.Nodup) (hm : m.Pairwise (· < ·)) (h : ∀ x, x ∈ l ↔ x ∈ m) : sortL l = m := by
  unfold sortL
  have hmn : m.Nodup := hm.imp (fun h => by omega)
  refine List.Perm.eq_of_pairwise (le := fun x y => x ≤ y) (fun a b _ _ h1 h2 => by omega) ?_ (hm.imp (fun h => by omega)) ?_
  · refine (List.pairwise_mergeSort (le := fun x y => decide (x ≤ y)) (fun a b c => ?_) (fun a b => ?_) l).imp (fun h => by simpa using h)
    · simp; omega
    · simp; omega
  · exact (List.mergeSort_perm l _).trans ((List.perm_ext_iff_of_nodup hl hmn).2 h)
theorem rd_L1_set (N : List (List Int)) (c : Int) (r : List Int) (h : 0 ≤ c ∧ c < (N.length : Int)) : rd_L1 (N.set c.toNat r) c = r := by
  unfold rd_L1
  rw [List.getD_eq_getElem?_getD, List.getElem?_set_self (by omega)]
  rfl
end Go.Proofs.Ytfjomkjngolboaa.H

namespace Go.Proofs.Ytfjomkjngolboaa.H
open Go.RowKit Go.IntWalk Go.Proofs.Ytfjomkjngolboaa.Q Go.Proofs.YtfjomkjngolboaaW.PrintWords Go.Proofs.YtfjomkjngolboaaW.PrintMore
set_option linter.unusedVariables false
set_option linter.unusedSimpArgs false

theorem has_ev {W H : Int} {L : List Int} (g : BoardM W H L) (c : Int) (hl : L.length ≤ 1048576) : Ev (fun k => impl_Board_has.f k W H L c) (hasB W H L c) := by
  have ha := g.area
  simp only [impl_Board_has.f, g.wrapArea]
  by_cases h1 : c ≥ 0
  · by_cases h2 : c < W * H
    · simp only [h1, h2, if_true]
      refine Ev.bind (contains_ev L c (by omega)) ?_
      have h3 : (0 : Int) ≤ c := h1
      have : hasB W H L c = !L.contains c := by simp [hasB, h3, h2]
      rw [this]
      exact Ev.now _
    · have : hasB W H L c = false := by simp [hasB, h2]
      simp only [h1, h2, if_true, if_false, this]
      exact Ev.now _
  · have h3 : ¬ (0 : Int) ≤ c := h1
    have : hasB W H L c = false := by simp [hasB, h3]
    simp only [h1, if_false, this]
    exact Ev.now _
open Classical in
theorem isBoard_loop (W H : Int) (L : List Int) (ha : wrap64 (W * H) = W * H) (hl : L.length ≤ 4611686018427387904) : ∀ (n i : Nat), n + i = L.length → Ev (fun k => impl_IsBoard.l0 k L (L.length : Int) (i : Int) W H L) (decide (∀ j, i ≤ j → ∀ h : j < L.length, (0 ≤ L[j] ∧ L[j] < W * H) ∧ (1 ≤ j → L[j - 1] < L[j]))) := by
  intro n
  induction n with
  | zero =>
    intro i h1
    refine Ev.step (fun k => by rw [impl_IsBoard.l0]) ?_
    have h3 : ¬ ((i : Int) < (L.length : Int)) := by omega
    have h4 : (∀ j, i ≤ j → ∀ h : j < L.length, (0 ≤ L[j] ∧ L[j] < W * H) ∧ (1 ≤ j → L[j - 1] < L[j])) = True := eq_true (fun j hj h => by omega)
    simp only [h3, if_false, h4, decide_true]
    exact Ev.now _
  | succ n ih =>
    intro i h1
    refine Ev.step (fun k => by rw [impl_IsBoard.l0]) ?_
    have h3 : (i : Int) < (L.length : Int) := by omega
    have hi : i < L.length := by omega
    have h7 : (0 : Int) ≤ (i : Int) := by omega
    have no : ((0 ≤ L[i] ∧ L[i] < W * H) ∧ (1 ≤ i → L[i - 1] < L[i])) ∨ ¬ ((0 ≤ L[i] ∧ L[i] < W * H) ∧ (1 ≤ i → L[i - 1] < L[i])) := Classical.em _
    have bad : ¬ ((0 ≤ L[i] ∧ L[i] < W * H) ∧ (1 ≤ i → L[i - 1] < L[i])) → decide (∀ j, i ≤ j → ∀ h : j < L.length, (0 ≤ L[j] ∧ L[j] < W * H) ∧ (1 ≤ j → L[j - 1] < L[j])) = false := fun hb => by
      rw [decide_eq_false_iff_not]
      exact fun h => hb (h i (by omega) hi)
    have good : ((0 ≤ L[i] ∧ L[i] < W * H) ∧ (1 ≤ i → L[i - 1] < L[i])) → (∀ j, i ≤ j → ∀ h : j < L.length, (0 ≤ L[j] ∧ L[j] < W * H) ∧ (1 ≤ j → L[j - 1] < L[j])) = (∀ j, i + 1 ≤ j → ∀ h : j < L.length, (0 ≤ L[j] ∧ L[j] < W * H) ∧ (1 ≤ j → L[j - 1] < L[j])) := fun hg => by
      rw [eq_iff_iff]
      constructor
      · intro h j hj; exact h j (by omega)
      · intro h j hj hjl
        rcases Nat.lt_or_ge i j with h9 | h9
        · exact h j (by omega) hjl
        · obtain rfl : j = i := by omega
          exact hg
    simp only [h3, h7, if_true, rd_nat L i hi, ha, w_succ (show i ≤ 4611686018427387904 by omega)]
    by_cases c1 : L[i] < 0
    · rw [bad (fun h => by omega)]
      simp only [c1, if_true]
      exact Ev.now _
    simp only [c1, if_false]
    by_cases c2 : L[i] ≥ W * H
    · rw [bad (fun h => by omega)]
      simp only [c2, if_true]
      exact Ev.now _
    simp only [c2, if_false]
    by_cases c3 : (i : Int) > 0
    · have h4 : wrap64 ((i : Int) - 1) = ((i - 1 : Nat) : Int) := by rw [wrap64_in _ (by omega)]; omega
      have h5 : (0 : Int) ≤ ((i - 1 : Nat) : Int) := by omega
      have h6 : ((i - 1 : Nat) : Int) < (L.length : Int) := by omega
      simp only [c3, if_true, h4, h5, h6, rd_nat L (i - 1) (by omega)]
      by_cases c4 : L[i - 1] ≥ L[i]
      · rw [bad (fun h => by have := h.2 (by omega); omega)]
        simp only [c4, if_true]
        exact Ev.now _
      · simp only [c4, if_false, good ⟨⟨by omega, by omega⟩, fun _ => by omega⟩]
        exact ih (i + 1) (by omega)
    · simp only [c3, if_false, good ⟨⟨by omega, by omega⟩, fun h => absurd h (by omega)⟩]
      exact ih (i + 1) (by omega)
theorem sized_eq (n : Int) : impl_sized.f n = some (decide (1 ≤ n ∧ n ≤ 8)) := by
  unfold impl_sized.f
  by_cases h1 : n ≥ 1
  · have h2 : (1 : Int) ≤ n := h1
    simp [h1, h2]
  · have h2 : ¬ (1 : Int) ≤ n := h1
    simp [h1, h2]
theorem isBoard_no {W H : Int} {L : List Int} : Ev (fun k => impl_IsBoard.j0 k true W H L) false := by
  refine Ev.step (fun k => by rw [impl_IsBoard.j0]) ?_
  simp only [if_true]
  exact Ev.now _
open Classical in
theorem isBoard_ev (W H : Int) (L : List Int) (hl : L.length ≤ 1048576) : Ev (fun k => impl_IsBoard.f k W H L) (decide (BoardM W H L)) := by
  simp only [impl_IsBoard.f, sized_eq, Option.bind_some]
  by_cases h1 : 1 ≤ W ∧ W ≤ 8
  · by_cases h2 : 1 ≤ H ∧ H ≤ 8
    · have ar1 : 1 ≤ W * H := by have := Int.mul_le_mul h1.1 h2.1 (by omega) (by omega); omega
      have ar2 : W * H ≤ 64 := by have := Int.mul_le_mul h1.2 h2.2 (by omega) (by omega); omega
      have e1 : wrap64 (W * H) = W * H := wrap64_in _ (by omega)
      simp only [h1, h2, and_self, decide_true, if_true, e1]
      by_cases h3 : (L.length : Int) ≥ W * H
      · have : decide (BoardM W H L) = false := by
          rw [decide_eq_false_iff_not]; rintro ⟨_, _, _, _, h, _⟩; omega
        simp only [h3, decide_true, this]
        exact isBoard_no
      · simp only [h3, decide_false]
        refine Ev.step (fun k => by rw [impl_IsBoard.j0]) ?_
        simp only [Bool.false_eq_true, if_false]
        have h4 := isBoard_loop W H L e1 (by omega) L.length 0 rfl
        have h5 : (∀ j, 0 ≤ j → ∀ h : j < L.length, (0 ≤ L[j] ∧ L[j] < W * H) ∧ (1 ≤ j → L[j - 1] < L[j])) = BoardM W H L := by
          rw [eq_iff_iff]
          constructor
          · intro h
            refine ⟨h1.1, h1.2, h2.1, h2.2, by omega, ?_, (pairwise_iff L).2 fun j hj hjl => (h j (by omega) hjl).2 hj⟩
            intro x hx
            obtain ⟨j, hj, rfl⟩ := List.getElem_of_mem hx
            exact (h j (by omega) hj).1
          · rintro ⟨_, _, _, _, _, h, p⟩ j _ hj
            exact ⟨h _ (List.getElem_mem hj), fun h1 => (pairwise_iff L).1 p j h1 hj⟩
        simp only [h5] at h4
        simpa using h4
    · have : decide (BoardM W H L) = false := by
        rw [decide_eq_false_iff_not]; rintro ⟨_, _, a, b, _⟩; exact h2 ⟨a, b⟩
      simp only [h1, h2, and_self, decide_true, decide_false, if_true, Bool.false_eq_true, if_false, this]
      exact isBoard_no
  · have : decide (BoardM W H L) = false := by
      rw [decide_eq_false_iff_not]; rintro ⟨a, b, _⟩; exact h1 ⟨a, b⟩
    simp only [h1, decide_false, Bool.false_eq_true, if_false, this]
    exact isBoard_no
theorem present_loop {W H : Int} {L : List Int} (g : BoardM W H L) (hl : L.length ≤ 1048576) : ∀ (n i : Nat), (n + i : Int) = W * H → ∀ acc : List Int, acc.length ≤ i → Ev (fun k => impl_Board_present.l0 k acc (W * H) (i : Int) W H L) (acc ++ ((List.range' i n).map Int.ofNat).filter (hasB W H L)) := by
  have ha := g.area
  intro n
  induction n with
  | zero =>
    intro i h1 acc h2
    refine Ev.step (fun k => by rw [impl_Board_present.l0]) ?_
    have h3 : ¬ ((i : Int) < W * H) := by omega
    simp only [h3, if_false, List.range'_zero, List.map_nil, List.filter_nil, List.append_nil]
    exact Ev.now _
  | succ n ih =>
    intro i h1 acc h2
    refine Ev.step (fun k => by rw [impl_Board_present.l0]) ?_
    have h3 : ((i : Int) < W * H) := by omega
    have h0 : (0 : Int) ≤ (i : Int) := by omega
    simp only [h3, if_true, w_succ (show i ≤ 4611686018427387904 by omega)]
    refine Ev.bind (contains_ev L (i : Int) (by omega)) ?_
    have h4 : acc.length < 17592186044416 := by omega
    have hb : hasB W H L (i : Int) = !L.contains (i : Int) := by simp [hasB, h0, h3]
    cases hx : L.contains (i : Int) with
    | false =>
      rw [hx] at hb
      simp only [Bool.false_eq_true, if_false, h4, if_true]
      have := ih (i + 1) (by omega) (acc ++ [(i : Int)]) (by simp; omega)
      simpa [List.range'_succ, List.filter_cons, hb] using this
    | true =>
      rw [hx] at hb
      simp only [if_true]
      have := ih (i + 1) (by omega) acc (by omega)
      simpa [List.range'_succ, List.filter_cons, hb] using this
theorem present_ev {W H : Int} {L : List Int} (g : BoardM W H L) (hl : L.length ≤ 1048576) : Ev (fun k => impl_Board_present.f k W H L) (cellsM W H L) := by
  have ha := g.area
  have := present_loop g hl (W * H).toNat 0 (by omega) [] (by simp)
  unfold impl_Board_present.f cellsM
  rw [List.range_eq_range', g.wrapArea]
  simpa using this

/-! ### The neighbours of a cell -/
def stepTo (W H : Int) (L : List Int) (c : Int) (s : List Int) : Option Int :=
  if 0 ≤ c % W + rd s 0 ∧ c % W + rd s 0 < W ∧ 0 ≤ c / W + rd s 1 ∧ c / W + rd s 1 < H ∧ hasB W H L ((c / W + rd s 1) * W + (c % W + rd s 0)) = true then some ((c / W + rd s 1) * W + (c % W + rd s 0)) else none
theorem cellsM_sorted (W H : Int) (L : List Int) : (cellsM W H L).Pairwise (· < ·) := by
  unfold cellsM
  refine List.Pairwise.filter _ ?_
  rw [List.pairwise_map]
  refine List.pairwise_lt_range.imp (fun h => ?_)
  simp; omega
theorem leapsM_sorted (W H : Int) (L : List Int) (A B c : Int) : (leapsM W H L A B c).Pairwise (· < ·) := (cellsM_sorted W H L).filter _
theorem place_mod {W p q : Int} (h : 0 ≤ p ∧ p < W) : (q * W + p) % W = p ∧ (q * W + p) / W = q := by
  have hW : W ≠ 0 := by omega
  constructor
  · rw [Int.add_comm, Int.add_mul_emod_self_right]; exact Int.emod_eq_of_lt h.1 h.2
  · rw [Int.add_comm, Int.add_mul_ediv_right _ _ hW, Int.ediv_eq_zero_of_lt h.1 h.2]; omega
theorem near_key {W H : Int} {L : List Int} {A B : Int} (t : Two W H L A B) (c : Int) (hc : 0 ≤ c ∧ c < W * H) : sortL ((stepsM A B).filterMap (stepTo W H L c)) = leapsM W H L A B c := by
  obtain ⟨g, l⟩ := t
  obtain ⟨p1, p2, p3, p4, p5⟩ := cell_bounds g hc
  have b1 := g.1
  refine sort_key ?_ (leapsM_sorted _ _ _ _ _ _) ?_
  · unfold List.Nodup
    rw [List.pairwise_filterMap]
    refine (stepsM_apart A B).imp fun {s s'} hne b hb b' hb' he => hne ?_
    unfold stepTo at hb hb'
    split at hb
    · split at hb'
      · rename_i h1 h2
        simp only [Option.some.injEq] at hb hb'
        obtain ⟨m1, m2⟩ := place_mod (W := W) (q := c / W + rd s 1) ⟨h1.1, h1.2.1⟩
        obtain ⟨m3, m4⟩ := place_mod (W := W) (q := c / W + rd s' 1) ⟨h2.1, h2.2.1⟩
        rw [hb] at m1 m2
        rw [hb', ← he] at m3 m4
        omega
      · cases hb'
    · cases hb
  · intro d
    simp only [List.mem_filterMap, mem_stepsM, leapsM, List.mem_filter, mem_cellsM]
    constructor
    · rintro ⟨s, ⟨x, y, hx, hy, rfl, h1, h2⟩, hs⟩
      unfold stepTo at hs
      split at hs
      · rename_i h
        simp only [Option.some.injEq] at hs
        have e0 : rd [x, y] 0 = x := rfl
        have e1 : rd [x, y] 1 = y := rfl
        rw [e0, e1] at h hs
        obtain ⟨m1, m2⟩ := place_mod (W := W) (q := c / W + y) ⟨h.1, h.2.1⟩
        rw [hs] at m1 m2 h
        refine ⟨h.2.2.2.2, ?_⟩
        unfold isB
        rw [m1, m2]
        simp only [Bool.or_eq_true, Bool.and_eq_true, decide_eq_true_eq]
        rw [mn_min, mx_abs, mx_abs] at h1
        rw [mx_max, mx_abs, mx_abs] at h2
        omega
      · cases hs
    · rintro ⟨h1, h2⟩
      obtain ⟨q1, q2, q3, q4, q5⟩ := cell_bounds g (has_range h1)
      have l1 := l.1
      have l2 := l.2.1
      have l3 := l.2.2.1
      have l4 := l.2.2.2
      unfold isB at h2
      simp only [Bool.or_eq_true, Bool.and_eq_true, decide_eq_true_eq] at h2
      refine ⟨[d % W - c % W, d / W - c / W], ⟨_, _, by omega, by omega, rfl, ?_, ?_⟩, ?_⟩
      · rw [mn_min, mx_abs, mx_abs]; omega
      · rw [mx_max, mx_abs, mx_abs]; omega
      · unfold stepTo
        have e0 : rd [d % W - c % W, d / W - c / W] 0 = d % W - c % W := rfl
        have e1 : rd [d % W - c % W, d / W - c / W] 1 = d / W - c / W := rfl
        rw [e0, e1]
        have e2 : c % W + (d % W - c % W) = d % W := by omega
        have e3 : c / W + (d / W - c / W) = d / W := by omega
        have e4 : d / W * W + d % W = d := by omega
        rw [e2, e3, e4]
        simp only [q1, q2, q3, q4, h1, and_self, if_true]
/-! ### The graph -/
def rowM (W H : Int) (L : List Int) (A B c : Int) : List Int := (stepsM A B).filterMap (stepTo W H L c)
def nearF (W H : Int) (L : List Int) (A B : Int) (N : List (List Int)) (cs : List Int) : List (List Int) := cs.foldl (fun N c => N.set c.toNat (sortL (rd_L1 N c ++ rowM W H L A B c))) N
theorem graphOf_l1 {W H : Int} {L : List Int} {A B : Int} (t : Two W H L A B) (hl : L.length ≤ 1048576) (c : Int) (hc : 0 ≤ c ∧ c < W * H) (cs : List Int) (i : Nat) (hi : i ≤ 100) (xs : List Int) (R : List Int × List (List Int) × Bool) (rest pre : List (List Int)) (hr : ∀ s ∈ rest, ∃ x y : Int, (-5 ≤ x ∧ x ≤ 5) ∧ (-5 ≤ y ∧ y ≤ 5) ∧ s = [x, y]) (hp : (pre ++ rest).length ≤ 121) (N : List (List Int)) (hN : (N.length : Int) = W * H) (hrow : (rd_L1 N c).length ≤ 1000 + pre.length)
    (hR : Ev (fun k => impl_graphOf.l0 k cs (cs.length : Int) ((i + 1 : Nat) : Int) W H L A B W H L A B xs (N.set c.toNat (sortL (rd_L1 N c ++ rest.filterMap (stepTo W H L c))))) R) :
    Ev (fun k => impl_graphOf.l1 k c cs (cs.length : Int) (i : Int) (pre ++ rest) ((pre ++ rest).length : Int) (pre.length : Int) W H L A B W H L A B xs N) R := by
  obtain ⟨g, l⟩ := t
  obtain ⟨p1, p2, p3, p4, p5⟩ := cell_bounds g hc
  have b1 := g.1
  have b2 := g.2.1
  have b3 := g.2.2.2.1
  have hcN : 0 ≤ c ∧ c < (N.length : Int) := by omega
  induction rest generalizing pre N with
  | nil =>
    refine Ev.step (fun k => by rw [impl_graphOf.l1]) ?_
    have h1 : (rd_L1 N c).length < 4611686018427387904 := by simp at hp; omega
    simp only [List.append_nil, nlt_end, if_false, hcN, hc.1, if_true, h1, w_succ (show i ≤ 4611686018427387904 by omega)]
    simpa using hR
  | cons s r ih =>
    refine Ev.step (fun k => by rw [impl_graphOf.l1]) ?_
    obtain ⟨x, y, hx, hy, rfl⟩ := hr s (by simp)
    have h0 : (0 : Int) ≤ (pre.length : Int) := by omega
    have h5 : pre.length ≤ 121 := by simp at hp; omega
    have e0 : rd_L1 (pre ++ [x, y] :: r) (pre.length : Int) = [x, y] := by simp [rd_L1]
    have e1 : rd [x, y] 0 = x := rfl
    have e2 : rd [x, y] 1 = y := rfl
    have n0 : ¬ W = 0 := by omega
    have w1 : wrap64 (c % W + x) = c % W + x := wrap64_in _ (by omega)
    have w2 : wrap64 (c / W) = c / W := wrap64_in _ (by omega)
    have w3 : wrap64 (c / W + y) = c / W + y := wrap64_in _ (by omega)
    have hlen0 : (0 : Int) < (([x, y] : List Int).length : Int) := by simp
    have hlen1 : (1 : Int) < (([x, y] : List Int).length : Int) := by simp
    have back : ∀ N' : List (List Int), (N'.length : Int) = W * H → (rd_L1 N' c).length ≤ 1000 + (pre.length + 1) →
        Ev (fun k => impl_graphOf.l0 k cs (cs.length : Int) ((i + 1 : Nat) : Int) W H L A B W H L A B xs (N'.set c.toNat (sortL (rd_L1 N' c ++ r.filterMap (stepTo W H L c))))) R →
        Ev (fun k => impl_graphOf.l1 k c cs (cs.length : Int) (i : Int) (pre ++ [x, y] :: r) ((pre ++ [x, y] :: r).length : Int) ((pre.length + 1 : Nat) : Int) W H L A B W H L A B xs N') R := by
      intro N' hN' hrow' hR'
      have := ih (pre ++ [[x, y]]) (fun s hs => hr s (by simp [hs])) (by simpa using hp) N' hN' (by simpa using hrow') hR' (by omega)
      simpa using this
    simp only [lt_mid pre [x, y] r, h0, if_true, e0, e1, e2, n0, if_false, tmod_of hc.1, tdiv_of hc.1, w1, w2, w3, hlen0, hlen1, w_succ (show pre.length ≤ 4611686018427387904 by omega)]
    have skip : stepTo W H L c [x, y] = none → Ev (fun k => impl_graphOf.l1 k c cs (cs.length : Int) (i : Int) (pre ++ [x, y] :: r) ((pre ++ [x, y] :: r).length : Int) ((pre.length + 1 : Nat) : Int) W H L A B W H L A B xs N) R := by
      intro hs
      refine back N hN (by omega) ?_
      simpa [List.filterMap_cons, hs] using hR
    have se : stepTo W H L c [x, y] = if 0 ≤ c % W + x ∧ c % W + x < W ∧ 0 ≤ c / W + y ∧ c / W + y < H ∧ hasB W H L ((c / W + y) * W + (c % W + x)) = true then some ((c / W + y) * W + (c % W + x)) else none := rfl
    by_cases c1 : c % W + x ≥ 0
    case neg => simp only [c1, if_false]; exact skip (by rw [se, if_neg]; rintro ⟨h, _⟩; omega)
    simp only [c1, if_true]
    by_cases c2 : c % W + x < W
    case neg => simp only [c2, if_false]; exact skip (by rw [se, if_neg]; rintro ⟨_, h, _⟩; omega)
    simp only [c2, if_true]
    by_cases c3 : c / W + y ≥ 0
    case neg => simp only [c3, if_false]; exact skip (by rw [se, if_neg]; rintro ⟨_, _, h, _⟩; omega)
    simp only [c3, if_true]
    by_cases c4 : c / W + y < H
    case neg => simp only [c4, if_false]; exact skip (by rw [se, if_neg]; rintro ⟨_, _, _, h, _⟩; omega)
    simp only [c4, if_true]
    have m1 : 0 ≤ (c / W + y) * W := Int.mul_nonneg c3 (by omega)
    have m2 : (c / W + y) * W ≤ 8 * 8 := Int.mul_le_mul (by omega) b2 (by omega) (by omega)
    have w4 : wrap64 ((c / W + y) * W) = (c / W + y) * W := wrap64_in _ (by omega)
    have w5 : wrap64 ((c / W + y) * W + (c % W + x)) = (c / W + y) * W + (c % W + x) := wrap64_in _ (by omega)
    simp only [w4, w5]
    refine Ev.bind (has_ev g _ hl) ?_
    cases hh : hasB W H L ((c / W + y) * W + (c % W + x)) with
    | false =>
      simp only [Bool.false_eq_true, if_false]
      exact skip (by rw [se, if_neg]; rintro ⟨_, _, _, _, h⟩; rw [hh] at h; cases h)
    | true =>
      have h9 : (rd_L1 N c).length < 17592186044416 := by omega
      simp only [if_true, hc.1, hcN, h9]
      have hs : stepTo W H L c [x, y] = some ((c / W + y) * W + (c % W + x)) := by
        rw [se, if_pos]; exact ⟨c1, c2, c3, c4, hh⟩
      refine back _ (by simpa using hN) (by rw [rd_L1_set N c _ hcN]; simp; omega) ?_
      rw [rd_L1_set N c _ hcN, List.set_set]
      simpa [List.filterMap_cons, hs] using hR
theorem graphOf_l0 {W H : Int} {L : List Int} {A B : Int} (t : Two W H L A B) (hl : L.length ≤ 1048576) (xs rest pre : List Int) (hr : ∀ c ∈ rest, 0 ≤ c ∧ c < W * H) (hp : (pre ++ rest).length ≤ 64) (N : List (List Int)) (hN : (N.length : Int) = W * H) (hrow : ∀ c ∈ rest, rd_L1 N c = []) (hnd : rest.Nodup) :
    Ev (fun k => impl_graphOf.l0 k (pre ++ rest) ((pre ++ rest).length : Int) (pre.length : Int) W H L A B W H L A B xs N) (xs, nearF W H L A B N rest, true) := by
  induction rest generalizing pre N with
  | nil =>
    refine Ev.step (fun k => by rw [impl_graphOf.l0]) ?_
    simp only [List.append_nil, nlt_end, if_false, nearF, List.foldl_nil]
    exact Ev.now _
  | cons c r ih =>
    refine Ev.step (fun k => by rw [impl_graphOf.l0]) ?_
    have h0 : (0 : Int) ≤ (pre.length : Int) := by omega
    have h5 : pre.length ≤ 64 := by simp at hp; omega
    simp only [lt_mid pre c r, h0, if_true, rd_mid]
    refine Ev.bind (steps_ev A B) ?_
    have hc := hr c (by simp)
    have := graphOf_l1 t hl c hc (pre ++ c :: r) pre.length (by omega) xs (xs, nearF W H L A B N (c :: r), true) (stepsM A B) [] (fun s hs => by
      obtain ⟨x, y, hx, hy, e, _⟩ := (mem_stepsM A B s).1 hs
      exact ⟨x, y, hx, hy, e⟩) (by simpa using stepsM_length A B) N hN (by rw [hrow c (by simp)]; simp) ?_
    · simpa using this
    · have h1 : (N.set c.toNat (sortL (rd_L1 N c ++ rowM W H L A B c))).length = N.length := by simp
      have := ih (pre ++ [c]) (fun d hd => hr d (by simp [hd])) (by simpa using hp) (N.set c.toNat (sortL (rd_L1 N c ++ rowM W H L A B c))) (by omega) (fun d hd => by
        have hdc : d ≠ c := fun e => by subst e; exact (List.nodup_cons.1 hnd).1 hd
        have hd0 := hr d (by simp [hd])
        have := hrow d (by simp [hd])
        unfold rd_L1 at this ⊢
        rw [List.getD_eq_getElem?_getD, List.getElem?_set_ne (by omega)]
        rwa [List.getD_eq_getElem?_getD] at this) (List.nodup_cons.1 hnd).2
      simpa [nearF, rowM] using this
def nearM (W H : Int) (L : List Int) (A B : Int) : List (List Int) := (List.range (W * H).toNat).map fun (i : Nat) => if hasB W H L (i : Int) then leapsM W H L A B (i : Int) else []
theorem nearF_length (W H : Int) (L : List Int) (A B : Int) (cs : List Int) : ∀ N, (nearF W H L A B N cs).length = N.length := by
  induction cs with
  | nil => intro N; rfl
  | cons c r ih => intro N; show (nearF W H L A B _ r).length = _; rw [ih]; simp
theorem nearF_get (W H : Int) (L : List Int) (A B : Int) (cs : List Int) (hn : cs.Nodup) : ∀ N, (∀ c ∈ cs, rd_L1 N c = [] ∧ 0 ≤ c ∧ c < (N.length : Int)) → ∀ i : Nat, i < N.length → rd_L1 (nearF W H L A B N cs) (i : Int) = if (i : Int) ∈ cs then sortL (rowM W H L A B (i : Int)) else rd_L1 N (i : Int) := by
  induction cs with
  | nil => intro N h i hi; simp [nearF]
  | cons c r ih =>
    intro N h i hi
    show rd_L1 (nearF W H L A B (N.set c.toNat (sortL (rd_L1 N c ++ rowM W H L A B c))) r) (i : Int) = _
    obtain ⟨hc0, hc⟩ := h c (by simp)
    obtain ⟨hcr, hr⟩ := List.nodup_cons.1 hn
    have hset : ∀ d : Int, 0 ≤ d → d ≠ c → rd_L1 (N.set c.toNat (sortL (rd_L1 N c ++ rowM W H L A B c))) d = rd_L1 N d := by
      intro d hd0 hdc
      unfold rd_L1
      rw [List.getD_eq_getElem?_getD, List.getElem?_set_ne (by omega), ← List.getD_eq_getElem?_getD]
    rw [ih hr _ (fun d hd => by
      have hd' := h d (by simp [hd])
      refine ⟨?_, hd'.2.1, by simpa using hd'.2.2⟩
      rw [hset d hd'.2.1 (fun e => by subst e; exact hcr hd)]
      exact hd'.1) i (by simpa using hi)]
    by_cases hic : (i : Int) = c
    · have : ¬ (i : Int) ∈ r := by rw [hic]; exact hcr
      rw [if_neg this, hic, rd_L1_set N c _ hc, if_pos (by simp), hc0]
      simp
    · rw [hset _ (by omega) hic]
      have : ((i : Int) ∈ c :: r) ↔ (i : Int) ∈ r := by simp [hic]
      by_cases h2 : (i : Int) ∈ r
      · rw [if_pos h2, if_pos (this.2 h2)]
      · rw [if_neg h2, if_neg (fun h3 => h2 (this.1 h3))]
theorem nearM_get (W H : Int) (L : List Int) (A B c : Int) (h : 0 ≤ c ∧ c < W * H) : rd_L1 (nearM W H L A B) c = if hasB W H L c then leapsM W H L A B c else [] := by
  unfold rd_L1 nearM
  rw [List.getD_eq_getElem?_getD, List.getElem?_map, List.getElem?_range (by omega)]
  have : ((c.toNat : Nat) : Int) = c := by omega
  simp [this]
theorem nearM_length (W H : Int) (L : List Int) (A B : Int) : (nearM W H L A B).length = (W * H).toNat := by simp [nearM]
theorem nearF_eq {W H : Int} {L : List Int} {A B : Int} (t : Two W H L A B) : nearF W H L A B (List.replicate (W * H).toNat []) (cellsM W H L) = nearM W H L A B := by
  have g := t.1
  have ha := g.area
  have hrep : ∀ d : Int, rd_L1 (List.replicate (W * H).toNat ([] : List Int)) d = [] := by
    intro d
    unfold rd_L1
    rw [List.getD_eq_getElem?_getD, List.getElem?_replicate]
    split <;> rfl
  have hnd : (cellsM W H L).Nodup := (cellsM_sorted W H L).imp (fun h => by omega)
  refine List.ext_getElem (by rw [nearF_length, nearM_length]; simp) fun i h1 h2 => ?_
  have hi : i < (W * H).toNat := by rw [nearM_length] at h2; exact h2
  have k1 := nearF_get W H L A B (cellsM W H L) hnd (List.replicate (W * H).toNat []) (fun c hc => ⟨hrep c, (has_range (mem_cellsM.1 hc)).1, by have := (has_range (mem_cellsM.1 hc)).2; simp; omega⟩) i (by simpa using hi)
  have k2 := nearM_get W H L A B (i : Int) (by omega)
  have r1 : rd_L1 (nearF W H L A B (List.replicate (W * H).toNat []) (cellsM W H L)) (i : Int) = (nearF W H L A B (List.replicate (W * H).toNat []) (cellsM W H L))[i] := by
    unfold rd_L1; rw [List.getD_eq_getElem?_getD, Int.toNat_natCast, List.getElem?_eq_getElem h1]; rfl
  have r2 : rd_L1 (nearM W H L A B) (i : Int) = (nearM W H L A B)[i] := by
    unfold rd_L1; rw [List.getD_eq_getElem?_getD, Int.toNat_natCast, List.getElem?_eq_getElem h2]; rfl
  rw [← r1, ← r2, k1, k2]
  by_cases hh : hasB W H L (i : Int) = true
  · rw [if_pos (mem_cellsM.2 hh), if_pos hh]
    exact near_key t (i : Int) (by omega)
  · rw [if_neg (fun h => hh (mem_cellsM.1 h)), if_neg hh]
    exact hrep _
theorem graphOf_no {W H : Int} {L : List Int} {A B : Int} : Ev (fun k => impl_graphOf.j0 k true W H L A B) (([] : List Int), ([] : List (List Int)), false) := by
  refine Ev.step (fun k => by rw [impl_graphOf.j0]) ?_
  simp only [if_true]
  exact Ev.now _
theorem graphOf_two {W H : Int} {L : List Int} {A B : Int} (t : Two W H L A B) (hl : L.length ≤ 1048576) : Ev (fun k => impl_graphOf.f k W H L A B) (cellsM W H L, nearM W H L A B, true) := by
  have ha := t.1.area
  unfold impl_graphOf.f
  refine Ev.bind (isBoard_ev W H L hl) ?_
  have g := t.1
  have l := t.2
  simp only [g, l, decide_true, if_true, isLeaper_eq, Option.bind_some, Bool.not_true]
  refine Ev.step (fun k => by rw [impl_graphOf.j0]) ?_
  simp only [Bool.false_eq_true, if_false]
  refine Ev.bind (present_ev g hl) ?_
  have h1 : 0 ≤ W * H := by omega
  have h2 : (W * H).toNat ≤ 11728124029610 := by omega
  simp only [g.wrapArea, h1, h2, if_true]
  have := graphOf_l0 t hl (cellsM W H L) (cellsM W H L) [] (fun c hc => has_range (mem_cellsM.1 hc)) (by simpa using cellsM_length g) (List.replicate (W * H).toNat []) (by simp; omega) (fun d hd => by
    unfold rd_L1
    rw [List.getD_eq_getElem?_getD, List.getElem?_replicate]
    split <;> rfl) ((cellsM_sorted W H L).imp (fun h => by omega))
  rw [nearF_eq t] at this
  simpa using this
theorem graphOf_not {W H : Int} {L : List Int} {A B : Int} (t : ¬ Two W H L A B) (hl : L.length ≤ 1048576) : Ev (fun k => impl_graphOf.f k W H L A B) (([] : List Int), ([] : List (List Int)), false) := by
  unfold impl_graphOf.f
  refine Ev.bind (isBoard_ev W H L hl) ?_
  by_cases g : BoardM W H L
  · have l : ¬ Leap A B := fun l => t ⟨g, l⟩
    simp only [g, l, decide_true, decide_false, if_true, isLeaper_eq, Option.bind_some, Bool.not_false]
    exact graphOf_no
  · simp only [g, decide_false, Bool.false_eq_true, if_false]
    exact graphOf_no
end Go.Proofs.Ytfjomkjngolboaa.H

namespace Go.Proofs.Ytfjomkjngolboaa.H
open Go.RowKit Go.IntWalk Go.Proofs.Ytfjomkjngolboaa.Q Go.Proofs.YtfjomkjngolboaaW.PrintWords Go.Proofs.YtfjomkjngolboaaW.PrintMore
set_option linter.unusedVariables false
set_option linter.unusedSimpArgs false
theorem near_at {W H : Int} {L : List Int} {A B c : Int} (h : hasB W H L c = true) : rd_L1 (nearM W H L A B) c = leapsM W H L A B c := by
  rw [nearM_get W H L A B c (has_range h), if_pos h]
theorem near_in {W H : Int} {L : List Int} {A B c : Int} (g : BoardM W H L) (h : hasB W H L c = true) : 0 ≤ c ∧ c < ((nearM W H L A B).length : Int) := by
  have := has_range h
  have := g.area
  rw [nearM_length]; omega
end Go.Proofs.Ytfjomkjngolboaa.H

namespace Go.Proofs.Ytfjomkjngolboaa.H
open Go.RowKit Go.IntWalk Go.Proofs.Ytfjomkjngolboaa.Q Go.Proofs.YtfjomkjngolboaaW.PrintWords Go.Proofs.YtfjomkjngolboaaW.PrintMore
set_option linter.unusedVariables false
set_option linter.unusedSimpArgs false
theorem leapsM_has {W H : Int} {L : List Int} {A B c d : Int} (h : d ∈ leapsM W H L A B c) : hasB W H L d = true := by
  unfold leapsM at h
  exact mem_cellsM.1 (List.mem_filter.1 h).1
end Go.Proofs.Ytfjomkjngolboaa.H

namespace Go.Proofs.Ytfjomkjngolboaa.H
open Go.RowKit Go.IntWalk Go.Proofs.YtfjomkjngolboaaW.PrintWords
set_option linter.unusedVariables false
set_option linter.unusedSimpArgs false
def negs (o : List Int) : Nat := o.countP fun x => decide (x < 0)
def bIn (h : Int) : List Int → List Int → List Int → List Int × List Int
  | [], o, q => (o, q)
  | d :: r, o, q => if rd o d < 0 then bIn h r (o.set d.toNat (wrap64 (rd o h + 1))) (q ++ [d]) else bIn h r o q
def bfs (nb : Int → List Int) : Nat → List Int → List Int → List Int
  | 0, o, _ => o
  | _ + 1, o, [] => o
  | f + 1, o, h :: q => bfs nb f (bIn h (nb h) o q).1 (bIn h (nb h) o q).2
structure BI (n : Nat) (o q : List Int) : Prop where
  len : o.length = n
  val : ∀ i : Nat, i < n → -1 ≤ rd o (i : Int) ∧ rd o (i : Int) + negs o ≤ n
  que : ∀ h ∈ q, (0 ≤ h ∧ h < n) ∧ 0 ≤ rd o h
  siz : q.length + negs o ≤ n
theorem rd_cell {o : List Int} {d : Int} (hd : 0 ≤ d ∧ d < (o.length : Int)) : ∃ h : d.toNat < o.length, rd o d = o[d.toNat] := by
  have h : d.toNat < o.length := by omega
  refine ⟨h, ?_⟩
  unfold rd
  rw [List.getD_eq_getElem?_getD, List.getElem?_eq_getElem h]
  rfl
theorem rd_put (o : List Int) (d v e : Int) (hd : 0 ≤ d ∧ d < (o.length : Int)) (he : 0 ≤ e) : rd (o.set d.toNat v) e = if e = d then v else rd o e := by
  unfold rd
  rw [List.getD_eq_getElem?_getD, List.getElem?_set]
  by_cases h : e = d
  · subst h
    rw [if_pos rfl, if_pos rfl, if_pos (by omega)]
    rfl
  · have h1 : ¬ d.toNat = e.toNat := by omega
    rw [if_neg h, if_neg h1, ← List.getD_eq_getElem?_getD]
theorem negs_put {o : List Int} {d v : Int} (hd : 0 ≤ d ∧ d < (o.length : Int)) (h : rd o d < 0) (hv : 0 ≤ v) : negs (o.set d.toNat v) + 1 = negs o := by
  obtain ⟨hl, e⟩ := rd_cell hd
  rw [e] at h
  have hpos : 1 ≤ negs o := by
    unfold negs
    exact List.countP_pos_iff.2 ⟨o[d.toNat], List.getElem_mem hl, by simpa using h⟩
  unfold negs at hpos ⊢
  rw [List.countP_set hl]
  have h1 : decide (o[d.toNat] < 0) = true := by simpa using h
  have h2 : decide (v < 0) = false := by simpa using hv
  simp only [h1, h2, if_true, Bool.false_eq_true, if_false]
  omega
theorem BI.put {n : Nat} {o q : List Int} {h d : Int} (b : BI n o (h :: q)) (hn : n ≤ 1000) (hd : 0 ≤ d ∧ d < (n : Int)) (hneg : rd o d < 0) :
    BI n (o.set d.toNat (wrap64 (rd o h + 1))) (h :: (q ++ [d])) ∧ (q ++ [d]).length + negs (o.set d.toNat (wrap64 (rd o h + 1))) = q.length + negs o ∧ wrap64 (rd o h + 1) = rd o h + 1 := by
  obtain ⟨hh, hh0⟩ := b.que h (by simp)
  have hv := b.val h.toNat (by omega)
  rw [show ((h.toNat : Nat) : Int) = h by omega] at hv
  have e : wrap64 (rd o h + 1) = rd o h + 1 := wrap64_in _ (by omega)
  have hd' : 0 ≤ d ∧ d < (o.length : Int) := by rw [b.len]; exact hd
  have hc := negs_put hd' hneg (show 0 ≤ rd o h + 1 by omega)
  rw [e]
  refine ⟨⟨by simpa using b.len, fun i hi => ?_, fun x hx => ?_, ?_⟩, by simp; omega, rfl⟩
  · rw [rd_put o d _ _ hd' (by omega)]
    have := b.val i hi
    split <;> omega
  · have hx' : x = d ∨ x ∈ h :: q := by
      simp only [List.mem_cons, List.mem_append, List.mem_singleton] at hx ⊢
      rcases hx with hx | hx | hx | hx
      · exact .inr (.inl hx)
      · exact .inr (.inr hx)
      · exact .inl hx
      · cases hx
    rcases hx' with rfl | hx'
    · refine ⟨hd, ?_⟩
      rw [rd_put o x _ _ hd' hd.1, if_pos rfl]; omega
    · obtain ⟨a, c⟩ := b.que x hx'
      refine ⟨a, ?_⟩
      rw [rd_put o d _ _ hd' a.1]
      split <;> omega
  · have := b.siz
    simp at this ⊢
    omega
theorem bIn_keep {n : Nat} {h : Int} (hn : n ≤ 1000) (ds : List Int) (hd : ∀ d ∈ ds, 0 ≤ d ∧ d < (n : Int)) : ∀ o q, BI n o (h :: q) → BI n (bIn h ds o q).1 (h :: (bIn h ds o q).2) ∧ (bIn h ds o q).2.length + negs (bIn h ds o q).1 = q.length + negs o := by
  induction ds with
  | nil => intro o q b; exact ⟨b, rfl⟩
  | cons d r ih =>
    intro o q b
    rw [bIn]
    split
    · rename_i c
      obtain ⟨b1, b2, _⟩ := b.put hn (hd d (by simp)) c
      obtain ⟨c1, c2⟩ := ih (fun x hx => hd x (by simp [hx])) _ _ b1
      exact ⟨c1, by omega⟩
    · exact ih (fun x hx => hd x (by simp [hx])) o q b
theorem BI.pop {n : Nat} {o q : List Int} {h : Int} (b : BI n o (h :: q)) : BI n o q :=
  ⟨b.len, b.val, fun x hx => b.que x (by simp [hx]), by have := b.siz; simp at this; omega⟩
theorem bfs_keep {nb : Int → List Int} {n : Nat} (hn : n ≤ 1000) (hnb : ∀ c, 0 ≤ c ∧ c < (n : Int) → ∀ d ∈ nb c, 0 ≤ d ∧ d < (n : Int)) : ∀ f o q, BI n o q → BI n (bfs nb f o q) [] := by
  have none_ : ∀ o q, BI n o q → BI n o [] := fun o q b => ⟨b.len, b.val, fun x hx => (by cases hx), (by have := b.siz; simp; omega)⟩
  intro f
  induction f with
  | zero => intro o q b; exact none_ o q b
  | succ f ih =>
    intro o q b
    cases q with
    | nil => exact none_ o _ b
    | cons h q => exact ih _ _ (bIn_keep hn (nb h) (hnb h (b.que h (by simp)).1) o q b).1.pop
/-- Where the queue starts. -/
def start (n : Nat) (c : Int) : List Int := (List.replicate n (-1)).set c.toNat 0
theorem start_rd {n : Nat} {c e : Int} (hc : 0 ≤ c ∧ c < (n : Int)) (he : 0 ≤ e ∧ e < (n : Int)) : rd (start n c) e = if e = c then 0 else -1 := by
  unfold start
  rw [rd_put _ c 0 e (by simpa using hc) he.1]
  split
  · rfl
  · unfold rd
    rw [List.getD_eq_getElem?_getD, List.getElem?_replicate, if_pos (by omega)]
    rfl
theorem start_ok {n : Nat} {c : Int} (hc : 0 ≤ c ∧ c < (n : Int)) : BI n (start n c) [c] := by
  have hrep : rd (List.replicate n (-1)) c < 0 := by
    unfold rd
    rw [List.getD_eq_getElem?_getD, List.getElem?_replicate, if_pos (by omega)]
    decide
  have hneg : negs (List.replicate n (-1 : Int)) = n := by
    unfold negs
    rw [List.countP_replicate]
    simp
  have hc2 := negs_put (o := List.replicate n (-1)) (d := c) (v := 0) (by simpa using hc) hrep (by omega)
  have hns : negs (start n c) + 1 = n := by unfold start; omega
  refine ⟨by simp [start], fun i hi => ?_, fun h hh => ?_, by simp; omega⟩
  · rw [start_rd hc (by omega)]
    split <;> omega
  · obtain rfl : h = c := by simpa using hh
    refine ⟨hc, ?_⟩
    rw [start_rd hc hc, if_pos rfl]
    omega
theorem bIn_grow {n : Nat} {h : Int} (hn : n ≤ 1000) (e : Int) (he : 0 ≤ e ∧ e < (n : Int)) (ds : List Int) (hd : ∀ d ∈ ds, 0 ≤ d ∧ d < (n : Int)) : ∀ o q, BI n o (h :: q) → 0 ≤ rd o e → rd (bIn h ds o q).1 e = rd o e := by
  induction ds with
  | nil => intro o q b h0; rfl
  | cons d r ih =>
    intro o q b h0
    rw [bIn]
    split
    · rename_i c
      obtain ⟨b1, _, _⟩ := b.put hn (hd d (by simp)) c
      have hne : ¬ e = d := fun e' => by subst e'; omega
      have hk : rd (o.set d.toNat (wrap64 (rd o h + 1))) e = rd o e := by
        rw [rd_put o d _ e (by rw [b.len]; exact hd d (by simp)) he.1, if_neg hne]
      rw [ih (fun x hx => hd x (by simp [hx])) _ _ b1 (by rw [hk]; exact h0), hk]
    · exact ih (fun x hx => hd x (by simp [hx])) o q b h0
theorem bfs_grow {nb : Int → List Int} {n : Nat} (hn : n ≤ 1000) (hnb : ∀ c, 0 ≤ c ∧ c < (n : Int) → ∀ d ∈ nb c, 0 ≤ d ∧ d < (n : Int)) (e : Int) (he : 0 ≤ e ∧ e < (n : Int)) : ∀ f o q, BI n o q → 0 ≤ rd o e → rd (bfs nb f o q) e = rd o e := by
  intro f
  induction f with
  | zero => intro o q b h0; rfl
  | succ f ih =>
    intro o q b h0
    cases q with
    | nil => rfl
    | cons h q =>
      have hr := hnb h (b.que h (by simp)).1
      have h1 := bIn_grow hn e he (nb h) hr o q b h0
      rw [bfs, ih _ _ (bIn_keep hn (nb h) hr o q b).1.pop (by rw [h1]; exact h0), h1]
def farG (nb : Int → List Int) (n : Nat) (c : Int) : List Int := bfs nb (n + 1) (start n c) [c]
theorem farG_keep {nb : Int → List Int} {n : Nat} (hn : n ≤ 1000) (hnb : ∀ c, 0 ≤ c ∧ c < (n : Int) → ∀ d ∈ nb c, 0 ≤ d ∧ d < (n : Int)) {c : Int} (hc : 0 ≤ c ∧ c < (n : Int)) : (farG nb n c).length = n ∧ ∀ i : Nat, i < n → -1 ≤ rd (farG nb n c) (i : Int) ∧ rd (farG nb n c) (i : Int) ≤ n := by
  have b := bfs_keep hn hnb (n + 1) _ _ (start_ok hc)
  refine ⟨b.len, fun i hi => ?_⟩
  have := b.val i hi
  exact ⟨this.1, by unfold farG; omega⟩
theorem farG_self {nb : Int → List Int} {n : Nat} (hn : n ≤ 1000) (hnb : ∀ c, 0 ≤ c ∧ c < (n : Int) → ∀ d ∈ nb c, 0 ≤ d ∧ d < (n : Int)) {c : Int} (hc : 0 ≤ c ∧ c < (n : Int)) : rd (farG nb n c) c = 0 := by
  have h0 : rd (start n c) c = 0 := by rw [start_rd hc hc, if_pos rfl]
  unfold farG
  rw [bfs_grow hn hnb c hc _ _ _ (start_ok hc) (by omega), h0]
end Go.Proofs.Ytfjomkjngolboaa.H

namespace Go.Proofs.Ytfjomkjngolboaa.H
open Go.RowKit Go.IntWalk Go.Proofs.Ytfjomkjngolboaa.Q Go.Proofs.YtfjomkjngolboaaW.PrintWords Go.Proofs.YtfjomkjngolboaaW.PrintMore
set_option linter.unusedVariables false
set_option linter.unusedSimpArgs false
def farM (W H : Int) (L : List Int) (A B c : Int) : List Int := farG (leapsM W H L A B) (W * H).toNat c
section
variable {W H : Int} {L : List Int} {A B : Int}
theorem leapsM_in (g : BoardM W H L) (c : Int) : ∀ d ∈ leapsM W H L A B c, 0 ≤ d ∧ d < ((W * H).toNat : Int) := fun d hd => by
  have := has_range (leapsM_has hd); omega
theorem set_fill (pre rest : Nat) : (List.replicate pre (-1 : Int) ++ List.replicate (rest + 1) (0 : Int)).set ((pre : Int)).toNat (-1) = List.replicate (pre + 1) (-1 : Int) ++ List.replicate rest (0 : Int) := by
  have e : ((pre : Int)).toNat = pre := by omega
  rw [e, List.set_append_right _ _ (by simp)]
  simp only [List.length_replicate, Nat.sub_self, List.replicate_succ, List.set_cons_zero]
  rw [← List.replicate_succ, List.replicate_succ', List.append_assoc]
  rfl
theorem far_l2 (g : BoardM W H L) (h : Int) (R : List Int) (rest pre : List Int) (hr : ∀ d ∈ rest, 0 ≤ d ∧ d < ((W * H).toNat : Int)) (hp : (pre ++ rest).length ≤ 64) : ∀ (o q : List Int), BI (W * H).toNat o (h :: q) →
    Ev (fun k => impl_graph_far.l1 k (bIn h rest o q).1 (bIn h rest o q).2 W H L A B (cellsM W H L) (nearM W H L A B)) R →
    Ev (fun k => impl_graph_far.l2 k o (h :: q) (pre ++ rest) ((pre ++ rest).length : Int) (pre.length : Int) W H L A B (cellsM W H L) (nearM W H L A B)) R := by
  have ha := g.area
  induction rest generalizing pre with
  | nil =>
    intro o q b hR
    refine Ev.step (fun k => by rw [impl_graph_far.l2]) ?_
    have h1 : (1 : Int) ≤ ((h :: q).length : Int) := by simp; omega
    have e : (h :: q).drop ((1 : Int)).toNat = q := rfl
    simp only [List.append_nil, nlt_end, if_false, h1, if_true, e]
    exact hR
  | cons d r ih =>
    intro o q b hR
    refine Ev.step (fun k => by rw [impl_graph_far.l2]) ?_
    have h0 : (0 : Int) ≤ (pre.length : Int) := by omega
    have h5 : pre.length ≤ 64 := by simp at hp; omega
    have hd := hr d (by simp)
    have hd2 : d < (o.length : Int) := by rw [b.len]; exact hd.2
    have hh := (b.que h (by simp)).1
    have hh2 : h < (o.length : Int) := by rw [b.len]; exact hh.2
    have hq : (0 : Int) < ((h :: q).length : Int) := by simp only [List.length_cons]; omega
    have hlen : (h :: q).length < 17592186044416 := by have := b.siz; simp at this ⊢; omega
    have e0 : rd (h :: q) 0 = h := rfl
    simp only [lt_mid pre d r, h0, if_true, rd_mid, hd.1, hd2, w_succ (show pre.length ≤ 4611686018427387904 by omega)]
    by_cases c : rd o d < 0
    · obtain ⟨b1, b2, b3⟩ := b.put (by omega) hd c
      rw [bIn, if_pos c] at hR
      simp only [c, if_true, hq, e0, hh.1, hh2, hlen]
      have := ih (pre ++ [d]) (fun x hx => hr x (by simp [hx])) (by simpa using hp) _ _ b1 hR
      simpa using this
    · rw [bIn, if_neg c] at hR
      simp only [c, if_false]
      have := ih (pre ++ [d]) (fun x hx => hr x (by simp [hx])) (by simpa using hp) o q b hR
      simpa using this
theorem bIn_has (h : Int) (ds : List Int) : ∀ o q, (∀ x ∈ q, hasB W H L x = true) → (∀ d ∈ ds, hasB W H L d = true) → ∀ x ∈ (bIn h ds o q).2, hasB W H L x = true := by
  induction ds with
  | nil => intro o q hq _; exact hq
  | cons d r ih =>
    intro o q hq hd
    rw [bIn]
    split
    · refine ih _ _ (fun x hx => ?_) (fun x hx => hd x (by simp [hx]))
      rcases List.mem_append.1 hx with hx | hx
      · exact hq x hx
      · obtain rfl : x = d := by simpa using hx
        exact hd x (by simp)
    · exact ih _ _ hq (fun x hx => hd x (by simp [hx]))
theorem far_l1 (g : BoardM W H L) : ∀ (f : Nat) (o q : List Int), BI (W * H).toNat o q → (∀ x ∈ q, hasB W H L x = true) → q.length + negs o ≤ f →
    Ev (fun k => impl_graph_far.l1 k o q W H L A B (cellsM W H L) (nearM W H L A B)) (bfs (leapsM W H L A B) (f + 1) o q) := by
  have ha := g.area
  have emp : ∀ f o, Ev (fun k => impl_graph_far.l1 k o [] W H L A B (cellsM W H L) (nearM W H L A B)) (bfs (leapsM W H L A B) (f + 1) o []) := by
    intro f o
    refine Ev.step (fun k => by rw [impl_graph_far.l1]) ?_
    have h1 : ¬ ((([] : List Int).length : Int) > 0) := by simp
    simp only [h1, if_false, bfs]
    exact Ev.now _
  intro f
  induction f with
  | zero =>
    intro o q b hq hm
    obtain rfl : q = [] := List.eq_nil_of_length_eq_zero (by omega)
    exact emp _ _
  | succ f ih =>
    intro o q b hq hm
    cases q with
    | nil => exact emp _ _
    | cons h q =>
      refine Ev.step (fun k => by rw [impl_graph_far.l1]) ?_
      have h1 : (((h :: q).length : Int) > 0) := by simp only [List.length_cons]; omega
      have h2 : (0 : Int) < ((h :: q).length : Int) := h1
      have e0 : rd (h :: q) 0 = h := rfl
      have hh := hq h (by simp)
      have hn := near_in (A := A) (B := B) g hh
      simp only [h1, h2, if_true, e0, hn.1, hn.2, near_at hh]
      obtain ⟨b1, b2⟩ := bIn_keep (by omega) (leapsM W H L A B h) (leapsM_in g h) o q b
      have := far_l2 (A := A) (B := B) g h (bfs (leapsM W H L A B) (f + 1) (bIn h (leapsM W H L A B h) o q).1 (bIn h (leapsM W H L A B h) o q).2) (leapsM W H L A B h) [] (leapsM_in g h) (by simpa using leapsM_length g A B h) o q b ?_
      · have e : bfs (leapsM W H L A B) (f + 1 + 1) o (h :: q) = bfs (leapsM W H L A B) (f + 1) (bIn h (leapsM W H L A B h) o q).1 (bIn h (leapsM W H L A B h) o q).2 := rfl
        rw [e]
        simpa using this
      · exact ih _ _ b1.pop (bIn_has h _ o q (fun x hx => hq x (by simp [hx])) (fun d hd => leapsM_has hd)) (by simp at hm; omega)
theorem far_l0 (g : BoardM W H L) (c : Int) (hc : 0 ≤ c ∧ c < W * H) (R : List Int) : ∀ (rest pre : Nat), pre + rest = (W * H).toNat →
    Ev (fun k => impl_graph_far.l1 k (start (W * H).toNat c) [c] W H L A B (cellsM W H L) (nearM W H L A B)) R →
    Ev (fun k => impl_graph_far.l0 k c (List.replicate pre (-1) ++ List.replicate rest 0) ((W * H).toNat : Int) (pre : Int) W H L A B (cellsM W H L) (nearM W H L A B)) R := by
  have ha := g.area
  intro rest
  induction rest with
  | zero =>
    intro pre h1 hR
    refine Ev.step (fun k => by rw [impl_graph_far.l0]) ?_
    have h3 : ¬ ((pre : Int) < ((W * H).toNat : Int)) := by omega
    have h4 : c < ((List.replicate pre (-1 : Int)).length : Int) := by simp; omega
    have h5 : pre = (W * H).toNat := by omega
    simp only [h3, if_false, List.replicate_zero, List.append_nil, hc.1, h4, if_true]
    rw [h5]
    exact hR
  | succ rest ih =>
    intro pre h1 hR
    refine Ev.step (fun k => by rw [impl_graph_far.l0]) ?_
    have h3 : (pre : Int) < ((W * H).toNat : Int) := by omega
    have h4 : (0 : Int) ≤ (pre : Int) := by omega
    have h5 : (pre : Int) < ((List.replicate pre (-1 : Int) ++ List.replicate (rest + 1) (0 : Int)).length : Int) := by simp; omega
    simp only [h3, h4, h5, if_true, set_fill, w_succ (show pre ≤ 4611686018427387904 by omega)]
    exact ih (pre + 1) (by omega) hR
theorem far_ev (g : BoardM W H L) (c : Int) (hc : hasB W H L c = true) : Ev (fun k => impl_graph_far.f k W H L A B (cellsM W H L) (nearM W H L A B) c) (farM W H L A B c) := by
  have ha := g.area
  have hr := has_range hc
  unfold impl_graph_far.f
  have h1 : 0 ≤ W * H := by omega
  have h2 : (W * H).toNat ≤ 35184372088832 := by omega
  simp only [g.wrapArea, h1, h2, if_true, Option.bind_some, List.length_replicate]
  have hc' : 0 ≤ c ∧ c < ((W * H).toNat : Int) := by omega
  have b := start_ok hc'
  have := far_l0 (A := A) (B := B) g c hr (farM W H L A B c) (W * H).toNat 0 (by omega) ?_
  · simpa using this
  · exact far_l1 (A := A) (B := B) g (W * H).toNat _ _ b (fun x hx => (List.mem_singleton.1 hx) ▸ hc) b.siz
theorem farM_keep (g : BoardM W H L) {c : Int} (hc : 0 ≤ c ∧ c < W * H) : (farM W H L A B c).length = (W * H).toNat ∧ ∀ e : Int, 0 ≤ e ∧ e < W * H → -1 ≤ rd (farM W H L A B c) e ∧ rd (farM W H L A B c) e ≤ 64 := by
  have ha := g.area
  obtain ⟨h1, h2⟩ := farG_keep (nb := leapsM W H L A B) (n := (W * H).toNat) (c := c) (by omega) (fun c _ d hd => leapsM_in g c d hd) ⟨hc.1, by omega⟩
  refine ⟨h1, fun e he => ?_⟩
  have := h2 e.toNat (by omega)
  rw [show ((e.toNat : Nat) : Int) = e by omega] at this
  exact ⟨this.1, by unfold farM; omega⟩
end
end Go.Proofs.Ytfjomkjngolboaa.H

namespace Go.Proofs.Ytfjomkjngolboaa.H
open Go.RowKit Go.IntWalk Go.Proofs.Ytfjomkjngolboaa.Q Go.Proofs.YtfjomkjngolboaaW.PrintWords Go.Proofs.YtfjomkjngolboaaW.PrintMore
set_option linter.unusedVariables false
set_option linter.unusedSimpArgs false
def pRow : Int → List Int → List Bool → List Int → List Bool × List Int
  | _, [], s, p => (s, p)
  | i, x :: r, s, p => if x ≥ 0 then pRow (i + 1) r (s.set i.toNat true) (p ++ [i]) else pRow (i + 1) r s p
def partsR (far : Int → List Int) : List Int → List Bool → List (List Int) → List (List Int)
  | [], _, out => out
  | c :: r, s, out => if rdOf false s c = true then partsR far r s out else partsR far r (pRow 0 (far c) s []).1 (out ++ [(pRow 0 (far c) s []).2])
theorem pRow_length (l : List Int) : ∀ i s p, (pRow i l s p).1.length = s.length := by
  induction l with
  | nil => intro i s p; rfl
  | cons x r ih => intro i s p; rw [pRow]; split <;> rw [ih] <;> simp
theorem partsR_length (far : Int → List Int) (cs : List Int) : ∀ s out, (partsR far cs s out).length ≤ out.length + cs.length := by
  induction cs with
  | nil => intro s out; simp [partsR]
  | cons c r ih =>
    intro s out
    rw [partsR]
    split
    · have := ih s out; simp; omega
    · have := ih (pRow 0 (far c) s []).1 (out ++ [(pRow 0 (far c) s []).2]); simp at this ⊢; omega
section
variable {W H : Int} {L : List Int} {A B : Int}
theorem parts_l1 (cs : List Int) (i : Nat) (hi : i ≤ 64) (out : List (List Int)) (ho : out.length ≤ 64) (R : List (List Int)) (rest pre : List Int) (hp : (pre ++ rest).length ≤ 64) : ∀ (s : List Bool) (p : List Int), s.length = (pre ++ rest).length → p.length ≤ pre.length →
    Ev (fun k => impl_graph_parts.l0 k (out ++ [(pRow (pre.length : Int) rest s p).2]) (pRow (pre.length : Int) rest s p).1 cs (cs.length : Int) ((i + 1 : Nat) : Int) W H L A B (cellsM W H L) (nearM W H L A B)) R →
    Ev (fun k => impl_graph_parts.l1 k out s p cs (cs.length : Int) (i : Int) (pre ++ rest) ((pre ++ rest).length : Int) (pre.length : Int) W H L A B (cellsM W H L) (nearM W H L A B)) R := by
  induction rest generalizing pre with
  | nil =>
    intro s p hs hpl hR
    refine Ev.step (fun k => by rw [impl_graph_parts.l1]) ?_
    have h1 : out.length < 5864062014805 := by omega
    simp only [List.append_nil, nlt_end, if_false, h1, if_true, w_succ (show i ≤ 4611686018427387904 by omega)]
    simpa [pRow] using hR
  | cons x r ih =>
    intro s p hs hpl hR
    refine Ev.step (fun k => by rw [impl_graph_parts.l1]) ?_
    have h0 : (0 : Int) ≤ (pre.length : Int) := by omega
    have h5 : pre.length ≤ 64 := by simp at hp; omega
    have h6 : p.length < 17592186044416 := by omega
    have h7 : (pre.length : Int) < (s.length : Int) := by simp at hs; omega
    simp only [lt_mid pre x r, h0, if_true, rd_mid, w_succ (show pre.length ≤ 4611686018427387904 by omega)]
    rw [pRow] at hR
    by_cases c : x ≥ 0
    · simp only [c, if_true, h6, h7] at hR ⊢
      have := ih (pre ++ [x]) (by simpa using hp) (s.set ((pre.length : Int)).toNat true) (p ++ [(pre.length : Int)]) (by simpa using hs) (by simp; omega) (by simpa using hR)
      simpa using this
    · simp only [c, if_false] at hR ⊢
      have := ih (pre ++ [x]) (by simpa using hp) s p (by simpa using hs) (by simp; omega) (by simpa using hR)
      simpa using this
theorem parts_l0 (g : BoardM W H L) (rest pre : List Int) (hr : ∀ c ∈ rest, hasB W H L c = true) (hp : (pre ++ rest).length ≤ 64) : ∀ (s : List Bool) (out : List (List Int)), (s.length : Int) = W * H → out.length ≤ pre.length →
    Ev (fun k => impl_graph_parts.l0 k out s (pre ++ rest) ((pre ++ rest).length : Int) (pre.length : Int) W H L A B (cellsM W H L) (nearM W H L A B)) (partsR (farM W H L A B) rest s out) := by
  have ha := g.area
  induction rest generalizing pre with
  | nil =>
    intro s out hs ho
    refine Ev.step (fun k => by rw [impl_graph_parts.l0]) ?_
    simp only [List.append_nil, nlt_end, if_false, partsR]
    exact Ev.now _
  | cons c r ih =>
    intro s out hs ho
    refine Ev.step (fun k => by rw [impl_graph_parts.l0]) ?_
    have h0 : (0 : Int) ≤ (pre.length : Int) := by omega
    have h5 : pre.length ≤ 64 := by simp at hp; omega
    have hh := hr c (by simp)
    have hc := has_range hh
    have h7 : c < (s.length : Int) := by omega
    have hf := farM_keep (A := A) (B := B) g hc
    simp only [lt_mid pre c r, h0, if_true, rd_mid, hc.1, h7, w_succ (show pre.length ≤ 4611686018427387904 by omega), partsR]
    by_cases d : rdOf false s c = true
    · simp only [d, if_true]
      have := ih (pre ++ [c]) (fun x hx => hr x (by simp [hx])) (by simpa using hp) s out hs (by simp; omega)
      simpa using this
    · simp only [d, if_false]
      refine Ev.bind (far_ev g c hh) ?_
      have := ih (pre ++ [c]) (fun x hx => hr x (by simp [hx])) (by simpa using hp) (pRow 0 (farM W H L A B c) s []).1 (out ++ [(pRow 0 (farM W H L A B c) s []).2]) (by rw [pRow_length]; exact hs) (by simp; omega)
      have := parts_l1 (W := W) (H := H) (L := L) (A := A) (B := B) (pre ++ c :: r) pre.length h5 out (by omega) _ (farM W H L A B c) [] (by simp; omega) s [] (by simp; omega) (by simp) (by simpa using this)
      simpa using this
theorem parts_ev (g : BoardM W H L) : Ev (fun k => impl_graph_parts.f k W H L A B (cellsM W H L) (nearM W H L A B)) (partsR (farM W H L A B) (cellsM W H L) (List.replicate (W * H).toNat false) []) := by
  have ha := g.area
  have h1 : (0 : Int) ≤ ((nearM W H L A B).length : Int) := by omega
  have h3 : (((nearM W H L A B).length : Int)).toNat = (W * H).toNat := by rw [nearM_length]; omega
  have h2 : (W * H).toNat ≤ 281474976710656 := by omega
  unfold impl_graph_parts.f
  simp only [h1, h3, h2, if_true]
  have := parts_l0 (A := A) (B := B) g (cellsM W H L) [] (fun c hc => mem_cellsM.1 hc) (by simpa using cellsM_length g) (List.replicate (W * H).toNat false) [] (by simp; omega) (by simp)
  simpa using this
end
end Go.Proofs.Ytfjomkjngolboaa.H

namespace Go.Proofs.Ytfjomkjngolboaa.H
open Go.RowKit Go.IntWalk Go.Proofs.YtfjomkjngolboaaW.PrintWords
set_option linter.unusedVariables false
set_option linter.unusedSimpArgs false
structure DI (nb : Int → List Int) (n : Nat) (c : Int) (o q : List Int) : Prop where
  pre : ∀ e : Int, 0 ≤ e → e < n → 0 ≤ rd o e → (e = c ∧ rd o e = 0) ∨ ∃ p : Int, (0 ≤ p ∧ p < n) ∧ 0 ≤ rd o p ∧ e ∈ nb p ∧ rd o e = rd o p + 1
  done : ∀ p : Int, 0 ≤ p → p < n → 0 ≤ rd o p → p ∈ q ∨ ∀ e ∈ nb p, 0 ≤ rd o e ∧ rd o e ≤ rd o p + 1
  ord : q.Pairwise (fun x y => rd o x ≤ rd o y)
  top : ∀ h r, q = h :: r → ∀ e : Int, 0 ≤ e → e < n → rd o e ≤ rd o h + 1
theorem DI.put {nb : Int → List Int} {n : Nat} {c h d : Int} {o q : List Int} (hnb : ∀ c, 0 ≤ c ∧ c < (n : Int) → ∀ d ∈ nb c, 0 ≤ d ∧ d < (n : Int)) (b : BI n o (h :: q)) (i : DI nb n c o (h :: q)) (hd : d ∈ nb h) (hneg : rd o d < 0) :
    DI nb n c (o.set d.toNat (rd o h + 1)) (h :: (q ++ [d])) := by
  obtain ⟨hh, hh0⟩ := b.que h (by simp)
  have hdr := hnb h hh d hd
  have hdo : 0 ≤ d ∧ d < (o.length : Int) := by rw [b.len]; exact hdr
  have key : ∀ e : Int, 0 ≤ e → rd (o.set d.toNat (rd o h + 1)) e = if e = d then rd o h + 1 else rd o e := fun e he => rd_put o d _ e hdo he
  have same : ∀ e : Int, 0 ≤ e → 0 ≤ rd o e → rd (o.set d.toNat (rd o h + 1)) e = rd o e := fun e he h0 => by
    rw [key e he, if_neg (fun h => by subst h; omega)]
  refine ⟨fun e he0 hen h0 => ?_, fun p hp0 hpn h0 => ?_, ?_, fun h' r hr e he0 hen => ?_⟩
  · rw [key e he0] at h0 ⊢
    by_cases hed : e = d
    · rw [if_pos hed]
      refine .inr ⟨h, hh, ?_, by rw [hed]; exact hd, ?_⟩
      · rw [same h hh.1 hh0]; exact hh0
      · rw [same h hh.1 hh0]
    · rw [if_neg hed] at h0 ⊢
      rcases i.pre e he0 hen h0 with h1 | ⟨p, h1, h2, h3, h4⟩
      · exact .inl h1
      · exact .inr ⟨p, h1, by rw [same p h1.1 h2]; exact h2, h3, by rw [same p h1.1 h2]; exact h4⟩
  · by_cases hpd : p = d
    · exact .inl (by simp [hpd])
    · rw [key p hp0, if_neg hpd] at h0 ⊢
      rcases i.done p hp0 hpn h0 with h1 | h1
      · refine .inl ?_
        rcases List.mem_cons.1 h1 with h1 | h1
        · simp [h1]
        · simp [h1]
      · refine .inr fun e he => ?_
        have h2 := h1 e he
        rw [same e (hnb p ⟨hp0, hpn⟩ e he).1 h2.1]
        exact h2
  · have h1 : (h :: q).Pairwise (fun x y => rd (o.set d.toNat (rd o h + 1)) x ≤ rd (o.set d.toNat (rd o h + 1)) y) := by
      refine i.ord.imp_of_mem fun {x y} hx hy hxy => ?_
      obtain ⟨x1, x2⟩ := b.que x hx
      obtain ⟨y1, y2⟩ := b.que y hy
      rw [same x x1.1 x2, same y y1.1 y2]; exact hxy
    rw [← List.cons_append, List.pairwise_append]
    refine ⟨h1, by simp, fun x hx y hy => ?_⟩
    obtain rfl : y = d := by simpa using hy
    obtain ⟨x1, x2⟩ := b.que x hx
    rw [same x x1.1 x2, key y hdr.1, if_pos rfl]
    exact i.top h q rfl x x1.1 x1.2
  · obtain ⟨rfl, -⟩ := List.cons.inj hr
    rw [same h hh.1 hh0, key e he0]
    have := i.top h q rfl e he0 hen
    split <;> omega
theorem bIn_dist {nb : Int → List Int} {n : Nat} {c h : Int} (hn : n ≤ 1000) (hnb : ∀ c, 0 ≤ c ∧ c < (n : Int) → ∀ d ∈ nb c, 0 ≤ d ∧ d < (n : Int)) (ds : List Int) (hds : ∀ d ∈ ds, d ∈ nb h) : ∀ o q, BI n o (h :: q) → DI nb n c o (h :: q) →
    DI nb n c (bIn h ds o q).1 (h :: (bIn h ds o q).2) ∧ (∀ e ∈ ds, 0 ≤ rd (bIn h ds o q).1 e ∧ rd (bIn h ds o q).1 e ≤ rd (bIn h ds o q).1 h + 1) := by
  induction ds with
  | nil => intro o q b i; exact ⟨i, fun e he => by cases he⟩
  | cons d r ih =>
    intro o q b i
    obtain ⟨hh, hh0⟩ := b.que h (by simp)
    have hdn := hnb h hh d (hds d (by simp))
    have hrn : ∀ x ∈ r, 0 ≤ x ∧ x < (n : Int) := fun x hx => hnb h hh x (hds x (by simp [hx]))
    rw [bIn]
    split
    · rename_i neg
      obtain ⟨b1, _, e1⟩ := b.put hn hdn neg
      rw [e1] at b1 ⊢
      have i1 := i.put hnb b (hds d (by simp)) neg
      obtain ⟨j1, j2⟩ := ih (fun x hx => hds x (by simp [hx])) _ _ b1 i1
      refine ⟨j1, fun e he => ?_⟩
      rcases List.mem_cons.1 he with rfl | he
      · have hdo : 0 ≤ e ∧ e < (o.length : Int) := by rw [b.len]; exact hdn
        have k1 : rd (o.set e.toNat (rd o h + 1)) e = rd o h + 1 := by rw [rd_put o e _ e hdo hdn.1, if_pos rfl]
        have k2 : rd (o.set e.toNat (rd o h + 1)) h = rd o h := by rw [rd_put o e _ h hdo hh.1, if_neg (fun h' => by subst h'; omega)]
        rw [bIn_grow hn e hdn r hrn _ _ b1 (by omega), bIn_grow hn h hh r hrn _ _ b1 (by omega), k1, k2]
        omega
      · exact j2 e he
    · rename_i pos
      obtain ⟨j1, j2⟩ := ih (fun x hx => hds x (by simp [hx])) o q b i
      refine ⟨j1, fun e he => ?_⟩
      rcases List.mem_cons.1 he with rfl | he
      · rw [bIn_grow hn e hdn r hrn _ _ b (by omega), bIn_grow hn h hh r hrn _ _ b (by omega)]
        exact ⟨by omega, i.top h q rfl e hdn.1 hdn.2⟩
      · exact j2 e he
theorem DI.pop {nb : Int → List Int} {n : Nat} {c h : Int} {o q : List Int} (i : DI nb n c o (h :: q)) (hc : ∀ e ∈ nb h, 0 ≤ rd o e ∧ rd o e ≤ rd o h + 1) : DI nb n c o q := by
  refine ⟨i.pre, fun p hp0 hpn h0 => ?_, (List.pairwise_cons.1 i.ord).2, fun h' r hr e he0 hen => ?_⟩
  · rcases i.done p hp0 hpn h0 with h1 | h1
    · rcases List.mem_cons.1 h1 with rfl | h1
      · exact .inr hc
      · exact .inl h1
    · exact .inr h1
  · have h1 := i.top h q rfl e he0 hen
    have h2 := (List.pairwise_cons.1 i.ord).1 h' (by simp [hr])
    omega
theorem bfs_dist {nb : Int → List Int} {n : Nat} {c : Int} (hn : n ≤ 1000) (hnb : ∀ c, 0 ≤ c ∧ c < (n : Int) → ∀ d ∈ nb c, 0 ≤ d ∧ d < (n : Int)) : ∀ f o q, BI n o q → DI nb n c o q → q.length + negs o ≤ f → DI nb n c (bfs nb (f + 1) o q) [] := by
  intro f
  induction f with
  | zero =>
    intro o q b i hm
    obtain rfl : q = [] := List.eq_nil_of_length_eq_zero (by omega)
    exact i
  | succ f ih =>
    intro o q b i hm
    cases q with
    | nil => exact i
    | cons h q =>
      have hr := hnb h (b.que h (by simp)).1
      obtain ⟨b1, b2⟩ := bIn_keep hn (nb h) hr o q b
      obtain ⟨i1, i2⟩ := bIn_dist hn hnb (nb h) (fun d hd => hd) o q b i
      rw [bfs]
      exact ih _ _ b1.pop (i1.pop i2) (by simp at hm; omega)
theorem start_dist {nb : Int → List Int} {n : Nat} {c : Int} (hc : 0 ≤ c ∧ c < (n : Int)) : DI nb n c (start n c) [c] := by
  refine ⟨fun e he0 hen h0 => ?_, fun p hp0 hpn h0 => ?_, by simp, fun h r hr e he0 hen => ?_⟩
  · rw [start_rd hc ⟨he0, hen⟩] at h0 ⊢
    split at h0
    · rename_i h; exact .inl ⟨h, by rw [if_pos h]⟩
    · omega
  · rw [start_rd hc ⟨hp0, hpn⟩] at h0
    split at h0
    · rename_i h; exact .inl (by simp [h])
    · omega
  · obtain ⟨rfl, -⟩ := List.cons.inj hr
    rw [start_rd hc ⟨he0, hen⟩, start_rd hc hc, if_pos rfl]
    split <;> omega
section
variable {W H : Int} {L : List Int} {A B : Int}
theorem farM_di (g : BoardM W H L) {c : Int} (hc : 0 ≤ c ∧ c < W * H) : DI (leapsM W H L A B) (W * H).toNat c (farM W H L A B c) [] := by
  have ha := g.area
  have hc' : 0 ≤ c ∧ c < ((W * H).toNat : Int) := by omega
  exact bfs_dist (by omega) (fun c _ d hd => leapsM_in g c d hd) (W * H).toNat _ _ (start_ok hc') (start_dist hc') (start_ok hc').siz
/-- A reached cell is the first one, or has a neighbour one nearer. -/
theorem far_pre (g : BoardM W H L) {c : Int} (hc : 0 ≤ c ∧ c < W * H) (e : Int) (he : 0 ≤ e ∧ e < W * H) (h : 0 ≤ rd (farM W H L A B c) e) :
    (e = c ∧ rd (farM W H L A B c) e = 0) ∨ ∃ p : Int, (0 ≤ p ∧ p < W * H) ∧ 0 ≤ rd (farM W H L A B c) p ∧ e ∈ leapsM W H L A B p ∧ rd (farM W H L A B c) e = rd (farM W H L A B c) p + 1 := by
  have ha := g.area
  rcases (farM_di (A := A) (B := B) g hc).pre e he.1 (by omega) h with h1 | ⟨p, h1, h2⟩
  · exact .inl h1
  · exact .inr ⟨p, by omega, h2⟩
/-- No neighbour of a reached cell is more than one farther. -/
theorem far_step (g : BoardM W H L) {c : Int} (hc : 0 ≤ c ∧ c < W * H) (p : Int) (hp : 0 ≤ p ∧ p < W * H) (h : 0 ≤ rd (farM W H L A B c) p) (e : Int) (he : e ∈ leapsM W H L A B p) :
    0 ≤ rd (farM W H L A B c) e ∧ rd (farM W H L A B c) e ≤ rd (farM W H L A B c) p + 1 := by
  have ha := g.area
  rcases (farM_di (A := A) (B := B) g hc).done p hp.1 (by omega) h with h1 | h1
  · cases h1
  · exact h1 e he
theorem far_has (g : BoardM W H L) {c : Int} (hc : hasB W H L c = true) (e : Int) (he : 0 ≤ e ∧ e < W * H) (h : 0 ≤ rd (farM W H L A B c) e) : hasB W H L e = true := by
  rcases far_pre (A := A) (B := B) g (has_range hc) e he h with ⟨rfl, _⟩ | ⟨p, _, _, h3, _⟩
  · exact hc
  · exact leapsM_has h3
theorem isB_flip (W A B x y : Int) : isB W A B x y = isB W A B y x := by
  unfold isB
  rw [show (x % W - y % W).natAbs = (y % W - x % W).natAbs by omega, show (x / W - y / W).natAbs = (y / W - x / W).natAbs by omega]
theorem leapsM_flip {x y : Int} (hx : hasB W H L x = true) (h : y ∈ leapsM W H L A B x) : x ∈ leapsM W H L A B y := by
  simp only [leapsM, List.mem_filter, mem_cellsM] at h ⊢
  exact ⟨hx, by rw [isB_flip]; exact h.2⟩
theorem far_zero (g : BoardM W H L) {c : Int} (hc : 0 ≤ c ∧ c < W * H) (e : Int) (he : 0 ≤ e ∧ e < W * H) (h : rd (farM W H L A B c) e = 0) : e = c := by
  rcases far_pre (A := A) (B := B) g hc e he (by omega) with ⟨h1, _⟩ | ⟨p, h1, h2, h3, h4⟩
  · exact h1
  · omega
end
end Go.Proofs.Ytfjomkjngolboaa.H

namespace Go.Proofs.Ytfjomkjngolboaa.H
set_option linter.unusedVariables false
/-- A leap's way: both differences up to their signs, in one order or the other. -/
def Way (A B dx dy : Int) : Prop := ((dx = A ∨ dx = -A) ∧ (dy = B ∨ dy = -B)) ∨ ((dx = B ∨ dx = -B) ∧ (dy = A ∨ dy = -A))
theorem colour : ∀ n : Nat, ∀ A B : Int, 0 ≤ A → 0 ≤ B → 1 ≤ A + B → A + B ≤ n → ∃ f : Int → Int → Int, (∀ x y, f x y = 0 ∨ f x y = 1) ∧ ∀ x y dx dy, Way A B dx dy → f (x + dx) (y + dy) = 1 - f x y := by
  intro n
  induction n with
  | zero => intro A B h1 h2 h3 h4; omega
  | succ n ih =>
    intro A B h1 h2 h3 h4
    by_cases p : (A + B) % 2 = 1
    · refine ⟨fun x y => (x + y) % 2, fun x y => ?_, fun x y dx dy h => ?_⟩
      · show (x + y) % 2 = 0 ∨ (x + y) % 2 = 1
        omega
      · show (x + dx + (y + dy)) % 2 = 1 - (x + y) % 2
        rcases h with ⟨a, b⟩ | ⟨a, b⟩ <;> rcases a with a | a <;> rcases b with b | b <;> subst a <;> subst b <;> omega
    · by_cases q : A % 2 = 1
      · refine ⟨fun x y => x % 2, fun x y => ?_, fun x y dx dy h => ?_⟩
        · show x % 2 = 0 ∨ x % 2 = 1
          omega
        · show (x + dx) % 2 = 1 - x % 2
          rcases h with ⟨a, b⟩ | ⟨a, b⟩ <;> rcases a with a | a <;> subst a <;> omega
      · obtain ⟨f, hf, hs⟩ := ih (A / 2) (B / 2) (by omega) (by omega) (by omega) (by omega)
        refine ⟨fun x y => f (x / 2) (y / 2), fun x y => hf _ _, fun x y dx dy h => ?_⟩
        show f ((x + dx) / 2) ((y + dy) / 2) = 1 - f (x / 2) (y / 2)
        have e1 : (x + dx) / 2 = x / 2 + dx / 2 := by rcases h with ⟨a, b⟩ | ⟨a, b⟩ <;> rcases a with a | a <;> omega
        have e2 : (y + dy) / 2 = y / 2 + dy / 2 := by rcases h with ⟨a, b⟩ | ⟨a, b⟩ <;> rcases b with b | b <;> omega
        rw [e1, e2]
        refine hs _ _ _ _ ?_
        rcases h with ⟨a, b⟩ | ⟨a, b⟩
        · exact Or.inl ⟨by omega, by omega⟩
        · exact Or.inr ⟨by omega, by omega⟩
/-- Two pairs without a common end. -/
def Apt {α : Type} (p q : α × α) : Prop := p.1 ≠ q.1 ∧ p.1 ≠ q.2 ∧ p.2 ≠ q.1 ∧ p.2 ≠ q.2
theorem Apt.symm {α : Type} {p q : α × α} (h : Apt p q) : Apt q p := ⟨fun e => h.1 e.symm, fun e => h.2.2.1 e.symm, fun e => h.2.1 e.symm, fun e => h.2.2.2 e.symm⟩
/-- A list of pairs of a set, each of two that are near, no two with a common end. -/
def Match {α : Type} (adj : α → α → Prop) (S : α → Prop) (M : List (α × α)) : Prop :=
  (∀ p ∈ M, adj p.1 p.2 ∧ S p.1 ∧ S p.2 ∧ p.1 ≠ p.2) ∧ M.Pairwise Apt
def Most {α : Type} (adj : α → α → Prop) (S : α → Prop) (n : Nat) : Prop := (∃ M, Match adj S M ∧ M.length = n) ∧ ∀ M, Match adj S M → M.length ≤ n
theorem Most.eq {α : Type} [DecidableEq α] {adj : α → α → Prop} {S : α → Prop} {a b : Nat} (h : Most adj S a) (g : Most adj S b) : a = b := by
  obtain ⟨⟨M, hM, rfl⟩, hu⟩ := h
  obtain ⟨⟨N, hN, rfl⟩, gu⟩ := g
  have := hu N hN
  have := gu M hM
  omega
theorem Match.mono {α : Type} [DecidableEq α] {adj : α → α → Prop} {S T : α → Prop} {M : List (α × α)} (h : Match adj S M) (hs : ∀ x, S x → T x) : Match adj T M :=
  ⟨fun p hp => ⟨(h.1 p hp).1, hs _ (h.1 p hp).2.1, hs _ (h.1 p hp).2.2.1, (h.1 p hp).2.2.2⟩, h.2⟩
theorem most_none {α : Type} [DecidableEq α] {adj : α → α → Prop} {S : α → Prop} (h : ∀ x, ¬ S x) : Most adj S 0 := by
  refine ⟨⟨[], ⟨by simp, List.Pairwise.nil⟩, rfl⟩, fun M hM => ?_⟩
  cases M with
  | nil => exact Nat.le_refl _
  | cons p r => exact absurd (hM.1 p (List.mem_cons_self ..)).2.1 (h _)
/-- The matching without one of its pairs lies in the set without that pair's ends. -/
theorem Match.drop {α : Type} [DecidableEq α] {adj : α → α → Prop} {S : α → Prop} {M : List (α × α)} (h : Match adj S M) {p : α × α} (hp : p ∈ M) :
    Match adj (fun x => S x ∧ x ≠ p.1 ∧ x ≠ p.2) (M.erase p) ∧ M.length = 1 + (M.erase p).length := by
  have hper := List.perm_cons_erase hp
  have hpw : (p :: M.erase p).Pairwise Apt := (hper.pairwise_iff (fun {a b} h => Apt.symm h)).1 h.2
  have hlen := hper.length_eq
  rw [List.pairwise_cons] at hpw
  refine ⟨⟨fun q hq => ?_, hpw.2⟩, by rw [hlen, List.length_cons]; omega⟩
  have h1 := h.1 q (List.mem_of_mem_erase hq)
  have h2 := hpw.1 q hq
  exact ⟨h1.1, ⟨h1.2.1, fun e => h2.1 e.symm, fun e => h2.2.2.1 e.symm⟩, ⟨h1.2.2.1, fun e => h2.2.1 e.symm, fun e => h2.2.2.2 e.symm⟩, h1.2.2.2⟩
/-- A set's greatest number from those of the set without one cell, and without it and each that is near it. -/
theorem most_step {α : Type} [DecidableEq α] {adj : α → α → Prop} (sym : ∀ x y, adj x y → adj y x) {S : α → Prop} {i : α} (hi : S i) {n0 b : Nat} {f : α → Nat}
    (h0 : Most adj (fun x => S x ∧ x ≠ i) n0) (hj : ∀ j, S j → j ≠ i → adj i j → Most adj (fun x => S x ∧ x ≠ i ∧ x ≠ j) (f j))
    (hb0 : n0 ≤ b) (hbj : ∀ j, S j → j ≠ i → adj i j → 1 + f j ≤ b) (hb : b = n0 ∨ ∃ j, S j ∧ j ≠ i ∧ adj i j ∧ b = 1 + f j) : Most adj S b := by
  constructor
  · rcases hb with rfl | ⟨j, h1, h2, h3, rfl⟩
    · obtain ⟨⟨M, hM, hl⟩, _⟩ := h0
      exact ⟨M, hM.mono (fun x hx => hx.1), hl⟩
    · obtain ⟨⟨M, hM, hl⟩, _⟩ := hj j h1 h2 h3
      refine ⟨(i, j) :: M, ⟨fun p hp => ?_, ?_⟩, by rw [List.length_cons, hl]; omega⟩
      · rcases List.mem_cons.1 hp with rfl | hp
        · exact ⟨h3, hi, h1, fun e => h2 e.symm⟩
        · exact (hM.mono (fun x hx => hx.1)).1 p hp
      · rw [List.pairwise_cons]
        refine ⟨fun q hq => ?_, hM.2⟩
        have := hM.1 q hq
        exact ⟨fun e => this.2.1.2.1 e.symm, fun e => this.2.2.1.2.1 e.symm, fun e => this.2.1.2.2 e.symm, fun e => this.2.2.1.2.2 e.symm⟩
  · intro M hM
    by_cases hin : ∃ p ∈ M, p.1 = i ∨ p.2 = i
    · obtain ⟨p, hp, he⟩ := hin
      obtain ⟨hd, hl⟩ := hM.drop hp
      have h1 := hM.1 p hp
      rcases he with he | he
      · have h4 : p.2 ≠ i := fun e => h1.2.2.2 (by rw [he, e])
        have h5 : adj i p.2 := by rw [← he]; exact h1.1
        have h6 := (hj p.2 h1.2.2.1 h4 h5).2 _ (hd.mono (fun x hx => ⟨hx.1, by rw [← he]; exact hx.2.1, hx.2.2⟩))
        have h7 := hbj p.2 h1.2.2.1 h4 h5
        omega
      · have h4 : p.1 ≠ i := fun e => h1.2.2.2 (by rw [he, e])
        have h5 : adj i p.1 := by rw [← he]; exact sym _ _ h1.1
        have h6 := (hj p.1 h1.2.1 h4 h5).2 _ (hd.mono (fun x hx => ⟨hx.1, by rw [← he]; exact hx.2.2, hx.2.1⟩))
        have h7 := hbj p.1 h1.2.1 h4 h5
        omega
    · have : Match adj (fun x => S x ∧ x ≠ i) M := ⟨fun p hp => ⟨(hM.1 p hp).1, ⟨(hM.1 p hp).2.1, fun e => hin ⟨p, hp, Or.inl e⟩⟩, ⟨(hM.1 p hp).2.2.1, fun e => hin ⟨p, hp, Or.inr e⟩⟩, (hM.1 p hp).2.2.2⟩, hM.2⟩
      have := h0.2 M this
      omega
theorem length_le_of_in {α : Type} [DecidableEq α] : ∀ l P : List α, l.Nodup → (∀ x ∈ l, x ∈ P) → l.length ≤ P.length := by
  intro l
  induction l with
  | nil => intro P _ _; exact Nat.zero_le _
  | cons x r ih =>
    intro P hn hs
    rw [List.nodup_cons] at hn
    have h1 := hs x (List.mem_cons_self ..)
    have h2 := ih (P.erase x) hn.2 (fun y hy => (List.mem_erase_of_ne (fun e : y = x => hn.1 (by rw [← e]; exact hy))).2 (hs y (List.mem_cons_of_mem _ hy)))
    rw [List.length_erase_of_mem h1] at h2
    have := List.length_pos_of_mem h1
    rw [List.length_cons]
    omega
/-- A matching told by partners of cells of one side is a greatest one where each cell of the other side has a place, or all cells near it lie in a closed set of places that are taken. -/
theorem kuhn_most {α : Type} [DecidableEq α] {adj : α → α → Prop} {S : α → Prop} (sym : ∀ x y, adj x y → adj y x) {side : α → Bool} {partner : α → Option α} {P : List α} {D : α → Prop}
    (hside : ∀ x y, S x → S y → adj x y → side x ≠ side y) (hP : P.Nodup) (hPm : ∀ d, d ∈ P ↔ ∃ x, partner d = some x)
    (hpart : ∀ d x, partner d = some x → S d ∧ S x ∧ adj x d ∧ side x = false) (inj : ∀ d e x, partner d = some x → partner e = some x → d = e)
    (hD : ∀ d, D d → ∃ x, partner d = some x ∧ ∀ e, S e → adj x e → D e)
    (hdone : ∀ x, S x → side x = false → (∃ d, partner d = some x) ∨ ∀ e, S e → adj x e → D e) : Most adj S P.length := by
  have hnot : ∀ d x, partner d = some x → side d = true := by
    intro d x h
    obtain ⟨h1, h2, h3, h4⟩ := hpart d x h
    have := hside x d h2 h1 h3
    rw [h4] at this
    cases e : side d with
    | true => rfl
    | false => exact absurd e.symm this
  constructor
  · refine ⟨P.map fun d => ((partner d).getD d, d), ⟨fun p hp => ?_, ?_⟩, List.length_map ..⟩
    · obtain ⟨d, hd, rfl⟩ := List.mem_map.1 hp
      obtain ⟨x, hx⟩ := (hPm d).1 hd
      obtain ⟨h1, h2, h3, h4⟩ := hpart d x hx
      have h5 := hnot d x hx
      simp only [hx, Option.getD_some]
      exact ⟨h3, h2, h1, fun e => by rw [e, h5] at h4; cases h4⟩
    · rw [List.pairwise_map]
      refine List.Pairwise.imp_of_mem (fun {d e} hd he hne => ?_) hP
      obtain ⟨x, hx⟩ := (hPm d).1 hd
      obtain ⟨y, hy⟩ := (hPm e).1 he
      have h1 := hpart d x hx
      have h2 := hpart e y hy
      have h3 := hnot d x hx
      have h4 := hnot e y hy
      show Apt ((partner d).getD d, d) ((partner e).getD e, e)
      simp only [hx, hy, Option.getD_some]
      refine ⟨fun q => ?_, fun q => ?_, fun q => ?_, hne⟩
      · have q : x = y := q
        exact hne (inj d e x hx (by rw [q]; exact hy))
      · have q : x = e := q
        rw [q] at h1; rw [h1.2.2.2] at h4; cases h4
      · have q : d = y := q
        rw [← q] at h2; rw [h2.2.2.2] at h3; cases h3
  · intro M hM
    have pick : ∀ p ∈ M, ∃ d, d ∈ P ∧ ((D d ∧ (d = p.1 ∨ d = p.2)) ∨ (¬ D d ∧ ∃ x, partner d = some x ∧ (x = p.1 ∨ x = p.2))) := by
      intro p hp
      obtain ⟨ha, h1, h2, hne⟩ := hM.1 p hp
      have key : ∀ u v, S u → S v → adj u v → side u = false → (u = p.1 ∨ u = p.2) → (v = p.1 ∨ v = p.2) → ∃ d, d ∈ P ∧ ((D d ∧ (d = p.1 ∨ d = p.2)) ∨ (¬ D d ∧ ∃ x, partner d = some x ∧ (x = p.1 ∨ x = p.2))) := by
        intro u v hu hv huv hs hup hvp
        by_cases hDv : D v
        · obtain ⟨x, hx, _⟩ := hD v hDv
          exact ⟨v, (hPm v).2 ⟨x, hx⟩, Or.inl ⟨hDv, hvp⟩⟩
        · rcases hdone u hu hs with ⟨d, hd⟩ | h
          · refine ⟨d, (hPm d).2 ⟨u, hd⟩, Or.inr ⟨fun hDd => ?_, u, hd, hup⟩⟩
            obtain ⟨x, hx, hc⟩ := hD d hDd
            rw [hd] at hx
            cases hx
            exact hDv (hc v hv huv)
          · exact absurd (h v hv huv) hDv
      cases e : side p.1 with
      | false => exact key p.1 p.2 h1 h2 ha e (Or.inl rfl) (Or.inr rfl)
      | true =>
        have := hside p.1 p.2 h1 h2 ha
        rw [e] at this
        have e2 : side p.2 = false := by
          cases e2 : side p.2 with
          | false => rfl
          | true => exact absurd e2.symm this
        exact key p.2 p.1 h2 h1 (sym _ _ ha) e2 (Or.inr rfl) (Or.inl rfl)
    -- the places of the pairs, one after another
    have all : ∀ N : List (α × α), (∀ p ∈ N, p ∈ M) → N.Pairwise Apt → ∃ l : List α, l.length = N.length ∧ l.Nodup ∧ (∀ d ∈ l, d ∈ P) ∧
        ∀ d ∈ l, ∃ p ∈ N, ((D d ∧ (d = p.1 ∨ d = p.2)) ∨ (¬ D d ∧ ∃ x, partner d = some x ∧ (x = p.1 ∨ x = p.2))) := by
      intro N
      induction N with
      | nil => intro _ _; exact ⟨[], rfl, List.nodup_nil, by simp, by simp⟩
      | cons p r ih =>
        intro hs hpw
        rw [List.pairwise_cons] at hpw
        obtain ⟨l, hl, hn, hin, ho⟩ := ih (fun q hq => hs q (List.mem_cons_of_mem _ hq)) hpw.2
        obtain ⟨d, hd, hk⟩ := pick p (hs p (List.mem_cons_self ..))
        refine ⟨d :: l, by rw [List.length_cons, List.length_cons, hl], ?_, ?_, ?_⟩
        · rw [List.nodup_cons]
          refine ⟨fun hdl => ?_, hn⟩
          obtain ⟨q, hq, hk2⟩ := ho d hdl
          obtain ⟨a1, a2, a3, a4⟩ := hpw.1 q hq
          have clash : ∀ z, (z = p.1 ∨ z = p.2) → (z = q.1 ∨ z = q.2) → False := by
            intro z h1 h2
            rcases h1 with h1 | h1 <;> rcases h2 with h2 | h2
            · exact a1 (h1.symm.trans h2)
            · exact a2 (h1.symm.trans h2)
            · exact a3 (h1.symm.trans h2)
            · exact a4 (h1.symm.trans h2)
          rcases hk with ⟨k1, k2⟩ | ⟨k1, x, k2, k3⟩ <;> rcases hk2 with ⟨m1, m2⟩ | ⟨m1, y, m2, m3⟩
          · exact clash d k2 m2
          · exact m1 k1
          · exact k1 m1
          · rw [k2] at m2
            cases m2
            exact clash x k3 m3
        · intro e he
          rcases List.mem_cons.1 he with rfl | he
          · exact hd
          · exact hin e he
        · intro e he
          rcases List.mem_cons.1 he with rfl | he
          · exact ⟨p, List.mem_cons_self .., hk⟩
          · obtain ⟨q, hq, h⟩ := ho e he
            exact ⟨q, List.mem_cons_of_mem _ hq, h⟩
    obtain ⟨l, hl, hn, hin, _⟩ := all M (fun p hp => hp) hM.2
    rw [← hl]
    exact length_le_of_in l P hn hin
end Go.Proofs.Ytfjomkjngolboaa.H

namespace Go.Proofs.Ytfjomkjngolboaa.H
open Go.RowKit Go.IntWalk Go.Proofs.Ytfjomkjngolboaa.Q Go.Proofs.YtfjomkjngolboaaW.PrintWords Go.Proofs.YtfjomkjngolboaaW.PrintMore
set_option linter.unusedVariables false
set_option linter.unusedSimpArgs false
theorem pRow_mem (l : List Int) : ∀ (i : Int) (s : List Bool) (p : List Int) (x : Int), x ∈ (pRow i l s p).2 ↔ x ∈ p ∨ (i ≤ x ∧ x < i + (l.length : Int) ∧ 0 ≤ rd l (x - i)) := by
  induction l with
  | nil => intro i s p x; simp [pRow]; omega
  | cons a r ih =>
    intro i s p x
    have sh : ∀ y : Int, 0 < y → rd (a :: r) y = rd r (y - 1) := fun y hy => by
      unfold rd
      rw [show y.toNat = (y - 1).toNat + 1 by omega, List.getD_cons_succ]
    have h0 : rd (a :: r) 0 = a := rfl
    have e : ∀ y : Int, i + 1 ≤ y → rd (a :: r) (y - i) = rd r (y - (i + 1)) := fun y hy => by
      rw [sh _ (by omega), show y - i - 1 = y - (i + 1) by omega]
    rw [pRow]
    split
    · rename_i ha
      rw [ih]
      simp only [List.mem_append, List.mem_singleton, List.length_cons]
      constructor
      · rintro ((h | h) | ⟨h1, h2, h3⟩)
        · exact .inl h
        · subst h
          exact .inr ⟨by omega, by omega, by rw [show x - x = 0 by omega, h0]; exact ha⟩
        · exact .inr ⟨by omega, by omega, by rw [e x h1]; exact h3⟩
      · rintro (h | ⟨h1, h2, h3⟩)
        · exact .inl (.inl h)
        · by_cases hx : x = i
          · exact .inl (.inr hx)
          · exact .inr ⟨by omega, by omega, by rw [← e x (by omega)]; exact h3⟩
    · rename_i ha
      rw [ih]
      simp only [List.length_cons]
      constructor
      · rintro (h | ⟨h1, h2, h3⟩)
        · exact .inl h
        · exact .inr ⟨by omega, by omega, by rw [e x h1]; exact h3⟩
      · rintro (h | ⟨h1, h2, h3⟩)
        · exact .inl h
        · by_cases hx : x = i
          · subst hx
            rw [show x - x = 0 by omega, h0] at h3
            exact absurd h3 ha
          · exact .inr ⟨by omega, by omega, by rw [← e x (by omega)]; exact h3⟩
theorem seen_put (v : List Bool) (d : Int) (b : Bool) (hd : 0 ≤ d ∧ d < (v.length : Int)) (e : Int) (he : 0 ≤ e) : rdOf false (v.set d.toNat b) e = if e = d then b else rdOf false v e := by
  unfold rdOf
  rw [List.getD_eq_getElem?_getD, List.getElem?_set]
  by_cases h : e = d
  · subst h
    rw [if_pos rfl, if_pos rfl, if_pos (by omega)]
    rfl
  · have h1 : ¬ d.toNat = e.toNat := by omega
    rw [if_neg h, if_neg h1, ← List.getD_eq_getElem?_getD]
theorem pRow_seen (l : List Int) : ∀ (i : Int) (s : List Bool) (p : List Int), 0 ≤ i → (s.length : Int) = i + (l.length : Int) → ∀ x : Int, 0 ≤ x → rdOf false (pRow i l s p).1 x = true → rdOf false s x = true ∨ (i ≤ x ∧ x < i + (l.length : Int) ∧ 0 ≤ rd l (x - i)) := by
  induction l with
  | nil => intro i s p hi hl x hx h; exact .inl h
  | cons a r ih =>
    intro i s p hi hl x hx h
    simp only [List.length_cons] at hl ⊢
    have sh : ∀ y : Int, 0 < y → rd (a :: r) y = rd r (y - 1) := fun y hy => by
      unfold rd
      rw [show y.toNat = (y - 1).toNat + 1 by omega, List.getD_cons_succ]
    have e : ∀ y : Int, i + 1 ≤ y → rd (a :: r) (y - i) = rd r (y - (i + 1)) := fun y hy => by
      rw [sh _ (by omega), show y - i - 1 = y - (i + 1) by omega]
    rw [pRow] at h
    split at h
    · rename_i ha
      rcases ih (i + 1) _ _ (by omega) (by simp; omega) x hx h with h | ⟨h1, h2, h3⟩
      · rw [seen_put s i true (by omega) x hx] at h
        by_cases hxi : x = i
        · subst hxi
          exact .inr ⟨by omega, by omega, by rw [show x - x = 0 by omega]; exact ha⟩
        · rw [if_neg hxi] at h; exact .inl h
      · exact .inr ⟨by omega, by omega, by rw [e x h1]; exact h3⟩
    · rcases ih (i + 1) _ _ (by omega) (by omega) x hx h with h | ⟨h1, h2, h3⟩
      · exact .inl h
      · exact .inr ⟨by omega, by omega, by rw [e x h1]; exact h3⟩
section
variable {W H : Int} {L : List Int} {A B : Int}
/-- What a search from c reaches, goes on from each cell that it reaches. -/
theorem far_over (g : BoardM W H L) {c d : Int} (hc : hasB W H L c = true) (hd : hasB W H L d = true) (h : 0 ≤ rd (farM W H L A B d) c) : ∀ (n : Nat) (e : Int), 0 ≤ e ∧ e < W * H → rd (farM W H L A B c) e = (n : Int) → 0 ≤ rd (farM W H L A B d) e := by
  intro n
  induction n with
  | zero =>
    intro e he h0
    rw [far_zero (A := A) (B := B) g (has_range hc) e he (by omega)]
    exact h
  | succ n ih =>
    intro e he h0
    rcases far_pre (A := A) (B := B) g (has_range hc) e he (by omega) with ⟨_, h1⟩ | ⟨p, h1, h2, h3, h4⟩
    · omega
    · exact (far_step (A := A) (B := B) g (has_range hd) p h1 (ih p h1 (by omega)) e h3).1
theorem far_self (g : BoardM W H L) {c : Int} (hc : 0 ≤ c ∧ c < W * H) : rd (farM W H L A B c) c = 0 := by
  have ha := g.area
  exact farG_self (by omega) (fun c _ d hd => leapsM_in g c d hd) (by omega)
theorem far_turn (g : BoardM W H L) {c : Int} (hc : hasB W H L c = true) : ∀ (n : Nat) (e : Int), 0 ≤ e ∧ e < W * H → rd (farM W H L A B c) e = (n : Int) → 0 ≤ rd (farM W H L A B e) c := by
  intro n
  induction n with
  | zero =>
    intro e he h0
    have := far_zero (A := A) (B := B) g (has_range hc) e he (by omega)
    subst this
    rw [far_self g he]
    omega
  | succ n ih =>
    intro e he h0
    rcases far_pre (A := A) (B := B) g (has_range hc) e he (by omega) with ⟨_, h1⟩ | ⟨p, h1, h2, h3, h4⟩
    · omega
    · have hp := far_has (A := A) (B := B) g hc p h1 h2
      have hee := leapsM_has h3
      have hep : 0 ≤ rd (farM W H L A B e) p := (far_step (A := A) (B := B) g he e he (by rw [far_self g he]; omega) p (leapsM_flip hp h3)).1
      have hpc := ih p h1 (by omega)
      obtain ⟨m, hm⟩ : ∃ m : Nat, rd (farM W H L A B p) c = (m : Int) := ⟨(rd (farM W H L A B p) c).toNat, by omega⟩
      exact far_over (A := A) (B := B) g hp hee hep m c (has_range hc) hm
theorem farM_len (g : BoardM W H L) {c : Int} (hc : 0 ≤ c ∧ c < W * H) : ((farM W H L A B c).length : Int) = W * H := by
  have ha := g.area
  have := (farG_keep (nb := leapsM W H L A B) (n := (W * H).toNat) (by omega) (fun c _ d hd => leapsM_in g c d hd) (c := c) (by omega)).1
  unfold farM
  rw [this]
  omega
/-- A part of which something is known: it has a first cell, and that is a cell of the board. -/
def PartOk (W H : Int) (L : List Int) (p : List Int) : Prop := 0 < p.length ∧ hasB W H L (rd p 0) = true
theorem partsR_cover (g : BoardM W H L) (cs : List Int) (hcs : ∀ c ∈ cs, hasB W H L c = true) : ∀ (s : List Bool) (out : List (List Int)), (s.length : Int) = W * H → (∀ p ∈ out, PartOk W H L p) →
    (∀ x, 0 ≤ x → rdOf false s x = true → ∃ p ∈ out, 0 ≤ rd (farM W H L A B (rd p 0)) x) →
    (∀ p ∈ partsR (farM W H L A B) cs s out, PartOk W H L p) ∧ (∀ p ∈ out, p ∈ partsR (farM W H L A B) cs s out) ∧ ∀ c ∈ cs, ∃ p ∈ partsR (farM W H L A B) cs s out, 0 ≤ rd (farM W H L A B (rd p 0)) c := by
  induction cs with
  | nil => intro s out hs ho hx; exact ⟨ho, fun p hp => hp, fun c hc => by cases hc⟩
  | cons c r ih =>
    intro s out hs ho hx
    have hc := hcs c (by simp)
    have hcr := has_range hc
    rw [partsR]
    by_cases d : rdOf false s c = true
    · rw [if_pos d]
      obtain ⟨h1, h2, h3⟩ := ih (fun x hx => hcs x (by simp [hx])) s out hs ho hx
      refine ⟨h1, h2, fun x hm => ?_⟩
      rcases List.mem_cons.1 hm with rfl | hm
      · obtain ⟨p, hp, hq⟩ := hx x hcr.1 d
        exact ⟨p, h2 p hp, hq⟩
      · exact h3 x hm
    · rw [if_neg d]
      have hlen := farM_len (A := A) (B := B) g hcr
      have hmem := fun x => pRow_mem (farM W H L A B c) 0 s [] x
      have hcm : c ∈ (pRow 0 (farM W H L A B c) s []).2 := (hmem c).2 (.inr ⟨by omega, by omega, by rw [show c - 0 = c by omega, far_self g hcr]; omega⟩)
      have hpos := List.length_pos_of_mem hcm
      have hfm : rd (pRow 0 (farM W H L A B c) s []).2 0 ∈ (pRow 0 (farM W H L A B c) s []).2 := by
        have e : rd (pRow 0 (farM W H L A B c) s []).2 0 = (pRow 0 (farM W H L A B c) s []).2[0] := rd_nat _ 0 hpos
        rw [e]
        exact List.getElem_mem hpos
      have hf : 0 ≤ rd (pRow 0 (farM W H L A B c) s []).2 0 ∧ rd (pRow 0 (farM W H L A B c) s []).2 0 < W * H ∧ 0 ≤ rd (farM W H L A B c) (rd (pRow 0 (farM W H L A B c) s []).2 0) := by
        rcases (hmem _).1 hfm with h | ⟨h1, h2, h3⟩
        · cases h
        · rw [show ∀ x : Int, x - 0 = x by intro x; omega] at h3
          exact ⟨by omega, by omega, h3⟩
      generalize hP : (pRow 0 (farM W H L A B c) s []).2 = P at hmem hcm hpos hfm hf
      have hfh := far_has (A := A) (B := B) g hc _ ⟨hf.1, hf.2.1⟩ hf.2.2
      obtain ⟨m, hm⟩ : ∃ m : Nat, rd (farM W H L A B c) (rd P 0) = (m : Int) := ⟨(rd (farM W H L A B c) (rd P 0)).toNat, by omega⟩
      have hback := far_turn (A := A) (B := B) g hc m _ ⟨hf.1, hf.2.1⟩ hm
      have hall : ∀ x, 0 ≤ x ∧ x < W * H → 0 ≤ rd (farM W H L A B c) x → 0 ≤ rd (farM W H L A B (rd P 0)) x := fun x hxr hx0 => by
        obtain ⟨q, hq⟩ : ∃ q : Nat, rd (farM W H L A B c) x = (q : Int) := ⟨(rd (farM W H L A B c) x).toNat, by omega⟩
        exact far_over (A := A) (B := B) g hc hfh hback q x hxr hq
      obtain ⟨h1, h2, h3⟩ := ih (fun x hx => hcs x (by simp [hx])) (pRow 0 (farM W H L A B c) s []).1 (out ++ [P]) (by rw [pRow_length]; exact hs)
        (fun p hp => by
          rcases List.mem_append.1 hp with hp | hp
          · exact ho p hp
          · obtain rfl : p = P := by simpa using hp
            exact ⟨hpos, hfh⟩)
        (fun x hx0 hxs => by
          rcases pRow_seen (farM W H L A B c) 0 s [] (by omega) (by omega) x hx0 hxs with h | ⟨k1, k2, k3⟩
          · obtain ⟨p, hp, hq⟩ := hx x hx0 h
            exact ⟨p, List.mem_append_left _ hp, hq⟩
          · rw [show x - 0 = x by omega] at k3
            exact ⟨P, by simp, hall x (by omega) k3⟩)
      refine ⟨h1, fun p hp => h2 p (List.mem_append_left _ hp), fun x hm => ?_⟩
      rcases List.mem_cons.1 hm with rfl | hm
      · exact ⟨P, h2 P (by simp), hback⟩
      · exact h3 x hm
/-- A colour of the board's cells that each leap turns over. -/
theorem board_colour (t : Two W H L A B) : ∃ f : Int → Int, (∀ x, f x = 0 ∨ f x = 1) ∧ ∀ x y, hasB W H L x = true → y ∈ leapsM W H L A B x → f y = 1 - f x := by
  obtain ⟨hA, hB, hAB⟩ : 0 ≤ A ∧ 0 ≤ B ∧ 1 ≤ A + B := by
    have := t.2
    unfold Leap at this
    omega
  obtain ⟨f, h1, h2⟩ := colour (A + B).toNat A B hA hB hAB (by omega)
  refine ⟨fun x => f (x % W) (x / W), fun x => h1 _ _, fun x y hx hy => ?_⟩
  have hi : isB W A B x y = true := (List.mem_filter.1 hy).2
  show f (y % W) (y / W) = 1 - f (x % W) (x / W)
  have := h2 (x % W) (x / W) (y % W - x % W) (y / W - x / W) (by
    unfold isB at hi
    simp only [Bool.or_eq_true, Bool.and_eq_true, decide_eq_true_eq] at hi
    unfold Way
    omega)
  rw [show x % W + (y % W - x % W) = y % W by omega, show x / W + (y / W - x / W) = y / W by omega] at this
  exact this
theorem far_parity (g : BoardM W H L) {f : Int → Int} (h1 : ∀ x, f x = 0 ∨ f x = 1) (h2 : ∀ x y, hasB W H L x = true → y ∈ leapsM W H L A B x → f y = 1 - f x) {c : Int} (hc : hasB W H L c = true) :
    ∀ (n : Nat) (e : Int), 0 ≤ e ∧ e < W * H → rd (farM W H L A B c) e = (n : Int) → ((n % 2 = 0 ∧ f e = f c) ∨ (n % 2 = 1 ∧ f e = 1 - f c)) := by
  intro n
  induction n with
  | zero =>
    intro e he h0
    rw [far_zero (A := A) (B := B) g (has_range hc) e he (by omega)]
    exact .inl ⟨rfl, rfl⟩
  | succ n ih =>
    intro e he h0
    rcases far_pre (A := A) (B := B) g (has_range hc) e he (by omega) with ⟨_, q1⟩ | ⟨p, q1, q2, q3, q4⟩
    · omega
    · have hp := far_has (A := A) (B := B) g hc p q1 q2
      have := ih p q1 (by omega)
      have := h2 p e hp q3
      omega
def sRow : Int → List Int → List Int → List Int
  | _, [], o => o
  | i, x :: r, o => if x ≥ 0 then sRow (i + 1) r (o.set i.toNat (Int.tmod x 2)) else sRow (i + 1) r o
theorem sRow_length (l : List Int) : ∀ i o, (sRow i l o).length = o.length := by
  induction l with
  | nil => intro i o; rfl
  | cons x r ih => intro i o; rw [sRow]; split <;> rw [ih] <;> simp
theorem sRow_get (l : List Int) : ∀ (i : Int) (o : List Int), 0 ≤ i → (o.length : Int) = i + (l.length : Int) → ∀ x : Int, 0 ≤ x → x < (o.length : Int) → rd (sRow i l o) x = if i ≤ x ∧ 0 ≤ rd l (x - i) then rd l (x - i) % 2 else rd o x := by
  induction l with
  | nil =>
    intro i o hi hl x hx hx2
    rw [sRow, if_neg]
    simp only [List.length_nil] at hl
    omega
  | cons a r ih =>
    intro i o hi hl x hx hx2
    simp only [List.length_cons] at hl
    have sh : ∀ y : Int, 0 < y → rd (a :: r) y = rd r (y - 1) := fun y hy => by
      unfold rd
      rw [show y.toNat = (y - 1).toNat + 1 by omega, List.getD_cons_succ]
    have e : ∀ y : Int, i + 1 ≤ y → rd (a :: r) (y - i) = rd r (y - (i + 1)) := fun y hy => by
      rw [sh _ (by omega), show y - i - 1 = y - (i + 1) by omega]
    have z : rd (a :: r) (i - i) = a := by rw [show i - i = 0 by omega]; rfl
    rw [sRow]
    by_cases hxi : x = i
    · subst hxi
      have no : ∀ p : Prop, ¬ (x + 1 ≤ x ∧ p) := fun p h => by have := h.1; omega
      rw [z]
      by_cases ha : a ≥ 0
      · rw [if_pos ha, ih (x + 1) _ (by omega) (by simp; omega) x hx (by simp; omega), if_neg (no _), if_pos ⟨by omega, ha⟩, rd_put o x _ x (by omega) hx, if_pos rfl, Int.tmod_eq_emod_of_nonneg ha]
      · rw [if_neg ha, ih (x + 1) _ (by omega) (by omega) x hx hx2, if_neg (no _), if_neg (fun h => ha h.2)]
    · by_cases ha : a ≥ 0
      · rw [if_pos ha, ih (i + 1) _ (by omega) (by simp; omega) x hx (by simp; omega), rd_put o i _ x (by omega) hx, if_neg hxi]
        by_cases hlt : i + 1 ≤ x
        · rw [e x hlt]
          simp only [hlt, show i ≤ x by omega, true_and]
        · rw [if_neg (fun h => hlt h.1), if_neg (fun h => by have := h.1; omega)]
      · rw [if_neg ha, ih (i + 1) _ (by omega) (by omega) x hx hx2]
        by_cases hlt : i + 1 ≤ x
        · rw [e x hlt]
          simp only [hlt, show i ≤ x by omega, true_and]
        · rw [if_neg (fun h => hlt h.1), if_neg (fun h => by have := h.1; omega)]
def sidesR (far : Int → List Int) : List (List Int) → List Int → List Int
  | [], o => o
  | p :: r, o => sidesR far r (sRow 0 (far (rd p 0)) o)
/-- What a row of sides keeps: near cells have different sides, or none. -/
def SidesOk (W H : Int) (L : List Int) (A B : Int) (o : List Int) : Prop :=
  (∀ x, hasB W H L x = true → rd o x = -1 ∨ rd o x = 0 ∨ rd o x = 1) ∧ ∀ x y, hasB W H L x = true → y ∈ leapsM W H L A B x → (rd o x = -1 ∧ rd o y = -1) ∨ (rd o x ≠ -1 ∧ rd o y = 1 - rd o x)
theorem sidesR_ok (t : Two W H L A B) (ps : List (List Int)) (hps : ∀ p ∈ ps, PartOk W H L p) : ∀ o : List Int, (o.length : Int) = W * H → SidesOk W H L A B o →
    ((sidesR (farM W H L A B) ps o).length : Int) = W * H ∧ SidesOk W H L A B (sidesR (farM W H L A B) ps o) ∧
      ∀ x, hasB W H L x = true → (rd o x ≠ -1 ∨ ∃ p ∈ ps, 0 ≤ rd (farM W H L A B (rd p 0)) x) → rd (sidesR (farM W H L A B) ps o) x ≠ -1 := by
  have g := t.1
  have ha := g.area
  obtain ⟨f, f1, f2⟩ := board_colour t
  induction ps with
  | nil =>
    intro o ho hk
    refine ⟨ho, hk, fun x hx h => ?_⟩
    rcases h with h | ⟨p, hp, _⟩
    · exact h
    · cases hp
  | cons p r ih =>
    intro o ho hk
    have hp := (hps p (by simp)).2
    have hpr := has_range hp
    have hlen := farM_len (A := A) (B := B) g hpr
    have get : ∀ x, 0 ≤ x ∧ x < W * H → rd (sRow 0 (farM W H L A B (rd p 0)) o) x = if 0 ≤ rd (farM W H L A B (rd p 0)) x then rd (farM W H L A B (rd p 0)) x % 2 else rd o x := fun x hx => by
      rw [sRow_get _ 0 o (by omega) (by omega) x hx.1 (by omega), show x - 0 = x by omega]
      simp only [hx.1, true_and]
    obtain ⟨h1, h2, h3⟩ := ih (fun q hq => hps q (by simp [hq])) (sRow 0 (farM W H L A B (rd p 0)) o) (by rw [sRow_length]; exact ho) (by
      refine ⟨fun x hx => ?_, fun x y hx hy => ?_⟩
      · rw [get x (has_range hx)]
        by_cases h : 0 ≤ rd (farM W H L A B (rd p 0)) x
        · rw [if_pos h]; omega
        · rw [if_neg h]; exact hk.1 x hx
      · have hyb := leapsM_has hy
        rw [get x (has_range hx), get y (has_range hyb)]
        by_cases h : 0 ≤ rd (farM W H L A B (rd p 0)) x
        · have hy0 := (far_step (A := A) (B := B) g hpr x (has_range hx) h y hy).1
          rw [if_pos h, if_pos hy0]
          obtain ⟨n, hn⟩ : ∃ n : Nat, rd (farM W H L A B (rd p 0)) x = (n : Int) := ⟨(rd (farM W H L A B (rd p 0)) x).toNat, by omega⟩
          obtain ⟨m, hm⟩ : ∃ m : Nat, rd (farM W H L A B (rd p 0)) y = (m : Int) := ⟨(rd (farM W H L A B (rd p 0)) y).toNat, by omega⟩
          have q1 := far_parity (A := A) (B := B) g f1 f2 hp n x (has_range hx) hn
          have q2 := far_parity (A := A) (B := B) g f1 f2 hp m y (has_range hyb) hm
          have q3 := f2 x y hx hy
          have q4 := f1 x
          have q5 := f1 (rd p 0)
          rw [hn, hm]
          right
          omega
        · have hy0 : ¬ 0 ≤ rd (farM W H L A B (rd p 0)) y := fun hy0 => h (far_step (A := A) (B := B) g hpr y (has_range hyb) hy0 x (leapsM_flip hx hy)).1
          rw [if_neg h, if_neg hy0]
          exact hk.2 x y hx hy)
    refine ⟨h1, h2, fun x hx h => h3 x hx ?_⟩
    rw [get x (has_range hx)]
    by_cases hf : 0 ≤ rd (farM W H L A B (rd p 0)) x
    · rw [if_pos hf]; left; omega
    · rw [if_neg hf]
      rcases h with h | ⟨q, hq, hq2⟩
      · exact .inl h
      · rcases List.mem_cons.1 hq with rfl | hq
        · exact absurd hq2 hf
        · exact .inr ⟨q, hq, hq2⟩
/-- The sides of the board's cells. -/
def sidesM (W H : Int) (L : List Int) (A B : Int) : List Int := sidesR (farM W H L A B) (partsR (farM W H L A B) (cellsM W H L) (List.replicate (W * H).toNat false) []) (List.replicate (W * H).toNat (-1))
theorem rd_fill (n : Nat) (v : Int) (x : Int) (h : 0 ≤ x ∧ x < (n : Int)) : rd (List.replicate n v) x = v := by
  unfold rd
  rw [List.getD_eq_getElem?_getD, List.getElem?_replicate, if_pos (by omega)]
  rfl
theorem sidesM_ok (t : Two W H L A B) : ((sidesM W H L A B).length : Int) = W * H ∧ (∀ x, hasB W H L x = true → rd (sidesM W H L A B) x = 0 ∨ rd (sidesM W H L A B) x = 1) ∧
    ∀ x y, hasB W H L x = true → y ∈ leapsM W H L A B x → rd (sidesM W H L A B) y = 1 - rd (sidesM W H L A B) x := by
  have g := t.1
  have ha := g.area
  obtain ⟨c1, c2, c3⟩ := partsR_cover (A := A) (B := B) g (cellsM W H L) (fun c hc => mem_cellsM.1 hc) (List.replicate (W * H).toNat false) [] (by simp; omega) (by simp) (fun x hx h => by
    exfalso
    unfold rdOf at h
    rw [List.getD_eq_getElem?_getD, List.getElem?_replicate] at h
    split at h <;> simp at h)
  obtain ⟨h1, h2, h3⟩ := sidesR_ok t _ c1 (List.replicate (W * H).toNat (-1)) (by simp; omega) ⟨fun x hx => .inl (rd_fill _ _ x (by have := has_range hx; omega)), fun x y hx hy => .inl ⟨rd_fill _ _ x (by have := has_range hx; omega), rd_fill _ _ y (by have := has_range (leapsM_has hy); omega)⟩⟩
  have all : ∀ x, hasB W H L x = true → rd (sidesM W H L A B) x ≠ -1 := fun x hx => h3 x hx (.inr (c3 x (mem_cellsM.2 hx)))
  refine ⟨h1, fun x hx => ?_, fun x y hx hy => ?_⟩
  · rcases h2.1 x hx with h | h
    · exact absurd h (all x hx)
    · exact h
  · rcases h2.2 x y hx hy with h | h
    · exact absurd h.1 (all x hx)
    · exact h.2
theorem sides_l2 (ps : List (List Int)) (i : Nat) (hi : i ≤ 64) (R : List Int) (rest pre : List Int) (hp : (pre ++ rest).length ≤ 64) : ∀ o : List Int, o.length = (pre ++ rest).length →
    Ev (fun k => impl_graph_sides.l1 k (sRow (pre.length : Int) rest o) ps (ps.length : Int) ((i + 1 : Nat) : Int) W H L A B (cellsM W H L) (nearM W H L A B)) R →
    Ev (fun k => impl_graph_sides.l2 k o ps (ps.length : Int) (i : Int) (pre ++ rest) ((pre ++ rest).length : Int) (pre.length : Int) W H L A B (cellsM W H L) (nearM W H L A B)) R := by
  induction rest generalizing pre with
  | nil =>
    intro o ho hR
    refine Ev.step (fun k => by rw [impl_graph_sides.l2]) ?_
    simp only [List.append_nil, nlt_end, if_false, w_succ (show i ≤ 4611686018427387904 by omega)]
    simpa [sRow] using hR
  | cons x r ih =>
    intro o ho hR
    refine Ev.step (fun k => by rw [impl_graph_sides.l2]) ?_
    have h0 : (0 : Int) ≤ (pre.length : Int) := by omega
    have h5 : pre.length ≤ 64 := by simp at hp; omega
    have h7 : (pre.length : Int) < (o.length : Int) := by simp at ho; omega
    simp only [lt_mid pre x r, h0, if_true, rd_mid, w_succ (show pre.length ≤ 4611686018427387904 by omega)]
    rw [sRow] at hR
    by_cases c : x ≥ 0
    · simp only [c, if_true, h7] at hR ⊢
      have := ih (pre ++ [x]) (by simpa using hp) (o.set ((pre.length : Int)).toNat (Int.tmod x 2)) (by simpa using ho) (by simpa using hR)
      simpa using this
    · simp only [c, if_false] at hR ⊢
      have := ih (pre ++ [x]) (by simpa using hp) o (by simpa using ho) (by simpa using hR)
      simpa using this
theorem rdL_mid (pre : List (List Int)) (p : List Int) (r : List (List Int)) : rd_L1 (pre ++ p :: r) (pre.length : Int) = p := by
  unfold rd_L1
  rw [List.getD_eq_getElem?_getD, Int.toNat_natCast, List.getElem?_append_right (Nat.le_refl _), Nat.sub_self]
  rfl
theorem sides_l1 (g : BoardM W H L) (rest pre : List (List Int)) (hr : ∀ p ∈ rest, PartOk W H L p) (hp : (pre ++ rest).length ≤ 64) : ∀ o : List Int, (o.length : Int) = W * H →
    Ev (fun k => impl_graph_sides.l1 k o (pre ++ rest) ((pre ++ rest).length : Int) (pre.length : Int) W H L A B (cellsM W H L) (nearM W H L A B)) (sidesR (farM W H L A B) rest o) := by
  have ha := g.area
  induction rest generalizing pre with
  | nil =>
    intro o ho
    refine Ev.step (fun k => by rw [impl_graph_sides.l1]) ?_
    have h1 : ¬ ((pre.length : Int) < ((pre ++ []).length : Int)) := by simp
    simp only [h1, if_false, sidesR]
    exact Ev.now _
  | cons p r ih =>
    intro o ho
    refine Ev.step (fun k => by rw [impl_graph_sides.l1]) ?_
    have h0 : (0 : Int) ≤ (pre.length : Int) := by omega
    have h1 : (pre.length : Int) < ((pre ++ p :: r).length : Int) := by simp; omega
    have h5 : pre.length ≤ 64 := by simp at hp; omega
    obtain ⟨q1, q2⟩ := hr p (by simp)
    have q3 : (0 : Int) < (p.length : Int) := by omega
    simp only [h1, h0, if_true, rdL_mid, q3]
    refine Ev.bind (far_ev g _ q2) ?_
    have hlen := farM_len (A := A) (B := B) g (has_range q2)
    have := ih (pre ++ [p]) (fun x hx => hr x (by simp [hx])) (by simpa using hp) (sRow 0 (farM W H L A B (rd p 0)) o) (by rw [sRow_length]; exact ho)
    have := sides_l2 (W := W) (H := H) (L := L) (A := A) (B := B) (pre ++ p :: r) pre.length h5 (sidesR (farM W H L A B) r (sRow 0 (farM W H L A B (rd p 0)) o)) (farM W H L A B (rd p 0)) [] (by simp; omega) o (by simp; omega) (by simpa using this)
    simpa [sidesR] using this
theorem sides_l0 (R : List Int) (n pre rest : Nat) (hn : pre + rest = n) (h64 : n ≤ 64) (hR : Ev (fun k => impl_graph_sides.l0 k (List.replicate n (-1)) (n : Int) (n : Int) W H L A B (cellsM W H L) (nearM W H L A B)) R) :
    Ev (fun k => impl_graph_sides.l0 k (List.replicate pre (-1 : Int) ++ List.replicate rest (0 : Int)) (n : Int) (pre : Int) W H L A B (cellsM W H L) (nearM W H L A B)) R := by
  induction rest generalizing pre with
  | zero =>
    obtain rfl : pre = n := by omega
    simpa using hR
  | succ r ih =>
    refine Ev.step (fun k => by rw [impl_graph_sides.l0]) ?_
    have h1 : (pre : Int) < (n : Int) := by omega
    have h0 : (0 : Int) ≤ (pre : Int) := by omega
    have h2 : (pre : Int) < ((List.replicate pre (-1 : Int) ++ List.replicate (r + 1) (0 : Int)).length : Int) := by simp; omega
    simp only [h1, h0, h2, if_true, set_fill, w_succ (show pre ≤ 4611686018427387904 by omega)]
    have := ih (pre + 1) (by omega)
    simpa using this
theorem sides_ev (t : Two W H L A B) : Ev (fun k => impl_graph_sides.f k W H L A B (cellsM W H L) (nearM W H L A B)) (sidesM W H L A B) := by
  have g := t.1
  have ha := g.area
  have h1 : (0 : Int) ≤ ((nearM W H L A B).length : Int) := by omega
  have h3 : (((nearM W H L A B).length : Int)).toNat = (W * H).toNat := by rw [nearM_length]; omega
  have h2 : (W * H).toNat ≤ 35184372088832 := by omega
  unfold impl_graph_sides.f
  simp only [h1, h3, h2, if_true, Option.bind_some, List.length_replicate]
  obtain ⟨c1, c2, c3⟩ := partsR_cover (A := A) (B := B) g (cellsM W H L) (fun c hc => mem_cellsM.1 hc) (List.replicate (W * H).toNat false) [] (by simp; omega) (by simp) (fun x hx h => by
    exfalso
    unfold rdOf at h
    rw [List.getD_eq_getElem?_getD, List.getElem?_replicate] at h
    split at h <;> simp at h)
  have hl := partsR_length (farM W H L A B) (cellsM W H L) (List.replicate (W * H).toNat false) []
  have hl2 := cellsM_length g
  have last := sides_l1 (A := A) (B := B) g (partsR (farM W H L A B) (cellsM W H L) (List.replicate (W * H).toNat false) []) [] c1 (by simp at hl ⊢; omega) (List.replicate (W * H).toNat (-1)) (by simp; omega)
  have := sides_l0 (W := W) (H := H) (L := L) (A := A) (B := B) (sidesM W H L A B) (W * H).toNat 0 (W * H).toNat (by omega) (by omega) (by
    refine Ev.step (fun k => by rw [impl_graph_sides.l0]) ?_
    have e : ¬ (((W * H).toNat : Int) < ((W * H).toNat : Int)) := by omega
    simp only [e, if_false]
    refine Ev.bind (parts_ev g) ?_
    simpa [sidesM] using last)
  simpa using this
end
end Go.Proofs.Ytfjomkjngolboaa.H

namespace Go.Proofs.Ytfjomkjngolboaa.H
set_option linter.unusedVariables false
/-- What a search that found a place changes: only unseen places; their numbers are the old ones and the cell's own; one place more is taken; a closed set of taken places stays as it was, and the search left it. -/
structure Good (G : Int → List Int) (U : Int → Prop) (P : Int → Int) (c : Int) (R : List Int) (P' : Int → Int) : Prop where
  keep : ∀ d, ¬ U d → P' d = P d
  vals : ∀ d, U d → 0 ≤ P' d → P' d = c ∨ ∃ e, U e ∧ P e = P' d
  own : ∃ d, U d ∧ P' d = c
  old : ∀ e, U e → 0 ≤ P e → ∃ d, U d ∧ P' d = P e
  inj : ∀ d e, U d → U e → 0 ≤ P' d → P' d = P' e → d = e
  adj : ∀ d, 0 ≤ P' d → P' d = P d ∨ d ∈ G (P' d)
  more : ∃ x, U x ∧ P x < 0 ∧ 0 ≤ P' x ∧ ∀ d, d ≠ x → (0 ≤ P' d ↔ 0 ≤ P d)
  out : ∀ D : Int → Prop, (∀ d, D d → 0 ≤ P d ∧ ∀ e ∈ G (P d), D e) → (∃ e ∈ R, ¬ D e) ∧ ∀ d, D d → P' d = P d
def upd (P : Int → Int) (d c : Int) : Int → Int := fun x => if x = d then c else P x
theorem upd_self (P : Int → Int) (d c : Int) : upd P d c d = c := if_pos rfl
theorem upd_ne (P : Int → Int) {d x : Int} (c : Int) (h : x ≠ d) : upd P d c x = P x := if_neg h
theorem Good.base {G : Int → List Int} {U : Int → Prop} {P : Int → Int} {c d : Int} {R : List Int} (hc : 0 ≤ c) (hd : U d) (hr : d ∈ R) (hg : d ∈ G c) (hn : P d < 0) (hno : ∀ x, U x → P x ≠ c)
    (hi : ∀ x y, U x → U y → 0 ≤ P x → P x = P y → x = y) : Good G U P c R (upd P d c) where
  keep x hx := upd_ne P c (fun e => hx (e ▸ hd))
  vals x hx h := by
    by_cases e : x = d
    · subst e; exact Or.inl (upd_self ..)
    · rw [upd_ne P c e]; exact Or.inr ⟨x, hx, rfl⟩
  own := ⟨d, hd, upd_self ..⟩
  old e he h := ⟨e, he, upd_ne P c (fun q => by subst q; omega)⟩
  inj x y hx hy h0 h := by
    by_cases e : x = d <;> by_cases f : y = d
    · rw [e, f]
    · subst e; rw [upd_self, upd_ne P c f] at h; exact absurd h.symm (hno y hy)
    · subst f; rw [upd_self, upd_ne P c e] at h; exact absurd h (hno x hx)
    · rw [upd_ne P c e] at h0; rw [upd_ne P c e, upd_ne P c f] at h; exact hi x y hx hy h0 h
  adj x h := by
    by_cases e : x = d
    · subst e; rw [upd_self]; exact Or.inr hg
    · exact Or.inl (upd_ne P c e)
  more := ⟨d, hd, hn, by rw [upd_self]; exact hc, fun x hx => by rw [upd_ne P c hx]⟩
  out D hD := by
    have : ¬ D d := fun h => by have := (hD d h).1; omega
    exact ⟨⟨d, hr, this⟩, fun x hx => upd_ne P c (fun e => this (e ▸ hx))⟩
theorem Good.step {G : Int → List Int} {U U1 : Int → Prop} {P P1 : Int → Int} {c d : Int} {R : List Int} (hc : 0 ≤ c) (hd : U d) (hU : ∀ x, U1 x ↔ U x ∧ x ≠ d) (hr : d ∈ R) (hg : d ∈ G c) (hp : 0 ≤ P d) (hno : ∀ x, U x → P x ≠ c)
    (h : Good G U1 P (P d) (G (P d)) P1) : Good G U P c R (upd P1 d c) where
  keep x hx := by
    have e : x ≠ d := fun e => hx (e ▸ hd)
    rw [upd_ne P1 c e]
    exact h.keep x (fun q => hx ((hU x).1 q).1)
  vals x hx h0 := by
    by_cases e : x = d
    · subst e; exact Or.inl (upd_self ..)
    · rw [upd_ne P1 c e] at h0 ⊢
      rcases h.vals x ((hU x).2 ⟨hx, e⟩) h0 with q | ⟨y, hy, q⟩
      · exact Or.inr ⟨d, hd, q.symm⟩
      · exact Or.inr ⟨y, ((hU y).1 hy).1, q⟩
  own := ⟨d, hd, upd_self ..⟩
  old y hy h0 := by
    by_cases e : y = d
    · obtain ⟨x, hx, q⟩ := h.own
      have := (hU x).1 hx
      exact ⟨x, this.1, by rw [upd_ne P1 c this.2, q, e]⟩
    · obtain ⟨x, hx, q⟩ := h.old y ((hU y).2 ⟨hy, e⟩) h0
      have := (hU x).1 hx
      exact ⟨x, this.1, by rw [upd_ne P1 c this.2, q]⟩
  inj x y hx hy h0 he := by
    have far : ∀ z, U z → z ≠ d → P1 z ≠ c := by
      intro z hz e q
      rcases h.vals z ((hU z).2 ⟨hz, e⟩) (by omega) with q2 | ⟨w, hw, q2⟩
      · exact hno d hd (by omega)
      · exact hno w ((hU w).1 hw).1 (by omega)
    by_cases e : x = d <;> by_cases f : y = d
    · rw [e, f]
    · subst e; rw [upd_self, upd_ne P1 c f] at he; exact absurd he.symm (far y hy f)
    · subst f; rw [upd_self, upd_ne P1 c e] at he; exact absurd he (far x hx e)
    · rw [upd_ne P1 c e] at h0; rw [upd_ne P1 c e, upd_ne P1 c f] at he
      exact h.inj x y ((hU x).2 ⟨hx, e⟩) ((hU y).2 ⟨hy, f⟩) h0 he
  adj x h0 := by
    by_cases e : x = d
    · subst e; rw [upd_self]; exact Or.inr hg
    · rw [upd_ne P1 c e] at h0 ⊢; exact h.adj x h0
  more := by
    obtain ⟨x, hx, h1, h2, h3⟩ := h.more
    have hx2 := (hU x).1 hx
    refine ⟨x, hx2.1, h1, by rw [upd_ne P1 c hx2.2]; exact h2, fun y hy => ?_⟩
    by_cases e : y = d
    · subst e; rw [upd_self]; exact ⟨fun _ => hp, fun _ => hc⟩
    · rw [upd_ne P1 c e]; exact h3 y hy
  out D hD := by
    obtain ⟨⟨e, he, hne⟩, hk⟩ := h.out D hD
    have hdD : ¬ D d := fun q => hne ((hD d q).2 e he)
    exact ⟨⟨d, hr, hdD⟩, fun x hx => by
      have : x ≠ d := fun q => hdD (q ▸ hx)
      rw [upd_ne P1 c this]; exact hk x hx⟩
/-- Seen from where fewer places were seen. -/
theorem Good.wide {G : Int → List Int} {U U0 : Int → Prop} {P P' : Int → Int} {c : Int} {R R0 : List Int} (hU : ∀ x, U x → U0 x) (hR : ∀ x ∈ R, x ∈ R0) (hno : ∀ x, U0 x → P x ≠ c)
    (hi : ∀ x y, U0 x → U0 y → 0 ≤ P x → P x = P y → x = y) (h : Good G U P c R P') : Good G U0 P c R0 P' where
  keep x hx := h.keep x (fun q => hx (hU x q))
  vals x hx h0 := by
    by_cases u : U x
    · rcases h.vals x u h0 with q | ⟨y, hy, q⟩
      · exact Or.inl q
      · exact Or.inr ⟨y, hU y hy, q⟩
    · exact Or.inr ⟨x, hx, (h.keep x u).symm⟩
  own := by obtain ⟨d, hd, q⟩ := h.own; exact ⟨d, hU d hd, q⟩
  old y hy h0 := by
    by_cases u : U y
    · obtain ⟨x, hx, q⟩ := h.old y u h0; exact ⟨x, hU x hx, q⟩
    · exact ⟨y, hy, h.keep y u⟩
  inj x y hx hy h0 he := by
    have mix : ∀ x y, U x → U0 x → ¬ U y → U0 y → 0 ≤ P' x → P' x = P' y → x = y := by
      intro x y ux hx uy hy h0 he
      rw [h.keep y uy] at he
      rcases h.vals x ux h0 with q | ⟨w, hw, q⟩
      · exact absurd (he.symm.trans q) (hno y hy)
      · have := hi w y (hU w hw) hy (by omega) (by omega)
        exact absurd (this ▸ hw) uy
    by_cases ux : U x <;> by_cases uy : U y
    · exact h.inj x y ux uy h0 he
    · exact mix x y ux hx uy hy h0 he
    · exact (mix y x uy hy ux hx (by omega) he.symm).symm
    · rw [h.keep x ux] at h0 he; rw [h.keep y uy] at he; exact hi x y hx hy h0 he
  adj := h.adj
  more := by obtain ⟨x, hx, q⟩ := h.more; exact ⟨x, hU x hx, q⟩
  out D hD := by
    obtain ⟨⟨e, he, hne⟩, hk⟩ := h.out D hD
    exact ⟨⟨e, hR e he, hne⟩, hk⟩
end Go.Proofs.Ytfjomkjngolboaa.H

namespace Go.Proofs.Ytfjomkjngolboaa.H
open Go Go.RowKit Go.IntWalk Go.Proofs.Ytfjomkjngolboaa.Q Go.Proofs.YtfjomkjngolboaaW.PrintWords Go.Proofs.YtfjomkjngolboaaW.PrintMore
set_option linter.unusedVariables false
set_option linter.unusedSimpArgs false
/-- The partners as a function; outside the board there is none. -/
def ptn (p : List Int) (x : Int) : Int := if 0 ≤ x ∧ x < (p.length : Int) then rd p x else -1
theorem ptn_set (p : List Int) (d c : Int) (hd : 0 ≤ d ∧ d < (p.length : Int)) : ptn (p.set d.toNat c) = upd (ptn p) d c := by
  funext x
  show (if 0 ≤ x ∧ x < ((p.set d.toNat c).length : Int) then rd (p.set d.toNat c) x else -1) = if x = d then c else (if 0 ≤ x ∧ x < (p.length : Int) then rd p x else -1)
  rw [List.length_set]
  by_cases hx : 0 ≤ x ∧ x < (p.length : Int)
  · rw [if_pos hx, if_pos hx, rd_put p d c x hd hx.1]
  · rw [if_neg hx, if_neg hx, if_neg (fun e : x = d => hx (by rw [e]; exact hd))]
theorem seen_set (v : List Bool) (d : Int) (b : Bool) (hd : 0 ≤ d ∧ d < (v.length : Int)) (e : Int) (he : 0 ≤ e) : rdOf false (v.set d.toNat b) e = if e = d then b else rdOf false v e := by
  unfold rdOf
  rw [List.getD_eq_getElem?_getD, List.getElem?_set]
  by_cases h : e = d
  · subst h
    rw [if_pos rfl, if_pos rfl, if_pos (by omega)]
    rfl
  · have h1 : ¬ d.toNat = e.toNat := by omega
    rw [if_neg h, if_neg h1, ← List.getD_eq_getElem?_getD]
/-- The places of the board that were not seen. -/
def unseen (s : List Bool) (x : Int) : Prop := (0 ≤ x ∧ x < (s.length : Int)) ∧ rdOf false s x = false
theorem unseen_set (s : List Bool) (d : Int) (hd : 0 ≤ d ∧ d < (s.length : Int)) (x : Int) : unseen (s.set d.toNat true) x ↔ unseen s x ∧ x ≠ d := by
  unfold unseen
  rw [List.length_set]
  constructor
  · rintro ⟨h, q⟩
    rw [seen_set s d true hd x h.1] at q
    by_cases e : x = d
    · rw [if_pos e] at q; cases q
    · rw [if_neg e] at q; exact ⟨⟨h, q⟩, e⟩
  · rintro ⟨⟨h, q⟩, e⟩
    exact ⟨h, by rw [seen_set s d true hd x h.1, if_neg e]; exact q⟩
/-- How many were not seen. -/
def dark (s : List Bool) : Nat := s.countP fun b => !b
theorem dark_set (s : List Bool) (d : Int) (h : unseen s d) : dark (s.set d.toNat true) < dark s := by
  obtain ⟨⟨h0, h1⟩, q⟩ := h
  have hl : d.toNat < s.length := by omega
  have e : s[d.toNat] = false := by
    unfold rdOf at q
    rw [List.getD_eq_getElem?_getD, List.getElem?_eq_getElem hl] at q
    exact q
  unfold dark
  rw [List.countP_set hl]
  have : 0 < s.countP fun b => !b := List.countP_pos_iff.2 ⟨s[d.toNat], List.getElem_mem hl, by rw [e]; rfl⟩
  simp only [e]
  simp
  omega
section
variable {W H : Int} {L : List Int} {A B : Int}
theorem ptn_in (p : List Int) {d : Int} (h : 0 ≤ d ∧ d < (p.length : Int)) : ptn p d = rd p d := if_pos h
/-- What a search told: it found a place, or left all near cells seen. -/
def Told (G : Int → List Int) (s : List Bool) (p : List Int) (c : Int) (R : List Int) (r : Bool) (p' : List Int) (s' : List Bool) : Prop :=
  p'.length = p.length ∧ (s'.length = s.length ∧ dark s' ≤ dark s) ∧ (∀ x, unseen s' x → unseen s x) ∧ (r = true → Good G (unseen s) (ptn p) c R (ptn p')) ∧
  (r = false → p' = p ∧ (∀ d ∈ R, ¬ unseen s' d) ∧ ∀ d, unseen s d → ¬ unseen s' d → 0 ≤ ptn p d ∧ ∀ e ∈ G (ptn p d), ¬ unseen s' e)
theorem matched_ev (g : BoardM W H L) : ∀ (u : Nat) (s : List Bool) (p : List Int) (c : Int), dark s ≤ u → hasB W H L c = true → s.length = p.length → (p.length : Int) = W * H →
    (∀ x, 0 ≤ ptn p x → hasB W H L (ptn p x) = true) → (∀ x, unseen s x → ptn p x ≠ c) → (∀ x y, unseen s x → unseen s y → 0 ≤ ptn p x → ptn p x = ptn p y → x = y) →
    ∃ r p' s', Ev (fun k => impl_graph_matched.f k W H L A B (cellsM W H L) (nearM W H L A B) c p s) (r, p', s') ∧ Told (leapsM W H L A B) s p c (leapsM W H L A B c) r p' s' := by
  intro u
  induction u using Nat.strongRecOn with
  | _ u ih =>
  intro s p c hu hc hsp hp hv hno hi
  have hc0 : 0 ≤ c := (has_range hc).1
  have hn := near_in (A := A) (B := B) g hc
  have hl64 := leapsM_length g A B c
  have loop : ∀ (rest pre : List Int), leapsM W H L A B c = pre ++ rest → ∀ s2 : List Bool, dark s2 ≤ dark s → s2.length = s.length → (∀ x, unseen s2 x → unseen s x) →
      ∃ r p' s', Ev (fun k => impl_graph_matched.l0 k c p s2 (leapsM W H L A B c) ((leapsM W H L A B c).length : Int) (pre.length : Int) W H L A B (cellsM W H L) (nearM W H L A B)) (r, p', s') ∧ Told (leapsM W H L A B) s2 p c rest r p' s' := by
    intro rest
    induction rest with
    | nil =>
      intro pre hpre s2 hd2 hl2 hs2
      refine ⟨false, p, s2, ?_, rfl, ⟨rfl, Nat.le_refl _⟩, fun x h => h, (fun h => by cases h), fun _ => ⟨rfl, by simp, fun d h1 h2 => absurd h1 h2⟩⟩
      rw [hpre, List.append_nil]
      exact Ev.step (fun k => by rw [impl_graph_matched.l0, if_neg (nlt_end pre)]) (Ev.now _)
    | cons d r ihr =>
      intro pre hpre s2 hd2 hl2 hs2
      have hdm : d ∈ leapsM W H L A B c := by rw [hpre]; simp
      have hdr := has_range (leapsM_has hdm)
      have hdp : 0 ≤ d ∧ d < (p.length : Int) := by omega
      have hds : 0 ≤ d ∧ d < (s2.length : Int) := by rw [hl2, hsp]; exact hdp
      have hlen : pre.length ≤ 63 := by rw [hpre] at hl64; simp at hl64; omega
      have h4 : (0 : Int) ≤ (pre.length : Int) := by omega
      have next : ∀ s3 : List Bool, dark s3 ≤ dark s → s3.length = s.length → (∀ x, unseen s3 x → unseen s x) → ∃ r' p' s', Ev (fun k => impl_graph_matched.l0 k c p s3 (pre ++ d :: r) ((pre ++ d :: r).length : Int) ((pre.length + 1 : Nat) : Int) W H L A B (cellsM W H L) (nearM W H L A B)) (r', p', s') ∧ Told (leapsM W H L A B) s3 p c r r' p' s' := by
        intro s3 h1 h2 h3
        have := ihr (pre ++ [d]) (by rw [hpre]; simp) s3 h1 h2 h3
        rw [hpre] at this
        simpa using this
      rw [hpre]
      cases hseen : rdOf false s2 d with
      | true =>
        obtain ⟨b, p', s', hev, t1, t2, t3, t4, t5⟩ := next s2 hd2 hl2 hs2
        refine ⟨b, p', s', Ev.step (fun k => by rw [impl_graph_matched.l0, if_pos (lt_mid pre d r), if_pos h4, if_pos (lt_mid pre d r), rd_mid, if_pos hds.1, if_pos hds.2, if_pos hseen, w_succ (by omega)]) hev, t1, t2, t3, fun h => (t4 h).wide (fun x h => h) (fun x h => List.mem_cons_of_mem _ h) (fun x h => hno x (hs2 x h)) (fun x y h1 h2 => hi x y (hs2 x h1) (hs2 y h2)), fun h => ?_⟩
        obtain ⟨q1, q2, q3⟩ := t5 h
        refine ⟨q1, fun e he => ?_, q3⟩
        rcases List.mem_cons.1 he with rfl | he
        · intro hx
          have := (t3 _ hx).2
          rw [hseen] at this; cases this
        · exact q2 e he
      | false =>
        have hun : unseen s2 d := ⟨hds, hseen⟩
        have hdk := dark_set s2 d hun
        have hset := unseen_set s2 d hds
        have hns : ¬ rdOf false s2 d = true := by rw [hseen]; decide
        have start : ∀ k, impl_graph_matched.l0 (k + 1) c p s2 (pre ++ d :: r) ((pre ++ d :: r).length : Int) (pre.length : Int) W H L A B (cellsM W H L) (nearM W H L A B) =
            (if rd p d < 0 then (some (true, (p.set (d : Int).toNat c), s2.set d.toNat true)) else ((impl_graph_matched.f k W H L A B (cellsM W H L) (nearM W H L A B) (rd p d) p (s2.set d.toNat true)).bind fun bt651 => (if bt651.1 = true then (some (true, (bt651.2.1.set (d : Int).toNat c), bt651.2.2)) else (impl_graph_matched.l0 k c bt651.2.1 bt651.2.2 (pre ++ d :: r) ((pre ++ d :: r).length : Int) (wrap64 ((pre.length : Int) + 1)) W H L A B (cellsM W H L) (nearM W H L A B))))) := by
          intro k
          rw [impl_graph_matched.l0, if_pos (lt_mid pre d r), if_pos h4, if_pos (lt_mid pre d r), rd_mid, if_pos hds.1, if_pos hds.2, if_neg hns, Option.bind_some, if_pos hdp.2]
        by_cases hneg : rd p d < 0
        · refine ⟨true, p.set d.toNat c, s2.set d.toNat true, Ev.step (fun k => by rw [start k, if_pos hneg]) (Ev.now _), by simp, ⟨by simp, by omega⟩, fun x h => ((hset x).1 h).1, fun _ => ?_, fun h => by cases h⟩
          rw [ptn_set p d c hdp]
          exact Good.base hc0 hun (List.mem_cons_self ..) hdm (by rw [ptn_in p hdp]; exact hneg) (fun x h => hno x (hs2 x h)) (fun x y h1 h2 => hi x y (hs2 x h1) (hs2 y h2))
        · have hpd : 0 ≤ ptn p d := by rw [ptn_in p hdp]; omega
          have hsub : ∀ x, unseen (s2.set d.toNat true) x → unseen s x := fun x h => hs2 x ((hset x).1 h).1
          obtain ⟨b, p1, s1, hev, t1, t2, t3, t4, t5⟩ := ih (dark (s2.set d.toNat true)) (by omega) (s2.set d.toNat true) p (ptn p d) (Nat.le_refl _) (hv d hpd) (by simp; omega) hp hv
            (fun x h e => by
              have h2 := (hset x).1 h
              exact h2.2 (hi x d (hs2 x h2.1) (hs2 d hun) (by rw [e]; exact hpd) e)) (fun x y h1 h2 => hi x y (hsub x h1) (hsub y h2))
          rw [ptn_in p hdp] at hev
          cases b with
          | true =>
            refine ⟨true, p1.set d.toNat c, s1, Ev.step (fun k => by rw [start k, if_neg hneg]) (Ev.bind hev ?_), by simpa using t1, ⟨by simpa using t2.1, by have := t2.2; omega⟩, fun x h => ((hset x).1 (t3 x h)).1, fun _ => ?_, fun h => by cases h⟩
            · simp only [if_true]
              exact Ev.now _
            · rw [ptn_set p1 d c (by rw [t1]; exact hdp)]
              exact Good.step hc0 hun hset (List.mem_cons_self ..) hdm hpd (fun x h => hno x (hs2 x h)) (t4 rfl)
          | false =>
            obtain ⟨q1, q2, q3⟩ := t5 rfl
            subst q1
            have hdk1 : dark s1 ≤ dark s := by have := t2.2; omega
            obtain ⟨b, p', s', hev2, v1, v2, v3, v4, v5⟩ := next s1 hdk1 (by rw [t2.1]; simp; exact hl2) (fun x h => hsub x (t3 x h))
            refine ⟨b, p', s', Ev.step (fun k => by rw [start k, if_neg hneg]) (Ev.bind hev ?_), v1, ⟨by rw [v2.1, t2.1]; simp, by have := v2.2; have := t2.2; omega⟩, fun x h => ((hset x).1 (t3 x (v3 x h))).1, fun h => ?_, fun h => ?_⟩
            · simp only [Bool.false_eq_true, if_false, w_succ (show pre.length ≤ 4611686018427387904 by omega)]
              exact hev2
            · exact (v4 h).wide (fun x h => ((hset x).1 (t3 x h)).1) (fun x h => List.mem_cons_of_mem _ h) (fun x h => hno x (hs2 x h)) (fun x y h1 h2 => hi x y (hs2 x h1) (hs2 y h2))
            · obtain ⟨w1, w2, w3⟩ := v5 h
              refine ⟨w1, fun e he => ?_, fun x h1 h2 => ?_⟩
              · rcases List.mem_cons.1 he with rfl | he
                · intro hx
                  exact ((hset _).1 (t3 _ (v3 _ hx))).2 rfl
                · exact w2 e he
              · by_cases k1 : unseen s1 x
                · exact w3 x k1 h2
                · by_cases k2 : x = d
                  · subst k2
                    exact ⟨hpd, fun e he hx => q2 e he (v3 e hx)⟩
                  · obtain ⟨z1, z2⟩ := q3 x ((hset x).2 ⟨h1, k2⟩) k1
                    exact ⟨z1, fun e he hx => z2 e he (v3 e hx)⟩
  obtain ⟨b, p', s', hev, t⟩ := loop (leapsM W H L A B c) [] rfl s (Nat.le_refl _) rfl (fun x h => h)
  refine ⟨b, p', s', ?_, t⟩
  refine Ev.step (fun k => by rw [impl_graph_matched.f, if_pos hn.1, if_pos hn.2, near_at hc]; rfl) hev
end
end Go.Proofs.Ytfjomkjngolboaa.H

namespace Go.Proofs.Ytfjomkjngolboaa.H
set_option linter.unusedVariables false
/-- What the loop over cells keeps: partners are near and of the first side, no two alike; the taken places are counted; each done cell has a place, or all near ones lie in a closed set of taken places. -/
structure Mates (G : Int → List Int) (In : Int → Prop) (side : Int → Bool) (done : List Int) (P : Int → Int) (T : List Int) (D : Int → Prop) : Prop where
  adj : ∀ d, 0 ≤ P d → In d ∧ d ∈ G (P d) ∧ P d ∈ done ∧ side (P d) = false
  inj : ∀ d e, 0 ≤ P d → P d = P e → d = e
  shut : ∀ d, D d → 0 ≤ P d ∧ ∀ e ∈ G (P d), D e
  had : ∀ x ∈ done, side x = false → (∃ d, P d = x) ∨ ∀ e ∈ G x, D e
  nd : T.Nodup
  cnt : ∀ d, d ∈ T ↔ 0 ≤ P d
theorem Mates.skip {G : Int → List Int} {In : Int → Prop} {side : Int → Bool} {done : List Int} {P : Int → Int} {T : List Int} {D : Int → Prop} (k : Mates G In side done P T D) {c : Int} (h : side c = true) : Mates G In side (done ++ [c]) P T D where
  adj d hd := by obtain ⟨a, b, e, f⟩ := k.adj d hd; exact ⟨a, b, List.mem_append_left _ e, f⟩
  inj := k.inj
  shut := k.shut
  had x hx hs := by
    rcases List.mem_append.1 hx with hx | hx
    · exact k.had x hx hs
    · obtain rfl : x = c := by simpa using hx
      rw [h] at hs; cases hs
  nd := k.nd
  cnt := k.cnt
theorem Mates.take {G : Int → List Int} {In U : Int → Prop} {side : Int → Bool} {done : List Int} {P P' : Int → Int} {T : List Int} {D : Int → Prop} (k : Mates G In side done P T D) {c : Int} {R : List Int}
    (hc : side c = false) (hd0 : ∀ x ∈ done, 0 ≤ x) (hin : ∀ d, 0 ≤ P d → U d) (hin' : ∀ d, 0 ≤ P' d → U d) (hGI : ∀ x y, y ∈ G x → In y) (h : Good G U P c R P') : ∃ T' : List Int, T'.length = T.length + 1 ∧ Mates G In side (done ++ [c]) P' T' D := by
  obtain ⟨x, hx, hx1, hx2, hx3⟩ := h.more
  have hout := (h.out D k.shut).2
  have old : ∀ d, 0 ≤ P' d → P' d = c ∨ ∃ e, 0 ≤ P e ∧ P e = P' d := fun d hd => by
    rcases h.vals d (hin' d hd) hd with q | ⟨e, he, q⟩
    · exact .inl q
    · exact .inr ⟨e, by rw [q]; exact hd, q⟩
  refine ⟨x :: T, by simp, ?_, ?_, ?_, ?_, ?_, ?_⟩
  · intro d hd
    have hb : P' d ∈ done ++ [c] ∧ side (P' d) = false := by
      rcases old d hd with q | ⟨e, he, q⟩
      · rw [q]; exact ⟨by simp, hc⟩
      · have := k.adj e he
        rw [q] at this
        exact ⟨List.mem_append_left _ this.2.2.1, this.2.2.2⟩
    have hg : d ∈ G (P' d) := by
      rcases h.adj d hd with q | q
      · rw [q]; exact (k.adj d (by rw [← q]; exact hd)).2.1
      · exact q
    exact ⟨hGI _ _ hg, hg, hb⟩
  · exact fun d e hd q => h.inj d e (hin' d hd) (hin' e (by rw [← q]; exact hd)) hd q
  · intro d hd
    have := hout d hd
    rw [this]
    exact k.shut d hd
  · intro y hy hs
    rcases List.mem_append.1 hy with hy | hy
    · rcases k.had y hy hs with ⟨d, hd⟩ | q
      · have h0 : 0 ≤ P d := by rw [hd]; exact hd0 y hy
        obtain ⟨d', _, q⟩ := h.old d (hin d h0) h0
        exact .inl ⟨d', by rw [q, hd]⟩
      · exact .inr q
    · obtain rfl : y = c := by simpa using hy
      obtain ⟨d, _, q⟩ := h.own
      exact .inl ⟨d, q⟩
  · rw [List.nodup_cons]
    refine ⟨fun hm => ?_, k.nd⟩
    have := (k.cnt x).1 hm
    omega
  · intro d
    rw [List.mem_cons]
    by_cases e : d = x
    · subst e; exact ⟨fun _ => hx2, fun _ => .inl rfl⟩
    · rw [hx3 d e, ← k.cnt d]
      exact ⟨fun q => q.elim (fun z => absurd z e) (fun z => z), fun q => .inr q⟩
theorem Mates.fail {G : Int → List Int} {In U U' : Int → Prop} {side : Int → Bool} {done : List Int} {P : Int → Int} {T : List Int} {D : Int → Prop} (k : Mates G In side done P T D) {c : Int}
    (hc : ∀ d ∈ G c, U d) (hG : ∀ d, 0 ≤ P d → ∀ e ∈ G (P d), U e) (h1 : ∀ d ∈ G c, ¬ U' d) (h2 : ∀ d, U d → ¬ U' d → 0 ≤ P d ∧ ∀ e ∈ G (P d), ¬ U' e) :
    Mates G In side (done ++ [c]) P T (fun x => D x ∨ (U x ∧ ¬ U' x)) where
  adj d hd := by obtain ⟨a, b, e, f⟩ := k.adj d hd; exact ⟨a, b, List.mem_append_left _ e, f⟩
  inj := k.inj
  shut d hd := by
    rcases hd with hd | ⟨a, b⟩
    · obtain ⟨q1, q2⟩ := k.shut d hd
      exact ⟨q1, fun e he => .inl (q2 e he)⟩
    · obtain ⟨q1, q2⟩ := h2 d a b
      exact ⟨q1, fun e he => .inr ⟨hG d q1 e he, q2 e he⟩⟩
  had x hx hs := by
    rcases List.mem_append.1 hx with hx | hx
    · rcases k.had x hx hs with q | q
      · exact .inl q
      · exact .inr fun e he => .inl (q e he)
    · obtain rfl : x = c := by simpa using hx
      exact .inr fun e he => .inr ⟨hc e he, h1 e he⟩
  nd := k.nd
  cnt := k.cnt
theorem Mates.most {G : Int → List Int} {In : Int → Prop} {side : Int → Bool} {done : List Int} {P : Int → Int} {T : List Int} {D : Int → Prop} (k : Mates G In side done P T D)
    (sym : ∀ x y, In x → In y → (y ∈ G x ↔ x ∈ G y)) (hall : ∀ x, In x → x ∈ done) (hdone : ∀ x ∈ done, In x ∧ 0 ≤ x) (hG : ∀ x, In x → ∀ y ∈ G x, In y) (hside : ∀ x y, In x → In y → y ∈ G x → side x ≠ side y) :
    Most (fun x y => In x ∧ In y ∧ y ∈ G x) In T.length := by
  refine kuhn_most (adj := fun x y => In x ∧ In y ∧ y ∈ G x) (S := In) (side := side) (partner := fun d => if 0 ≤ P d then some (P d) else none) (P := T) (D := D)
    (fun x y h => ⟨h.2.1, h.1, (sym x y h.1 h.2.1).1 h.2.2⟩) (fun x y hx hy h => hside x y hx hy h.2.2) k.nd (fun d => ?_) (fun d x h => ?_) (fun d e x h1 h2 => ?_) (fun d hd => ?_) (fun x hx hs => ?_)
  · rw [k.cnt d]
    constructor
    · intro h; exact ⟨P d, if_pos h⟩
    · rintro ⟨x, hx⟩
      by_cases h : 0 ≤ P d
      · exact h
      · rw [if_neg h] at hx; cases hx
  · by_cases h0 : 0 ≤ P d
    · rw [if_pos h0] at h
      cases h
      obtain ⟨a, b, e, f⟩ := k.adj d h0
      exact ⟨a, (hdone _ e).1, ⟨(hdone _ e).1, a, b⟩, f⟩
    · rw [if_neg h0] at h; cases h
  · by_cases h0 : 0 ≤ P d
    · rw [if_pos h0] at h1
      by_cases h3 : 0 ≤ P e
      · rw [if_pos h3] at h2
        cases h1
        injection h2 with h2
        exact k.inj d e h0 h2.symm
      · rw [if_neg h3] at h2; cases h2
    · rw [if_neg h0] at h1; cases h1
  · obtain ⟨h0, h1⟩ := k.shut d hd
    exact ⟨P d, if_pos h0, fun e he ha => h1 e ha.2.2⟩
  · rcases k.had x (hall x hx) hs with ⟨d, hd⟩ | h
    · exact .inl ⟨d, by rw [hd, if_pos (hdone x (hall x hx)).2]⟩
    · exact .inr fun e he ha => h e ha.2.2
/-- The greatest number goes over from cells to their places. -/
theorem Most.over {α β : Type} [DecidableEq α] [DecidableEq β] {adj : α → α → Prop} {S : α → Prop} {adj' : β → β → Prop} {T : β → Prop} {n : Nat} {f : β → α} {g : α → β}
    (hf : ∀ y, T y → S (f y) ∧ g (f y) = y) (hg : ∀ x, S x → T (g x) ∧ f (g x) = x) (ha : ∀ y z, T y → T z → (adj' y z ↔ adj (f y) (f z))) (h : Most adj S n) : Most adj' T n := by
  obtain ⟨⟨M, hM, hl⟩, hu⟩ := h
  have gi : ∀ x y, S x → S y → g x = g y → x = y := fun x y hx hy e => by rw [← (hg x hx).2, e, (hg y hy).2]
  have fi : ∀ x y, T x → T y → f x = f y → x = y := fun x y hx hy e => by rw [← (hf x hx).2, e, (hf y hy).2]
  constructor
  · refine ⟨M.map fun p => (g p.1, g p.2), ⟨fun p hp => ?_, ?_⟩, by rw [List.length_map, hl]⟩
    · obtain ⟨q, hq, rfl⟩ := List.mem_map.1 hp
      obtain ⟨h1, h2, h3, h4⟩ := hM.1 q hq
      refine ⟨(ha _ _ (hg _ h2).1 (hg _ h3).1).2 (by rw [(hg _ h2).2, (hg _ h3).2]; exact h1), (hg _ h2).1, (hg _ h3).1, fun e => h4 (gi _ _ h2 h3 e)⟩
    · rw [List.pairwise_map]
      refine List.Pairwise.imp_of_mem (fun {p q} hp hq hpq => ?_) hM.2
      obtain ⟨_, h2, h3, _⟩ := hM.1 p hp
      obtain ⟨_, k2, k3, _⟩ := hM.1 q hq
      exact ⟨fun e => hpq.1 (gi _ _ h2 k2 e), fun e => hpq.2.1 (gi _ _ h2 k3 e), fun e => hpq.2.2.1 (gi _ _ h3 k2 e), fun e => hpq.2.2.2 (gi _ _ h3 k3 e)⟩
  · intro M' hM'
    have := hu (M'.map fun p => (f p.1, f p.2)) ⟨fun p hp => ?_, ?_⟩
    · simpa using this
    · obtain ⟨q, hq, rfl⟩ := List.mem_map.1 hp
      obtain ⟨h1, h2, h3, h4⟩ := hM'.1 q hq
      exact ⟨(ha _ _ h2 h3).1 h1, (hf _ h2).1, (hf _ h3).1, fun e => h4 (fi _ _ h2 h3 e)⟩
    · rw [List.pairwise_map]
      refine List.Pairwise.imp_of_mem (fun {p q} hp hq hpq => ?_) hM'.2
      obtain ⟨_, h2, h3, _⟩ := hM'.1 p hp
      obtain ⟨_, k2, k3, _⟩ := hM'.1 q hq
      exact ⟨fun e => hpq.1 (fi _ _ h2 k2 e), fun e => hpq.2.1 (fi _ _ h2 k3 e), fun e => hpq.2.2.1 (fi _ _ h3 k2 e), fun e => hpq.2.2.2 (fi _ _ h3 k3 e)⟩
end Go.Proofs.Ytfjomkjngolboaa.H

namespace Go.Proofs.Ytfjomkjngolboaa.H
open Go Go.Proofs.YtfjomkjngolboaaW.PrintWords
set_option linter.unusedVariables false
theorem wrap_small {n : Nat} (h : n < 65536) : IntKind.wrap .i64 (n : Int) = (n : Int) := by
  have h1 : IntKind.bits .i64 = 64 := rfl
  have h2 : IntKind.signed .i64 = true := rfl
  unfold IntKind.wrap
  rw [h1, h2]
  have h3 : (n : Int) % 2 ^ 64 = n := Int.emod_eq_of_lt (by omega) (by omega)
  have h5 : (2 : Int) ^ (64 - 1) = 9223372036854775808 := by decide
  have h4 : ¬ ((n : Int) ≥ 2 ^ (64 - 1)) := by rw [h5]; omega
  show (if (true && decide ((n : Int) % 2 ^ 64 ≥ 2 ^ (64 - 1))) = true then (n : Int) % 2 ^ 64 - 2 ^ 64 else (n : Int) % 2 ^ 64) = (n : Int)
  rw [h3, decide_eq_false h4]
  rfl
theorem pow_small {i : Nat} (h : i < 16) : 2 ^ i < 65536 := Nat.lt_of_lt_of_le (Nat.pow_lt_pow_right (by decide) h) (by decide)
theorem shl_one {i : Nat} (h : i < 16) : shl .i64 1 (i : Int) = ((2 ^ i : Nat) : Int) := by
  have h1 : IntKind.bits .i64 = 64 := rfl
  unfold shl
  rw [h1, Int.toNat_natCast, Nat.min_eq_left (by omega), Int.one_mul]
  have : ((2 : Int) ^ i) = ((2 ^ i : Nat) : Int) := by norm_cast
  rw [this]
  exact wrap_small (pow_small h)
theorem shr_bit (m : Nat) {i : Nat} (h : i < 16) : Int.tmod (shr .i64 (m : Int) (i : Int)) 2 = if m.testBit i then 1 else 0 := by
  have h1 : IntKind.bits .i64 = 64 := rfl
  unfold shr
  rw [h1, Int.toNat_natCast, Nat.min_eq_left (by omega)]
  have e : (m : Int) / 2 ^ i = ((m / 2 ^ i : Nat) : Int) := by norm_cast
  rw [e, Int.tmod_eq_emod_of_nonneg (Int.natCast_nonneg _), Nat.testBit_eq_decide_div_mod_eq]
  have : ((m / 2 ^ i : Nat) : Int) % 2 = ((m / 2 ^ i % 2 : Nat) : Int) := by norm_cast
  rw [this]
  rcases Nat.mod_two_eq_zero_or_one (m / 2 ^ i) with h | h <;> simp [h]
/-- A mask without one bit. -/
def clr (m i : Nat) : Nat := (BitVec.ofNat 64 m &&& ~~~ BitVec.ofNat 64 (2 ^ i)).toNat
theorem clr_le (m i : Nat) (h : m < 65536) : clr m i < 65536 := by
  unfold clr
  rw [BitVec.toNat_and]
  refine Nat.lt_of_le_of_lt Nat.and_le_left ?_
  rw [BitVec.toNat_ofNat]
  omega
theorem clr_bit (m i j : Nat) (h : m < 65536) (hj : j < 16) : (clr m i).testBit j = (m.testBit j && decide (j ≠ i)) := by
  unfold clr
  rw [BitVec.toNat_and, Nat.testBit_and, BitVec.toNat_ofNat, Nat.mod_eq_of_lt (by omega)]
  congr 1
  rw [BitVec.testBit_toNat, BitVec.getLsbD_not]
  have : BitVec.getLsbD (BitVec.ofNat 64 (2 ^ i)) j = decide (i = j) := by
    rw [BitVec.getLsbD_ofNat, Nat.testBit_two_pow]
    simp; omega
  rw [this]
  have : j < 64 := by omega
  simp [this]
  exact eq_comm
theorem andNot_bit {m i : Nat} (h : m < 65536) (hi : i < 16) : Go.bits .andNot .i64 (m : Int) (shl .i64 1 (i : Int)) = ((clr m i : Nat) : Int) := by
  rw [shl_one hi]
  unfold Go.bits
  have h1 : IntKind.bits .i64 = 64 := rfl
  have e : ∀ n : Nat, BitVec.ofInt (IntKind.bits .i64) (n : Int) = BitVec.ofNat 64 n := fun n => BitVec.ofInt_natCast 64 n
  simp only [e]
  exact wrap_small (clr_le m i h)
theorem or_lt {m j : Nat} (h : m < 65536) (hj : j < 16) : m ||| 2 ^ j < 65536 := Nat.or_lt_two_pow (n := 16) h (pow_small hj)
theorem or_bit {m j : Nat} (h : m < 65536) (hj : j < 16) : Go.bits .or .i64 (m : Int) (shl .i64 1 (j : Int)) = ((m ||| 2 ^ j : Nat) : Int) := by
  rw [shl_one hj]
  unfold Go.bits
  have e : ∀ n : Nat, BitVec.ofInt (IntKind.bits .i64) (n : Int) = BitVec.ofNat 64 n := fun n => BitVec.ofInt_natCast 64 n
  simp only [e]
  have e2 : (BitVec.ofNat 64 m ||| BitVec.ofNat 64 (2 ^ j)).toNat = m ||| 2 ^ j := by
    have := pow_small hj
    rw [BitVec.toNat_or, BitVec.toNat_ofNat, BitVec.toNat_ofNat, Nat.mod_eq_of_lt (by omega), Nat.mod_eq_of_lt (by omega)]
  show IntKind.wrap .i64 (((BitVec.ofNat 64 m ||| BitVec.ofNat 64 (2 ^ j)).toNat : Nat) : Int) = _
  rw [e2]
  exact wrap_small (or_lt h hj)
theorem or_test (m j x : Nat) : (m ||| 2 ^ j).testBit x = (m.testBit x || decide (j = x)) := by rw [Nat.testBit_or, Nat.testBit_two_pow]
end Go.Proofs.Ytfjomkjngolboaa.H

namespace Go.Proofs.Ytfjomkjngolboaa.H
open Go Go.RowKit Go.IntWalk Go.Proofs.Ytfjomkjngolboaa.Q Go.Proofs.YtfjomkjngolboaaW.PrintWords Go.Proofs.YtfjomkjngolboaaW.PrintMore
set_option linter.unusedVariables false
set_option linter.unusedSimpArgs false
theorem clr_lt {m i : Nat} (h : m < 65536) (hi : i < 16) (hb : m.testBit i = true) : clr m i < m := by
  have h1 : clr m i ≤ m := by
    unfold clr
    rw [BitVec.toNat_and, BitVec.toNat_ofNat, Nat.mod_eq_of_lt (by omega)]
    exact Nat.and_le_left
  refine Nat.lt_of_le_of_ne h1 (fun e => ?_)
  have h2 := clr_bit m i i h hi
  rw [e, hb] at h2
  simp at h2
/-- The cells of a mask. -/
def Bits (n m : Nat) (x : Nat) : Prop := x < n ∧ m.testBit x = true
theorem bits_clr {n m i : Nat} (hn : n ≤ 16) (h : m < 65536) (x : Nat) : Bits n (clr m i) x ↔ (Bits n m x ∧ x ≠ i) := by
  unfold Bits
  constructor
  · rintro ⟨h1, h2⟩
    rw [clr_bit m i x h (by omega)] at h2
    simp at h2
    exact ⟨⟨h1, h2.1⟩, h2.2⟩
  · rintro ⟨⟨h1, h2⟩, h3⟩
    refine ⟨h1, ?_⟩
    rw [clr_bit m i x h (by omega)]
    simp [h2, h3]
theorem Most.congr {α : Type} [DecidableEq α] {adj : α → α → Prop} {S T : α → Prop} {n : Nat} (h : Most adj S n) (e : ∀ x, S x ↔ T x) : Most adj T n := by
  have : S = T := funext fun x => propext (e x)
  rw [← this]
  exact h
theorem l1Most_nat (a b : Nat) : spec_l1Most.f (a : Int) (b : Int) = some ((max a b : Nat) : Int) := by
  unfold spec_l1Most.f
  split <;> congr 1 <;> omega
theorem most_len {n m r : Nat} {near : Nat → Nat → Prop} (h : Most near (Bits n m) r) : r ≤ n := by
  obtain ⟨⟨M, hM, rfl⟩, _⟩ := h
  have hn : (M.map (·.1)).Nodup := by
    rw [List.Nodup, List.pairwise_map]
    exact hM.2.imp (fun h => h.1)
  have := length_le_of_in (M.map (·.1)) (List.range n) hn (fun x hx => by
    obtain ⟨p, hp, rfl⟩ := List.mem_map.1 hx
    exact List.mem_range.2 (hM.1 p hp).2.1.1)
  simpa using this
/-- The reference's search tells the greatest number of pairs of a mask's cells. -/
theorem guPairs_ev {C N : List Int} {near : Nat → Nat → Prop} (sym : ∀ x y, near x y → near y x) (hC : C.length ≤ 16) (hN : N.length = C.length)
    (hb : ∀ i j, i < C.length → j < C.length → i ≠ j → ∃ a : Nat, rd N (i : Int) = (a : Int) ∧ (a.testBit j = true ↔ near i j)) :
    ∀ M m : Nat, m ≤ M → m < 65536 → ∃ r : Nat, Most near (Bits C.length m) r ∧ Ev (fun k => spec_guPairs.f k C N (m : Int)) (r : Int) := by
  intro M
  induction M using Nat.strongRecOn with
  | _ M ih =>
  intro m hmM hm
  have loop : ∀ n i : Nat, n + i = C.length → (∀ x, x < i → m.testBit x = false) → ∃ r : Nat, Most near (Bits C.length m) r ∧ Ev (fun k => spec_guPairs.l0 k (m : Int) (i : Int) C N) (r : Int) := by
    intro n
    induction n with
    | zero =>
      intro i hi hz
      refine ⟨0, most_none (fun x hx => ?_), ?_⟩
      · have := hz x (by have := hx.1; omega)
        rw [hx.2] at this; cases this
      · have e : ¬ ((i : Int) < (C.length : Int)) := by omega
        have e2 : (i : Int) = (C.length : Int) := by omega
        refine Ev.step (fun k => by rw [spec_guPairs.l0, if_neg e]) (Ev.step (fun k => by rw [spec_guPairs.j1, if_pos e2]; rfl) (Ev.now _))
    | succ n ihn =>
      intro i hi hz
      have e : (i : Int) < (C.length : Int) := by omega
      have e0 : (0 : Int) ≤ (i : Int) := by omega
      have i16 : i < 16 := by omega
      cases hbit : m.testBit i with
      | false =>
        obtain ⟨r, h1, h2⟩ := ihn (i + 1) (by omega) (fun x hx => by
          by_cases h : x = i
          · rw [h]; exact hbit
          · exact hz x (by omega))
        refine ⟨r, h1, Ev.step (fun k => by rw [spec_guPairs.l0, if_pos e, if_pos e0, shr_bit m i16, hbit, w_succ (by omega)]) ?_⟩
        simpa using h2
      | true =>
        have hc := clr_lt hm i16 hbit
        have hcl := clr_le m i hm
        have hS : Bits C.length m i := ⟨by omega, hbit⟩
        obtain ⟨n0, h0, hev0⟩ := ih (clr m i) (by omega) (clr m i) (Nat.le_refl _) hcl
        -- the numbers with a mate
        have mates : ∀ j, Bits C.length m j → j ≠ i → near i j → ∃ r : Nat, Most near (fun x => Bits C.length m x ∧ x ≠ i ∧ x ≠ j) r ∧ Ev (fun k => spec_guPairs.f k C N ((clr (clr m i) j : Nat) : Int)) (r : Int) := by
          intro j hj hji hn
          have hcj : (clr m i).testBit j = true := ((bits_clr hC hm j).2 ⟨hj, hji⟩).2
          have hlt := clr_lt hcl (by have := hj.1; omega) hcj
          obtain ⟨r, h1, h2⟩ := ih (clr (clr m i) j) (by omega) (clr (clr m i) j) (Nat.le_refl _) (clr_le _ _ hcl)
          exact ⟨r, h1.congr (fun x => by rw [bits_clr hC hcl, bits_clr hC hm, and_assoc]), h2⟩
        have h0' : Most near (fun x => Bits C.length m x ∧ x ≠ i) n0 := h0.congr (fun x => bits_clr hC hm x)
        -- the loop over mates
        have inner : ∀ n j b : Nat, n + j = C.length → i < j → b ≤ 16 → n0 ≤ b → (∀ x r, x < j → Bits C.length m x → x ≠ i → near i x → Most near (fun y => Bits C.length m y ∧ y ≠ i ∧ y ≠ x) r → 1 + r ≤ b) →
            (b = n0 ∨ ∃ x r, Bits C.length m x ∧ x ≠ i ∧ near i x ∧ Most near (fun y => Bits C.length m y ∧ y ≠ i ∧ y ≠ x) r ∧ b = 1 + r) →
            ∃ r : Nat, Most near (Bits C.length m) r ∧ Ev (fun k => spec_guPairs.l1 k ((clr m i : Nat) : Int) (i : Int) (b : Int) (j : Int) C N) (r : Int) := by
          intro n
          induction n with
          | zero =>
            intro j b hj hij hb16 hb0 hbx hbe
            have e3 : ¬ ((j : Int) < (C.length : Int)) := by omega
            refine ⟨b, ?_, Ev.step (fun k => by rw [spec_guPairs.l1, if_neg e3]) (Ev.now _)⟩
            classical
            refine most_step sym (f := fun x => if h : Bits C.length m x ∧ x ≠ i ∧ near i x then (mates x h.1 h.2.1 h.2.2).choose else 0) hS h0' ?_ hb0 ?_ ?_
            · intro x h1 h2 h3
              show Most near _ (dite _ _ _)
              rw [dif_pos ⟨h1, h2, h3⟩]
              exact (mates x h1 h2 h3).choose_spec.1
            · intro x h1 h2 h3
              show 1 + dite _ _ _ ≤ b
              rw [dif_pos ⟨h1, h2, h3⟩]
              exact hbx x _ (by have := h1.1; omega) h1 h2 h3 (mates x h1 h2 h3).choose_spec.1
            · rcases hbe with h | ⟨x, r, h1, h2, h3, h4, h5⟩
              · exact Or.inl h
              · refine Or.inr ⟨x, h1, h2, h3, ?_⟩
                show b = 1 + dite _ _ _
                rw [dif_pos ⟨h1, h2, h3⟩, h5, h4.eq (mates x h1 h2 h3).choose_spec.1]
          | succ n ihj =>
            intro j b hj hij hb16 hb0 hbx hbe
            have e3 : (j : Int) < (C.length : Int) := by omega
            have e4 : (0 : Int) ≤ (j : Int) := by omega
            have j16 : j < 16 := by omega
            have e5 : (i : Int) < (N.length : Int) := by omega
            obtain ⟨a, ha, hat⟩ := hb i j (by omega) (by omega) (by omega)
            have skip : ¬ (Bits C.length m j ∧ near i j) → ∃ r : Nat, Most near (Bits C.length m) r ∧ Ev (fun k => spec_guPairs.l1 k ((clr m i : Nat) : Int) (i : Int) (b : Int) ((j + 1 : Nat) : Int) C N) (r : Int) := by
              intro hno
              refine ihj (j + 1) b (by omega) (by omega) hb16 hb0 (fun x r hx h1 h2 h3 h4 => ?_) hbe
              by_cases hxj : x = j
              · subst hxj; exact absurd ⟨h1, h3⟩ hno
              · exact hbx x r (by omega) h1 h2 h3 h4
            cases hcb : (clr m i).testBit j with
            | false =>
              obtain ⟨r, h1, h2⟩ := skip (fun h => by
                have hne : j ≠ i := by omega
                have := ((bits_clr (i := i) hC hm j).2 ⟨h.1, hne⟩).2
                rw [hcb] at this; cases this)
              refine ⟨r, h1, Ev.step (fun k => by rw [spec_guPairs.l1, if_pos e3, if_pos e4, shr_bit _ j16, hcb]) (Ev.step (fun k => by rw [if_neg (by decide), spec_guPairs.j3, w_succ (by omega)]) ?_)⟩
              simpa using h2
            | true =>
              have hSj : Bits C.length m j := ((bits_clr hC hm j).1 ⟨by omega, hcb⟩).1
              cases hab : a.testBit j with
              | false =>
                obtain ⟨r, h1, h2⟩ := skip (fun h => by have := hat.2 h.2; rw [hab] at this; cases this)
                refine ⟨r, h1, Ev.step (fun k => by rw [spec_guPairs.l1, if_pos e3, if_pos e4, shr_bit _ j16, hcb, if_pos rfl, if_pos e0, if_pos e5, ha, shr_bit _ j16, hab]) (Ev.step (fun k => by rw [spec_guPairs.j3, w_succ (by omega)]) ?_)⟩
                simpa using h2
              | true =>
                have hnear := hat.1 hab
                obtain ⟨r, hr, hrev⟩ := mates j hSj (by omega) hnear
                have hq : ((if true = true then (1 : Int) else 0) == 1) = true := by decide
                have hr16 : r ≤ 16 := by
                  have := most_len (hr.congr (T := Bits C.length (clr (clr m i) j)) (fun x => by rw [bits_clr hC hcl, bits_clr hC hm, and_assoc]))
                  omega
                have hr15 : 1 + r ≤ 16 := by
                  obtain ⟨⟨Q, hQ, hl⟩, _⟩ := hr
                  have hq : Match near (Bits C.length m) ((i, j) :: Q) := by
                    refine ⟨fun p hp => ?_, ?_⟩
                    · rcases List.mem_cons.1 hp with rfl | hp
                      · exact ⟨hnear, hS, hSj, by show i ≠ j; omega⟩
                      · exact (hQ.mono (fun x hx => hx.1)).1 p hp
                    · rw [List.pairwise_cons]
                      refine ⟨fun q hq => ?_, hQ.2⟩
                      have := hQ.1 q hq
                      exact ⟨fun e => this.2.1.2.1 e.symm, fun e => this.2.2.1.2.1 e.symm, fun e => this.2.1.2.2 e.symm, fun e => this.2.2.1.2.2 e.symm⟩
                  have hn : ((((i, j) :: Q)).map (·.1)).Nodup := by
                    rw [List.Nodup, List.pairwise_map]
                    exact hq.2.imp (fun h => h.1)
                  have := length_le_of_in (((i, j) :: Q).map (·.1)) (List.range C.length) hn (fun x hx => by
                    obtain ⟨p, hp, rfl⟩ := List.mem_map.1 hx
                    exact List.mem_range.2 (hq.1 p hp).2.1.1)
                  simp at this
                  omega
                obtain ⟨r', h1, h2⟩ := ihj (j + 1) (max b (1 + r)) (by omega) (by omega) (by omega) (by omega) (fun x s hx h1 h2 h3 h4 => by
                    by_cases hxj : x = j
                    · subst hxj
                      have := h4.eq hr
                      omega
                    · have := hbx x s (by omega) h1 h2 h3 h4
                      omega) (by
                    by_cases hle : 1 + r ≤ b
                    · rw [Nat.max_eq_left hle]; exact hbe
                    · rw [Nat.max_eq_right (by omega)]; exact Or.inr ⟨j, r, hSj, by omega, hnear, hr, rfl⟩)
                refine ⟨r', h1, Ev.step (fun k => by rw [spec_guPairs.l1, if_pos e3, if_pos e4, shr_bit _ j16, hcb, if_pos rfl, if_pos rfl, if_pos e0, if_pos e5, ha, shr_bit _ j16, hab]) (Ev.step (fun k => by rw [spec_guPairs.j3, if_pos hq, if_pos e4, andNot_bit hcl j16]) (Ev.bind hrev ?_))⟩
                have ew : wrap64 (1 + (r : Int)) = ((1 + r : Nat) : Int) := by rw [wrap64_in _ (by omega)]; omega
                simp only [ew, l1Most_nat, Option.bind_some, w_succ (show j ≤ 4611686018427387904 by omega)]
                exact h2
        obtain ⟨r, h1, h2⟩ := inner (C.length - (i + 1)) (i + 1) n0 (by omega) (by omega) (by have := most_len h0; omega) (Nat.le_refl _) (fun x r hx h1 h2 h3 h4 => by
          have := hz x (by omega)
          rw [h1.2] at this; cases this) (Or.inl rfl)
        have e6 : ¬ ((i : Int) = (C.length : Int)) := by omega
        refine ⟨r, h1, Ev.step (fun k => by rw [spec_guPairs.l0, if_pos e, if_pos e0, shr_bit m i16, hbit, if_neg (by decide)]) (Ev.step (fun k => by rw [spec_guPairs.j1, if_neg e6, if_pos e0, andNot_bit hm i16]) (Ev.bind hev0 ?_))⟩
        simp only [w_succ (show i ≤ 4611686018427387904 by omega)]
        exact h2
  obtain ⟨r, h1, h2⟩ := loop C.length 0 (by omega) (fun x hx => by omega)
  exact ⟨r, h1, Ev.step (fun k => by rw [spec_guPairs.f]; rfl) h2⟩
end Go.Proofs.Ytfjomkjngolboaa.H

namespace Go.Proofs.Ytfjomkjngolboaa.H
open Go Go.RowKit Go.IntWalk Go.Proofs.Ytfjomkjngolboaa.Q Go.Proofs.YtfjomkjngolboaaW.PrintWords Go.Proofs.YtfjomkjngolboaaW.PrintMore
set_option linter.unusedVariables false
set_option linter.unusedSimpArgs false
section
variable {W H : Int} {L : List Int} {A B : Int}
theorem rd_mem {l : List Int} {i : Nat} (h : i < l.length) : rd l (i : Int) ∈ l := by rw [rd_nat l i h]; exact List.getElem_mem h
theorem guNew_l1 (g : BoardM W H L) (C acc : List Int) (hC : C.length ≤ 16) (hm : ∀ x ∈ C, 0 ≤ x ∧ x < W * H) (ha : acc.length ≤ 16) (i : Nat) (hi : i < C.length) : ∀ n j m : Nat, n + j = C.length → m < 65536 →
    (∀ x, x ≠ i → x < j → (m.testBit x = true ↔ isB W A B (rd C (i : Int)) (rd C (x : Int)) = true)) → (∀ x, x ≠ i → j ≤ x → m.testBit x = false) →
    ∃ a : Nat, (∀ x, x ≠ i → x < C.length → (a.testBit x = true ↔ isB W A B (rd C (i : Int)) (rd C (x : Int)) = true)) ∧
      ∀ out, Ev (fun k => spec_guNew.l0 k C (C.length : Int) ((i + 1 : Nat) : Int) W H L A B C (acc ++ [(a : Int)])) out →
        Ev (fun k => spec_guNew.l1 k (rd C (i : Int)) (m : Int) C (C.length : Int) (i : Int) C (C.length : Int) (j : Int) W H L A B C acc) out := by
  intro n
  induction n with
  | zero =>
    intro j m hj hm16 h1 h2
    have e : ¬ ((j : Int) < (C.length : Int)) := by omega
    have e2 : acc.length < 17592186044416 := by omega
    refine ⟨m, fun x hx hl => h1 x hx (by omega), fun out ho => Ev.step (fun k => by rw [spec_guNew.l1, if_neg e, if_pos e2, w_succ (by omega)]) ho⟩
  | succ n ih =>
    intro j m hj hm16 h1 h2
    have e : (j : Int) < (C.length : Int) := by omega
    have e0 : (0 : Int) ≤ (j : Int) := by omega
    have hb := boIs_eq g A B (rd C (i : Int)) (rd C (j : Int)) (hm _ (rd_mem hi)) (hm _ (rd_mem (by omega)))
    have j16 : j < 16 := by omega
    cases hc : isB W A B (rd C (i : Int)) (rd C (j : Int)) with
    | true =>
      obtain ⟨a, ha1, ha2⟩ := ih (j + 1) (m ||| 2 ^ j) (by omega) (or_lt hm16 j16) (fun x hx hl => by
        rw [or_test]
        by_cases q : j = x
        · subst q; simp [hc]
        · simp only [q, decide_false, Bool.or_false]; exact h1 x hx (by omega)) (fun x hx hl => by
        rw [or_test, h2 x hx (by omega)]
        have : ¬ j = x := by omega
        simp [this])
      refine ⟨a, ha1, fun out ho => Ev.step (fun k => by rw [spec_guNew.l1, if_pos e, if_pos e0, if_pos e, hb, hc, Option.bind_some, if_pos rfl, or_bit hm16 j16, w_succ (by omega)]) (ha2 out ho)⟩
    | false =>
      obtain ⟨a, ha1, ha2⟩ := ih (j + 1) m (by omega) hm16 (fun x hx hl => by
        by_cases q : x = j
        · subst q; rw [h2 x hx (Nat.le_refl _), hc]
        · exact h1 x hx (by omega)) (fun x hx hl => h2 x hx (by omega))
      refine ⟨a, ha1, fun out ho => Ev.step (fun k => by rw [spec_guNew.l1, if_pos e, if_pos e0, if_pos e, hb, hc, Option.bind_some, if_neg (by decide), w_succ (by omega)]) (ha2 out ho)⟩
theorem guNew_l0 (g : BoardM W H L) (C : List Int) (hC : C.length ≤ 16) (hm : ∀ x ∈ C, 0 ≤ x ∧ x < W * H) : ∀ (n i : Nat) (acc : List Int), n + i = C.length → acc.length = i →
    (∀ y x : Nat, y < i → x < C.length → x ≠ y → ∃ a : Nat, rd acc (y : Int) = (a : Int) ∧ (a.testBit x = true ↔ isB W A B (rd C (y : Int)) (rd C (x : Int)) = true)) →
    ∃ N : List Int, N.length = C.length ∧ (∀ y x : Nat, y < C.length → x < C.length → x ≠ y → ∃ a : Nat, rd N (y : Int) = (a : Int) ∧ (a.testBit x = true ↔ isB W A B (rd C (y : Int)) (rd C (x : Int)) = true)) ∧
      Ev (fun k => spec_guNew.l0 k C (C.length : Int) (i : Int) W H L A B C acc) (C, N) := by
  intro n
  induction n with
  | zero =>
    intro i acc hi ha h
    have e : ¬ ((i : Int) < (C.length : Int)) := by omega
    exact ⟨acc, by omega, fun y x hy => h y x (by omega), Ev.step (fun k => by rw [spec_guNew.l0, if_neg e]) (Ev.now _)⟩
  | succ n ih =>
    intro i acc hi ha h
    have e : (i : Int) < (C.length : Int) := by omega
    have e0 : (0 : Int) ≤ (i : Int) := by omega
    have i16 : i < 16 := by omega
    obtain ⟨a, ha1, ha2⟩ := guNew_l1 (A := A) (B := B) g C acc hC hm (by omega) i (by omega) C.length 0 (2 ^ i) (by omega) (pow_small i16) (fun x hx hl => by omega) (fun x hx hl => by
      rw [Nat.testBit_two_pow]
      have : ¬ i = x := fun q => hx q.symm
      simp [this])
    obtain ⟨N, hN, hq, hev⟩ := ih (i + 1) (acc ++ [(a : Int)]) (by omega) (by simp [ha]) (fun y x hy hx hne => by
      by_cases q : y = i
      · subst q
        refine ⟨a, ?_, ha1 x hne hx⟩
        rw [rd_nat _ _ (by simp; omega), List.getElem_append_right (by omega)]
        simp [ha]
      · obtain ⟨b, hb, hb2⟩ := h y x (by omega) hx hne
        refine ⟨b, ?_, hb2⟩
        rw [← hb, rd_nat _ _ (by simp; omega), rd_nat _ _ (by omega), List.getElem_append_left (by omega)])
    refine ⟨N, hN, hq, Ev.step (fun k => by rw [spec_guNew.l0, if_pos e, if_pos e0, if_pos e, shl_one i16]) ?_⟩
    exact ha2 _ hev
theorem guNew_ev (g : BoardM W H L) (hl : L.length ≤ 1048576) (hC : (cellsM W H L).length ≤ 16) : ∃ N : List Int, N.length = (cellsM W H L).length ∧
    (∀ y x : Nat, y < (cellsM W H L).length → x < (cellsM W H L).length → x ≠ y → ∃ a : Nat, rd N (y : Int) = (a : Int) ∧ (a.testBit x = true ↔ isB W A B (rd (cellsM W H L) (y : Int)) (rd (cellsM W H L) (x : Int)) = true)) ∧
    Ev (fun k => spec_guNew.f k W H L A B) (cellsM W H L, N) := by
  obtain ⟨N, h1, h2, h3⟩ := guNew_l0 (A := A) (B := B) g (cellsM W H L) hC (fun x hx => has_range (mem_cellsM.1 hx)) (cellsM W H L).length 0 [] (by omega) rfl (fun y x hy => by omega)
  exact ⟨N, h1, h2, Ev.bind (boCells_ev g hl) h3⟩
end
end Go.Proofs.Ytfjomkjngolboaa.H

namespace Go.Proofs.Ytfjomkjngolboaa.Pure
open Go.RowKit Go.IntWalk Go.Proofs.Ytfjomkjngolboaa.Q Go.Proofs.Ytfjomkjngolboaa.H Go.Proofs.YtfjomkjngolboaaW.PrintWords Go.Proofs.YtfjomkjngolboaaW.PrintMore
set_option linter.unusedVariables false
set_option linter.unusedSimpArgs false
/-- Two cells of the board that are near. -/
def NearC (W H : Int) (L : List Int) (A B : Int) (x y : Int) : Prop := hasB W H L x = true ∧ hasB W H L y = true ∧ y ∈ leapsM W H L A B x
theorem rdOf_false (n : Nat) (x : Int) : rdOf false (List.replicate n false) x = false := by
  unfold rdOf
  rw [List.getD_eq_getElem?_getD, List.getElem?_replicate]
  split <;> rfl
section
variable {W H : Int} {L : List Int} {A B : Int}
theorem cells_nodup : (cellsM W H L).Nodup := (cellsM_sorted W H L).imp (fun h => by omega)
theorem unseen_all (n : Nat) (x : Int) : unseen (List.replicate n false) x ↔ 0 ≤ x ∧ x < (n : Int) := by
  unfold unseen
  rw [List.length_replicate]
  exact ⟨fun h => h.1, fun h => ⟨h, rdOf_false n x⟩⟩
theorem ptn_lt {p : List Int} {d : Int} (h : 0 ≤ ptn p d) : 0 ≤ d ∧ d < (p.length : Int) := by
  unfold ptn at h
  split at h
  · assumption
  · omega
theorem most_l1 (t : Two W H L A B) : ∀ (rest pre : List Int), cellsM W H L = pre ++ rest → ∀ (p T : List Int) (D : Int → Prop), (p.length : Int) = W * H → T.length ≤ pre.length →
    Mates (leapsM W H L A B) (fun x => hasB W H L x = true) (fun x => decide (rd (sidesM W H L A B) x ≠ 0)) pre (ptn p) T D →
    ∃ n : Nat, Most (NearC W H L A B) (fun x => hasB W H L x = true) n ∧ Ev (fun k => impl_MostPairs.l1 k p (T.length : Int) (sidesM W H L A B) (pre ++ rest) ((pre ++ rest).length : Int) (pre.length : Int) W H L A B (cellsM W H L) (nearM W H L A B)) ((n : Int), true) := by
  have g := t.1
  have ha := g.area
  obtain ⟨s1, s2, s3⟩ := sidesM_ok t
  intro rest
  induction rest with
  | nil =>
    intro pre hpre p T D hp hT hk
    rw [List.append_nil] at hpre
    refine ⟨T.length, ?_, ?_⟩
    · refine hk.most (fun x y hx hy => ⟨fun h => leapsM_flip hx h, fun h => leapsM_flip hy h⟩) (fun x hx => by rw [← hpre]; exact mem_cellsM.2 hx) (fun x hx => ?_) (fun x hx y hy => leapsM_has hy) (fun x y hx hy hxy => ?_)
      · rw [← hpre] at hx
        have := mem_cellsM.1 hx
        exact ⟨this, (has_range this).1⟩
      · have h1 := s2 x hx
        have h2 := s3 x y hx hxy
        intro h
        rw [decide_eq_decide] at h
        omega
    · refine Ev.step (fun k => by rw [impl_MostPairs.l1]) ?_
      simp only [List.append_nil, nlt_end, if_false]
      exact Ev.now _
  | cons c r ih =>
    intro pre hpre p T D hp hT hk
    have hcm : c ∈ cellsM W H L := by rw [hpre]; simp
    have hc := mem_cellsM.1 hcm
    have hcr := has_range hc
    have h0 : (0 : Int) ≤ (pre.length : Int) := by omega
    have hlen : (pre ++ c :: r).length ≤ 64 := by rw [← hpre]; exact cellsM_length g
    have h5 : pre.length ≤ 64 := by simp at hlen; omega
    have h6 : c < ((sidesM W H L A B).length : Int) := by omega
    have hnd := cells_nodup (W := W) (H := H) (L := L)
    have hcp : c ∉ pre := by
      rw [hpre] at hnd
      intro hm
      exact (List.nodup_append.1 hnd).2.2 c hm c (by simp) rfl
    have hpc : ∀ x ∈ pre, hasB W H L x = true := fun x hx => mem_cellsM.1 (by rw [hpre]; exact List.mem_append_left _ hx)
    have next := ih (pre ++ [c]) (by simpa using hpre)
    by_cases hs : rd (sidesM W H L A B) c = 0
    · have h7 : (0 : Int) ≤ ((nearM W H L A B).length : Int) := by omega
      have h8 : (((nearM W H L A B).length : Int)).toNat = (W * H).toNat := by rw [nearM_length]; omega
      have h9 : (W * H).toNat ≤ 281474976710656 := by omega
      have un := unseen_all (W * H).toNat
      obtain ⟨b, p', s', hev, t1, t2, t3, t4, t5⟩ := matched_ev (A := A) (B := B) g (dark (List.replicate (W * H).toNat false)) (List.replicate (W * H).toNat false) p c (Nat.le_refl _) hc (by simp; omega) hp
        (fun x hx => hpc _ (hk.adj x hx).2.2.1) (fun x _ e => hcp (by rw [← e]; exact (hk.adj x (by rw [e]; exact hcr.1)).2.2.1)) (fun x y _ _ h1 h2 => hk.inj x y h1 h2)
      have start : ∀ k, impl_MostPairs.l1 (k + 1) p (T.length : Int) (sidesM W H L A B) (pre ++ c :: r) ((pre ++ c :: r).length : Int) (pre.length : Int) W H L A B (cellsM W H L) (nearM W H L A B) =
          ((impl_graph_matched.f k W H L A B (cellsM W H L) (nearM W H L A B) c p (List.replicate (W * H).toNat false)).bind fun bt => (if bt.1 = true then (impl_MostPairs.l1 k bt.2.1 (wrap64 ((T.length : Int) + 1)) (sidesM W H L A B) (pre ++ c :: r) ((pre ++ c :: r).length : Int) (wrap64 ((pre.length : Int) + 1)) W H L A B (cellsM W H L) (nearM W H L A B)) else (impl_MostPairs.l1 k bt.2.1 (T.length : Int) (sidesM W H L A B) (pre ++ c :: r) ((pre ++ c :: r).length : Int) (wrap64 ((pre.length : Int) + 1)) W H L A B (cellsM W H L) (nearM W H L A B)))) := by
        intro k
        rw [impl_MostPairs.l1]
        simp only [lt_mid pre c r, h0, if_true, rd_mid, hcr.1, h6, hs, h7, h8, h9]
      have hp' : (p'.length : Int) = W * H := by rw [t1]; exact hp
      have inU : ∀ q : List Int, (q.length : Int) = W * H → ∀ d, 0 ≤ ptn q d → unseen (List.replicate (W * H).toNat false) d := fun q hq d hd => (un d).2 (by have := ptn_lt hd; omega)
      cases b with
      | true =>
        obtain ⟨T', hT', hk'⟩ := hk.take (c := c) (by simp [hs]) (fun x hx => (has_range (hpc x hx)).1) (inU p hp) (inU p' hp') (fun x y hy => leapsM_has hy) (t4 rfl)
        obtain ⟨n, hn, hev2⟩ := next p' T' D hp' (by simp; omega) hk'
        refine ⟨n, hn, Ev.step start (Ev.bind hev ?_)⟩
        simp only [if_true, w_succ (show pre.length ≤ 4611686018427387904 by omega), w_succ (show T.length ≤ 4611686018427387904 by omega)]
        rw [hT'] at hev2
        simpa using hev2
      | false =>
        obtain ⟨q1, q2, q3⟩ := t5 rfl
        subst q1
        have lin : ∀ x, ∀ e ∈ leapsM W H L A B x, unseen (List.replicate (W * H).toNat false) e := fun x e he => (un e).2 (by have := has_range (leapsM_has he); omega)
        have hk' := hk.fail (c := c) (U := unseen (List.replicate (W * H).toNat false)) (U' := unseen s') (fun d hd => lin c d hd) (fun d _ e he => lin _ e he) q2 q3
        obtain ⟨n, hn, hev2⟩ := next p' T _ hp' (by simp; omega) hk'
        refine ⟨n, hn, Ev.step start (Ev.bind hev ?_)⟩
        simp only [Bool.false_eq_true, if_false, w_succ (show pre.length ≤ 4611686018427387904 by omega)]
        simpa using hev2
    · obtain ⟨n, hn, hev⟩ := next p T D hp (by simp; omega) (hk.skip (by simp [hs]))
      refine ⟨n, hn, Ev.step (fun k => by rw [impl_MostPairs.l1]) ?_⟩
      simp only [lt_mid pre c r, h0, if_true, rd_mid, hcr.1, h6, hs, if_false, w_succ (show pre.length ≤ 4611686018427387904 by omega)]
      simpa using hev
theorem most_l0 (R : Int × Bool) (n pre rest : Nat) (hn : pre + rest = n) (h64 : n ≤ 64) (hR : Ev (fun k => impl_MostPairs.l0 k (List.replicate n (-1)) (n : Int) (n : Int) W H L A B (cellsM W H L) (nearM W H L A B)) R) :
    Ev (fun k => impl_MostPairs.l0 k (List.replicate pre (-1 : Int) ++ List.replicate rest (0 : Int)) (n : Int) (pre : Int) W H L A B (cellsM W H L) (nearM W H L A B)) R := by
  induction rest generalizing pre with
  | zero =>
    obtain rfl : pre = n := by omega
    simpa using hR
  | succ r ih =>
    refine Ev.step (fun k => by rw [impl_MostPairs.l0]) ?_
    have h1 : (pre : Int) < (n : Int) := by omega
    have h0 : (0 : Int) ≤ (pre : Int) := by omega
    have h2 : (pre : Int) < ((List.replicate pre (-1 : Int) ++ List.replicate (r + 1) (0 : Int)).length : Int) := by simp; omega
    simp only [h1, h0, h2, if_true, set_fill, w_succ (show pre ≤ 4611686018427387904 by omega)]
    have := ih (pre + 1) (by omega)
    simpa using this
theorem implMost_ev (t : Two W H L A B) (hl : L.length ≤ 1048576) (hC : (cellsM W H L).length ≤ 16) : ∃ n : Nat, Most (NearC W H L A B) (fun x => hasB W H L x = true) n ∧ Ev (fun k => impl_MostPairs.f k W H L A B) ((n : Int), true) := by
  have g := t.1
  have ha := g.area
  have neg : ∀ d, ¬ 0 ≤ ptn (List.replicate (W * H).toNat (-1)) d := fun d h => by
    have h1 := ptn_lt h
    rw [ptn_in _ h1, rd_fill _ _ d (by simpa using h1)] at h
    omega
  obtain ⟨n, hn, hev⟩ := most_l1 t (cellsM W H L) [] rfl (List.replicate (W * H).toNat (-1)) [] (fun _ => False) (by simp; omega) (by simp)
    ⟨fun d h => absurd h (neg d), fun d e h => absurd h (neg d), fun d h => h.elim, fun x hx => (by cases hx), List.nodup_nil, fun d => ⟨fun h => (by cases h), fun h => absurd h (neg d)⟩⟩
  refine ⟨n, hn, ?_⟩
  unfold impl_MostPairs.f impl_tourGraph.f
  have h1 : (0 : Int) ≤ ((nearM W H L A B).length : Int) := by omega
  have h3 : (((nearM W H L A B).length : Int)).toNat = (W * H).toNat := by rw [nearM_length]; omega
  have h2 : (W * H).toNat ≤ 35184372088832 := by omega
  have h4 : ¬ (((cellsM W H L).length : Int) > 16) := by omega
  refine Ev.bind (a := (cellsM W H L, nearM W H L A B, true)) (Ev.bind (graphOf_two t hl) ?_) ?_
  · simp only [if_true, h4, if_false]
    exact Ev.now _
  · simp only [if_true, h1, h3, h2, Option.bind_some, List.length_replicate]
    have := most_l0 (W := W) (H := H) (L := L) (A := A) (B := B) ((n : Int), true) (W * H).toNat 0 (W * H).toNat (by omega) (by omega) (by
      refine Ev.step (fun k => by rw [impl_MostPairs.l0]) ?_
      have e : ¬ (((W * H).toNat : Int) < ((W * H).toNat : Int)) := by omega
      simp only [e, if_false]
      refine Ev.bind (sides_ev t) ?_
      simpa using hev)
    simpa using this
theorem full_mask {n : Nat} (h : n ≤ 16) : wrap64 (shl .i64 1 (n : Int) - 1) = ((2 ^ n - 1 : Nat) : Int) := by
  have e : shl .i64 1 (n : Int) = ((2 ^ n : Nat) : Int) := by
    by_cases h16 : n < 16
    · exact shl_one h16
    · obtain rfl : n = 16 := by omega
      decide
  have h1 : 2 ^ n ≤ 2 ^ 16 := Nat.pow_le_pow_right (by decide) h
  have h2 : 1 ≤ 2 ^ n := Nat.one_le_two_pow
  have h3 : (2 : Nat) ^ 16 = 65536 := by decide
  rw [e, wrap64_in _ (by omega)]
  omega
theorem specMost_ev (t : Two W H L A B) (hl : L.length ≤ 1048576) (hC : (cellsM W H L).length ≤ 16) {n : Nat} (hn : Most (NearC W H L A B) (fun x => hasB W H L x = true) n) : Ev (fun k => spec_MostPairs.f k W H L A B) ((n : Int), true) := by
  have g := t.1
  have ha := g.area
  obtain ⟨N, n1, n2, n3⟩ := guNew_ev (A := A) (B := B) g hl hC
  have hm : 2 ^ (cellsM W H L).length - 1 < 65536 := by
    have h1 : 2 ^ (cellsM W H L).length ≤ 2 ^ 16 := Nat.pow_le_pow_right (by decide) hC
    have h2 : 1 ≤ 2 ^ (cellsM W H L).length := Nat.one_le_two_pow
    have h3 : (2 : Nat) ^ 16 = 65536 := by decide
    omega
  obtain ⟨r, hr, hev⟩ := guPairs_ev (C := cellsM W H L) (N := N) (near := fun i j => isB W A B (rd (cellsM W H L) (i : Int)) (rd (cellsM W H L) (j : Int)) = true) (fun x y h => by rw [isB_flip]; exact h) hC n1
    (fun i j hi hj hne => n2 i j hi hj (fun e => hne e.symm)) (2 ^ (cellsM W H L).length - 1) (2 ^ (cellsM W H L).length - 1) (Nat.le_refl _) hm
  have bits : ∀ x, Bits (cellsM W H L).length (2 ^ (cellsM W H L).length - 1) x ↔ x < (cellsM W H L).length := fun x => by
    unfold Bits
    rw [Nat.testBit_two_pow_sub_one]
    simp
  have inC : ∀ i : Nat, i < (cellsM W H L).length → hasB W H L (rd (cellsM W H L) (i : Int)) = true := fun i hi => mem_cellsM.1 (rd_mem hi)
  have over : Most (fun i j : Nat => isB W A B (rd (cellsM W H L) (i : Int)) (rd (cellsM W H L) (j : Int)) = true) (Bits (cellsM W H L).length (2 ^ (cellsM W H L).length - 1)) n := by
    refine Most.over (f := fun i : Nat => rd (cellsM W H L) (i : Int)) (g := fun x : Int => (cellsM W H L).idxOf x) (fun y hy => ?_) (fun x hx => ?_) (fun y z hy hz => ?_) hn
    · have hy' := (bits y).1 hy
      refine ⟨inC y hy', ?_⟩
      show (cellsM W H L).idxOf (rd (cellsM W H L) (y : Int)) = y
      rw [rd_nat _ y hy']
      exact List.Nodup.idxOf_getElem cells_nodup y hy'
    · have hx' := List.idxOf_lt_length_of_mem (mem_cellsM.2 hx)
      refine ⟨(bits _).2 hx', ?_⟩
      show rd (cellsM W H L) (((cellsM W H L).idxOf x : Nat) : Int) = x
      rw [rd_nat _ _ hx']
      exact List.getElem_idxOf hx'
    · have hy' := inC y ((bits y).1 hy)
      have hz' := inC z ((bits z).1 hz)
      show _ ↔ NearC W H L A B _ _
      unfold NearC leapsM
      rw [List.mem_filter]
      exact ⟨fun h => ⟨hy', hz', mem_cellsM.2 hz', h⟩, fun h => h.2.2.2⟩
  have e : r = n := hr.eq over
  subst e
  unfold spec_MostPairs.f spec_guFew.f
  refine Ev.bind (a := true) (Ev.bind (two_yes t hl) ?_) ?_
  · simp only [if_true]
    refine Ev.bind (boCells_ev g hl) ?_
    have h4 : decide (((cellsM W H L).length : Int) ≤ 16) = true := by simp; omega
    rw [h4]
    exact Ev.now _
  · simp only [if_true]
    refine Ev.bind n3 ?_
    simp only [full_mask hC]
    refine Ev.bind hev ?_
    exact Ev.now _
end
theorem mostPairs_both (W H : Int) (L : List Int) (A B : Int) (hl : L.length ≤ 1048576) : ∃ (r : Int) (b : Bool), Ev (fun k => spec_MostPairs.f k W H L A B) (r, b) ∧ Ev (fun k => impl_MostPairs.f k W H L A B) (r, b) := by
  by_cases t : Two W H L A B
  · by_cases hC : (cellsM W H L).length ≤ 16
    · obtain ⟨n, hn, hev⟩ := implMost_ev t hl hC
      exact ⟨n, true, specMost_ev t hl hC hn, hev⟩
    · refine ⟨0, false, ?_, ?_⟩
      · unfold spec_MostPairs.f spec_guFew.f
        refine Ev.bind (a := false) (Ev.bind (two_yes t hl) ?_) ?_
        · simp only [if_true]
          refine Ev.bind (boCells_ev t.1 hl) ?_
          have h4 : decide (((cellsM W H L).length : Int) ≤ 16) = false := by simp; omega
          rw [h4]
          exact Ev.now _
        · simp only [Bool.false_eq_true, if_false]
          exact Ev.now _
      · unfold impl_MostPairs.f impl_tourGraph.f
        have h4 : ((cellsM W H L).length : Int) > 16 := by omega
        refine Ev.bind (a := (([] : List Int), ([] : List (List Int)), false)) (Ev.bind (graphOf_two t hl) ?_) ?_
        · simp only [if_true, h4]
          exact Ev.now _
        · simp only [Bool.false_eq_true, if_false]
          exact Ev.now _
  · refine ⟨0, false, ?_, ?_⟩
    · unfold spec_MostPairs.f spec_guFew.f
      refine Ev.bind (a := false) (Ev.bind (two_no t hl) ?_) ?_
      · simp only [Bool.false_eq_true, if_false]
        exact Ev.now _
      · simp only [Bool.false_eq_true, if_false]
        exact Ev.now _
    · unfold impl_MostPairs.f impl_tourGraph.f
      refine Ev.bind (a := (([] : List Int), ([] : List (List Int)), false)) (Ev.bind (graphOf_not t hl) ?_) ?_
      · simp only [Bool.false_eq_true, if_false]
        exact Ev.now _
      · simp only [Bool.false_eq_true, if_false]
        exact Ev.now _
theorem FnExactMostPairs : FnExactMostPairsSaid := by
  intro a0_0 a0_1 l0_2 a1_0 a1_1 _ _ hlen_l0_2 _ _ _
  by_cases hb_l0_2 : 1048576 < l0_2.length
  · refine ⟨0, ?_⟩
    simp [laws_FnExactMostPairs.f, szBoard_big a0_0 a0_1 l0_2 hb_l0_2 hlen_l0_2]
  have hs_l0_2 : l0_2.length ≤ 1048576 := by omega
  obtain ⟨r, b, hs, hi⟩ := mostPairs_both a0_0 a0_1 l0_2 a1_0 a1_1 hs_l0_2
  refine rounds_of ?_
  have n0 : ¬ (1048576 - (l0_2.length : Int) < 0) := by omega
  have n1 : ¬ (1 + (l0_2.length : Int) < 0) := by omega
  unfold laws_FnExactMostPairs.f
  repeat (first
    | exact Ev.now _
    | refine Ev.bind (toBoard_ev _ _ _ (by assumption)) ?_
    | refine Ev.bind (eqBoard_ev _ _ _ (by assumption)) ?_
    | refine Ev.bind (markBoard_ev _ _ _ (by assumption)) ?_
    | refine Ev.bind (toIntS_ev _ (by assumption)) ?_
    | refine Ev.bind (eqIntS_ev _ (by assumption)) ?_
    | refine Ev.bind (markIntS_ev _ (by assumption)) ?_
    | refine Ev.bind (heldIntS_ev _ (by assumption)) ?_
    | refine Ev.bind (markIntS_any _ _ (by assumption) (by omega)) ?_
    | refine Ev.bind hs ?_
    | refine Ev.bind hi ?_
    | simp only [Option.bind_some, if_true, if_false, bne_self_eq_false, Bool.false_eq_true, ne_eq, not_true_eq_false, not_false_eq_true, szBoard_fit _ _ _ hs_l0_2, laws_toLeaper.f, n0, n1]
    | (refine Ev.step (fun k => by rw [laws_FnExactMostPairs.j0]) ?_))
end Go.Proofs.Ytfjomkjngolboaa.Pure

/- WalkOfSteps: the program, which looks at the whole walk at its end, and the reference, which looks at each cell, tell the same; so the law's function answers true for all arguments. -/
import Derived.Test.YtbecdckdbeoomaaHLaw
import Derived.IntWalk
import Derived.Test.YtbecdckdbeoomaaHSort
import Derived.Test.YtbecdckdbeoomaaStateFnExactWalkOfSteps
import Derived.Test.YtbecdckdbeoomaaQ1
import Derived.Test.YtbecdckdbeoomaaQ2
import Derived.Test.YtbecdckdbeoomaaQ5
import Derived.Test.YtbecdckdbeoomaaQ16
import Derived.Test.YtbecdckdbeoomaaQ3
import Derived.Test.YtbecdckdbeoomaaQ4
import Derived.Test.YtbecdckdbeoomaaQ13
import Derived.Test.YtbecdckdbeoomaaQ14
import Derived.Test.YtbecdckdbeoomaaQ15
import Derived.Test.YtbecdckdbeoomaaQ9
import Derived.Test.YtbecdckdbeoomaaQ37
import Derived.Test.YtbecdckdbeoomaaQ36
import Derived.Test.YtbecdckdbeoomaaQ38
namespace Go.Proofs.Ytbecdckdbeoomaa.H
open Go.RowKit Go.IntWalk Go.Proofs.Ytbecdckdbeoomaa.Q Go.Proofs.YtbecdckdbeoomaaW.PrintWords Go.Proofs.YtbecdckdbeoomaaW.PrintMore
set_option linter.unusedVariables false
set_option linter.unusedSimpArgs false

/-! ### Words of lists and numbers -/
theorem rd_mid (pre : List Int) (x : Int) (r : List Int) : rd (pre ++ x :: r) (pre.length : Int) = x := by simp [rd]
theorem lt_mid {α : Type} (pre : List α) (x : α) (r : List α) : (pre.length : Int) < ((pre ++ x :: r).length : Int) := by simp; omega
theorem nlt_end {α : Type} (pre : List α) : ¬ ((pre.length : Int) < (pre.length : Int)) := by omega
theorem w_succ {n : Nat} (h : n ≤ 4611686018427387904) : wrap64 ((n : Int) + 1) = ((n + 1 : Nat) : Int) := by rw [wrap64_in _ (by omega)]; omega
theorem rd_nat (l : List Int) (i : Nat) (h : i < l.length) : rd l (i : Int) = l[i] := by simp [rd, List.getD_eq_getElem?_getD, List.getElem?_eq_getElem h]

/-! ### The law's own functions -/
theorem toIntS_loop (rest pre : List Int) (hl : (pre ++ rest).length ≤ 4611686018427387904) : Ev (fun k => laws_toIntS.l0 k (pre ++ rest) (pre ++ List.replicate rest.length 0) (pre.length : Int)) (pre ++ rest) := by
  induction rest generalizing pre with
  | nil =>
    refine Ev.step (fun k => by rw [laws_toIntS.l0]) ?_
    simp only [List.append_nil, List.length_nil, List.replicate_zero, nlt_end, if_false]
    exact Ev.now _
  | cons x r ih =>
    refine Ev.step (fun k => by rw [laws_toIntS.l0]) ?_
    have h3 : (pre.length : Int) < ((pre ++ List.replicate (x :: r).length 0).length : Int) := by simp; omega
    have h4 : (0 : Int) ≤ (pre.length : Int) := by omega
    have h5 : pre.length ≤ 4611686018427387904 := by simp at hl; omega
    simp only [lt_mid pre x r, h3, h4, if_true, rd_mid, w_succ h5]
    have h6 : (pre ++ List.replicate (x :: r).length 0).set ((pre.length : Int)).toNat x = (pre ++ [x]) ++ List.replicate r.length 0 := by simp [List.replicate_succ]
    rw [h6]
    have := ih (pre ++ [x]) (by simpa using hl)
    simpa using this
theorem toIntS_ev (l : List Int) (hl : l.length ≤ 1048576) : Ev (fun k => laws_toIntS.f k l) l := by
  have h1 : (0 : Int) ≤ (l.length : Int) := by omega
  have h2 : ((l.length : Int) : Int).toNat ≤ 35184372088832 := by omega
  simp only [laws_toIntS.f, h1, h2, if_true]
  simpa using toIntS_loop l [] (by simp; omega)
theorem toBoard_ev (W H : Int) (l : List Int) (hl : l.length ≤ 1048576) : Ev (fun k => laws_toBoard.f k W H l) (W, H, l) := by
  simp only [laws_toBoard.f]
  exact Ev.bind (toIntS_ev l hl) (Ev.now _)
theorem eqIntS_loop (rest pre : List Int) (hl : (pre ++ rest).length ≤ 4611686018427387904) : Ev (fun k => laws_eqIntS.l0 k (pre ++ rest) (pre ++ rest) (pre.length : Int)) true := by
  induction rest generalizing pre with
  | nil =>
    refine Ev.step (fun k => by rw [laws_eqIntS.l0]) ?_
    simp only [List.append_nil, nlt_end, if_false]
    exact Ev.now _
  | cons x r ih =>
    refine Ev.step (fun k => by rw [laws_eqIntS.l0]) ?_
    have h4 : (0 : Int) ≤ (pre.length : Int) := by omega
    have h5 : pre.length ≤ 4611686018427387904 := by simp at hl; omega
    simp only [lt_mid pre x r, h4, if_true, rd_mid, w_succ h5]
    have := ih (pre ++ [x]) (by simpa using hl)
    simpa using this
theorem eqIntS_ev (l : List Int) (hl : l.length ≤ 1048576) : Ev (fun k => laws_eqIntS.f k l l) true := by
  simp only [laws_eqIntS.f, if_true]
  simpa using eqIntS_loop l [] (by simp; omega)
theorem eqBoard_ev (W H : Int) (l : List Int) (hl : l.length ≤ 1048576) : Ev (fun k => laws_eqBoard.f k W H l W H l) true := by
  simp only [laws_eqBoard.f, if_true]
  refine Ev.bind (eqIntS_ev l hl) ?_
  simp only [if_true]
  exact Ev.now _
theorem szBoard_big (W H : Int) (l : List Int) (h : 1048576 < l.length) (h2 : l.length ≤ 9223372036854775807) : laws_szBoard.f W H l 1048576 = some (-1) := by
  have e : wrap64 (1048576 - (l.length : Int)) = 1048576 - (l.length : Int) := wrap64_in _ (by omega)
  have h3 : 1048576 - (l.length : Int) < 0 := by omega
  simp [laws_szBoard.f, laws_szIntS.f, e, h3]
theorem szBoard_fit (W H : Int) (l : List Int) (h : l.length ≤ 1048576) : laws_szBoard.f W H l 1048576 = some (1048576 - (l.length : Int)) := by
  have e : wrap64 (1048576 - (l.length : Int)) = 1048576 - (l.length : Int) := wrap64_in _ (by omega)
  have h3 : ¬ 1048576 - (l.length : Int) < 0 := by omega
  simp [laws_szBoard.f, laws_szIntS.f, e, h3]

/-! ### Boards, leapers, cells -/
def hasB (W H : Int) (L : List Int) (c : Int) : Bool := decide (0 ≤ c) && decide (c < W * H) && !L.contains c
def BoardM (W H : Int) (L : List Int) : Prop := 1 ≤ W ∧ W ≤ 8 ∧ 1 ≤ H ∧ H ≤ 8 ∧ (L.length : Int) < W * H ∧ (∀ x ∈ L, 0 ≤ x ∧ x < W * H) ∧ L.Pairwise (· < ·)
def Leap (A B : Int) : Prop := 0 ≤ A ∧ A ≤ B ∧ 1 ≤ B ∧ B ≤ 5
def Two (W H : Int) (L : List Int) (A B : Int) : Prop := BoardM W H L ∧ Leap A B
def isB (W A B x y : Int) : Bool :=
  let u := ((x % W - y % W).natAbs : Int)
  let v := ((x / W - y / W).natAbs : Int)
  (decide (u = A) && decide (v = B)) || (decide (u = B) && decide (v = A))
def cellsM (W H : Int) (L : List Int) : List Int := ((List.range (W * H).toNat).map Int.ofNat).filter (hasB W H L)
def leapsM (W H : Int) (L : List Int) (A B c : Int) : List Int := (cellsM W H L).filter (isB W A B c)
theorem BoardM.area {W H : Int} {L : List Int} (g : BoardM W H L) : 1 ≤ W * H ∧ W * H ≤ 64 := by
  obtain ⟨h1, h2, h3, h4, _⟩ := g
  constructor
  · have := Int.mul_le_mul h1 h3 (by omega) (by omega); omega
  · have := Int.mul_le_mul h2 h4 (by omega) (by omega); omega
theorem BoardM.wrapArea {W H : Int} {L : List Int} (g : BoardM W H L) : wrap64 (W * H) = W * H := wrap64_in _ (by have := g.area; omega)
theorem mem_cellsM {W H : Int} {L : List Int} {c : Int} : c ∈ cellsM W H L ↔ hasB W H L c = true := by
  unfold cellsM
  rw [List.mem_filter]
  constructor
  · exact fun h => h.2
  · intro h
    refine ⟨?_, h⟩
    have h' := h
    simp only [hasB, Bool.and_eq_true, decide_eq_true_eq] at h'
    refine List.mem_map.2 ⟨c.toNat, List.mem_range.2 (by omega), ?_⟩
    show ((c.toNat : Nat) : Int) = c
    omega
theorem cellsM_length {W H : Int} {L : List Int} (g : BoardM W H L) : (cellsM W H L).length ≤ 64 := by
  unfold cellsM
  refine Nat.le_trans (List.length_filter_le _ _) ?_
  have := g.area
  simp; omega
theorem has_range {W H : Int} {L : List Int} {c : Int} (h : hasB W H L c = true) : 0 ≤ c ∧ c < W * H := by
  simp only [hasB, Bool.and_eq_true, decide_eq_true_eq] at h
  exact h.1
theorem leapsM_length {W H : Int} {L : List Int} (g : BoardM W H L) (A B c : Int) : (leapsM W H L A B c).length ≤ 64 := Nat.le_trans (List.length_filter_le _ _) (cellsM_length g)

/-! ### What the reference's first functions tell -/
theorem l1In_eq (n lo hi : Int) : spec_l1In.f n lo hi = some (decide (lo ≤ n) && decide (n ≤ hi)) := by
  unfold spec_l1In.f
  split <;> rename_i h
  · have : lo ≤ n := h
    simp [this]
  · have : ¬ lo ≤ n := h
    simp [this]
theorem l1Has_loop (c : Int) (rest pre : List Int) (hl : (pre ++ rest).length ≤ 4611686018427387904) : Ev (fun k => spec_l1Has.l0 k c (pre ++ rest) ((pre ++ rest).length : Int) (pre.length : Int)) (rest.contains c) := by
  induction rest generalizing pre with
  | nil =>
    refine Ev.step (fun k => by rw [spec_l1Has.l0]) ?_
    simp only [List.append_nil, nlt_end, if_false]
    exact Ev.now _
  | cons x r ih =>
    refine Ev.step (fun k => by rw [spec_l1Has.l0]) ?_
    have h4 : (0 : Int) ≤ (pre.length : Int) := by omega
    have h5 : pre.length ≤ 4611686018427387904 := by simp at hl; omega
    simp only [lt_mid pre x r, h4, if_true, rd_mid, w_succ h5]
    by_cases hx : x = c
    · simp only [hx, if_true, List.contains_cons, beq_self_eq_true, Bool.true_or]
      exact Ev.now _
    · have := ih (pre ++ [x]) (by simpa using hl)
      have hx' : ¬ c = x := fun h => hx h.symm
      simp only [hx, if_false]
      simpa [hx'] using this
theorem l1Has_ev (l : List Int) (c : Int) (hl : l.length ≤ 4611686018427387904) : Ev (fun k => spec_l1Has.f k l c) (l.contains c) := by
  unfold spec_l1Has.f
  simpa using l1Has_loop c l [] (by simpa using hl)
theorem l1All_loop (lo hi : Int) (rest pre : List Int) (hl : (pre ++ rest).length ≤ 4611686018427387904) : Ev (fun k => spec_l1All.l0 k lo hi (pre ++ rest) ((pre ++ rest).length : Int) (pre.length : Int)) (rest.all fun n => decide (lo ≤ n) && decide (n ≤ hi)) := by
  induction rest generalizing pre with
  | nil =>
    refine Ev.step (fun k => by rw [spec_l1All.l0]) ?_
    simp only [List.append_nil, nlt_end, if_false]
    exact Ev.now _
  | cons x r ih =>
    refine Ev.step (fun k => by rw [spec_l1All.l0]) ?_
    have h4 : (0 : Int) ≤ (pre.length : Int) := by omega
    have h5 : pre.length ≤ 4611686018427387904 := by simp at hl; omega
    simp only [lt_mid pre x r, h4, if_true, rd_mid, w_succ h5, l1In_eq, Option.bind_some, List.all_cons]
    cases hx : (decide (lo ≤ x) && decide (x ≤ hi)) with
    | false => simp only [Bool.false_eq_true, if_false, Bool.false_and]; exact Ev.now _
    | true =>
      have := ih (pre ++ [x]) (by simpa using hl)
      simp only [if_true, Bool.true_and]
      simpa using this
theorem l1All_ev (l : List Int) (lo hi : Int) (hl : l.length ≤ 4611686018427387904) : Ev (fun k => spec_l1All.f k l lo hi) (l.all fun n => decide (lo ≤ n) && decide (n ≤ hi)) := by
  unfold spec_l1All.f
  simpa using l1All_loop lo hi l [] (by simpa using hl)
theorem boHas_ev {W H : Int} {L : List Int} (g : BoardM W H L) (c : Int) (hl : L.length ≤ 1048576) : Ev (fun k => spec_boHas.f k W H L c) (hasB W H L c) := by
  have ha := g.area
  have e : wrap64 (W * H - 1) = W * H - 1 := wrap64_in _ (by omega)
  simp only [spec_boHas.f, g.wrapArea, e, l1In_eq, Option.bind_some]
  by_cases h : 0 ≤ c ∧ c ≤ W * H - 1
  · have h1 : (decide (0 ≤ c) && decide (c ≤ W * H - 1)) = true := by simp [h]
    have h2 : c < W * H := by omega
    simp only [h1, if_true]
    refine Ev.bind (l1Has_ev L c (by omega)) ?_
    have : hasB W H L c = !L.contains c := by simp [hasB, h.1, h2]
    rw [this]
    exact Ev.now _
  · have h1 : (decide (0 ≤ c) && decide (c ≤ W * H - 1)) = false := by simp; omega
    have h2 : hasB W H L c = false := by
      simp only [hasB, Bool.and_eq_false_iff, decide_eq_false_iff_not]
      omega
    simp only [h1, Bool.false_eq_true, if_false, h2]
    exact Ev.now _
open Classical in
theorem rising_loop (W H : Int) (L : List Int) (hl : L.length ≤ 4611686018427387904) : ∀ (n i : Nat), n + i = L.length → 1 ≤ i → Ev (fun k => spec_boGood.l0 k (i : Int) W H L) (decide (∀ j, i ≤ j → ∀ h : j < L.length, L[j - 1] < L[j])) := by
  intro n
  induction n with
  | zero =>
    intro i h1 h2
    refine Ev.step (fun k => by rw [spec_boGood.l0]) ?_
    have h3 : ¬ ((i : Int) < (L.length : Int)) := by omega
    have h4 : (∀ j, i ≤ j → ∀ h : j < L.length, L[j - 1] < L[j]) = True := by
      refine eq_true (fun j hj h => ?_)
      omega
    simp only [h3, if_false, h4, decide_true]
    exact Ev.now _
  | succ n ih =>
    intro i h1 h2
    refine Ev.step (fun k => by rw [spec_boGood.l0]) ?_
    have h3 : (i : Int) < (L.length : Int) := by omega
    have h4 : wrap64 ((i : Int) - 1) = ((i - 1 : Nat) : Int) := by rw [wrap64_in _ (by omega)]; omega
    have h5 : (0 : Int) ≤ ((i - 1 : Nat) : Int) := by omega
    have h6 : ((i - 1 : Nat) : Int) < (L.length : Int) := by omega
    have h7 : (0 : Int) ≤ (i : Int) := by omega
    simp only [h3, h4, h5, h6, h7, if_true, rd_nat L (i - 1) (by omega), rd_nat L i (by omega), w_succ (show i ≤ 4611686018427387904 by omega)]
    by_cases hx : L[i - 1] ≥ L[i]
    · have h8 : decide (∀ j, i ≤ j → ∀ h : j < L.length, L[j - 1] < L[j]) = false := by
        rw [decide_eq_false_iff_not]
        intro h
        have := h i (by omega) (by omega)
        omega
      simp only [hx, if_true, h8]
      exact Ev.now _
    · have h8 : (∀ j, i ≤ j → ∀ h : j < L.length, L[j - 1] < L[j]) = (∀ j, i + 1 ≤ j → ∀ h : j < L.length, L[j - 1] < L[j]) := by
        rw [eq_iff_iff]
        constructor
        · intro h j hj; exact h j (by omega)
        · intro h j hj hjl
          rcases Nat.lt_or_ge i j with h9 | h9
          · exact h j (by omega) hjl
          · obtain rfl : j = i := by omega
            omega
      simp only [hx, if_false, h8]
      exact ih (i + 1) (by omega) (by omega)
theorem pairwise_iff (L : List Int) : L.Pairwise (· < ·) ↔ ∀ j, 1 ≤ j → ∀ h : j < L.length, L[j - 1] < L[j] := by
  constructor
  · intro h j hj hl
    exact List.pairwise_iff_getElem.1 h (j - 1) j (by omega) hl (by omega)
  · intro h
    rw [List.pairwise_iff_getElem]
    intro i j hi hj hij
    have : ∀ d, ∀ (hd : i + d + 1 < L.length), L[i] < L[i + d + 1] := by
      intro d
      induction d with
      | zero => intro hd; have := h (i + 0 + 1) (by omega) hd; simpa using this
      | succ d ih => intro hd; have h1 := ih (by omega); have h2 := h (i + (d + 1) + 1) (by omega) hd; simp at h2; exact Int.lt_trans h1 h2
    have := this (j - i - 1) (by omega)
    simpa [show i + (j - i - 1) + 1 = j by omega] using this
theorem boSize_eq (W H : Int) : spec_boSize.f W H = some (decide (1 ≤ W ∧ W ≤ 8 ∧ 1 ≤ H ∧ H ≤ 8)) := by
  simp only [spec_boSize.f, l1In_eq, Option.bind_some]
  by_cases h1 : 1 ≤ W <;> by_cases h2 : W ≤ 8 <;> by_cases h3 : 1 ≤ H <;> by_cases h4 : H ≤ 8 <;> simp [h1, h2, h3, h4]
theorem boGood_j0_true {W H : Int} {L : List Int} : Ev (fun k => spec_boGood.j0 k true W H L) false := by
  refine Ev.step (fun k => by rw [spec_boGood.j0]) ?_
  simp only [if_true]
  exact Ev.now _
open Classical in
theorem boGood_ev (W H : Int) (L : List Int) (hl : L.length ≤ 1048576) : Ev (fun k => spec_boGood.f k W H L) (decide (BoardM W H L)) := by
  simp only [spec_boGood.f, boSize_eq, Option.bind_some]
  by_cases h1 : 1 ≤ W ∧ W ≤ 8 ∧ 1 ≤ H ∧ H ≤ 8
  · obtain ⟨a1, a2, a3, a4⟩ := h1
    have ar1 : 1 ≤ W * H := by have := Int.mul_le_mul a1 a3 (by omega) (by omega); omega
    have ar2 : W * H ≤ 64 := by have := Int.mul_le_mul a2 a4 (by omega) (by omega); omega
    have e1 : wrap64 (W * H) = W * H := wrap64_in _ (by omega)
    have e2 : wrap64 (W * H - 1) = W * H - 1 := wrap64_in _ (by omega)
    simp only [a1, a2, a3, a4, and_self, decide_true, if_true, e1, e2]
    by_cases h2 : (L.length : Int) ≥ W * H
    · have : decide (BoardM W H L) = false := by
        rw [decide_eq_false_iff_not]; rintro ⟨_, _, _, _, h, _⟩; omega
      simp only [h2, if_true, this]
      exact boGood_j0_true
    · simp only [h2, if_false]
      refine Ev.bind (l1All_ev L 0 (W * H - 1) (by omega)) ?_
      cases h3 : (L.all fun n => decide (0 ≤ n) && decide (n ≤ W * H - 1)) with
      | false =>
        have : decide (BoardM W H L) = false := by
          rw [decide_eq_false_iff_not]; rintro ⟨_, _, _, _, _, h, _⟩
          have : (L.all fun n => decide (0 ≤ n) && decide (n ≤ W * H - 1)) = true := by
            rw [List.all_eq_true]
            intro x hx
            have := h x hx
            simp; omega
          rw [this] at h3; cases h3
        simp only [Bool.not_false, this]
        exact boGood_j0_true
      | true =>
        simp only [Bool.not_true]
        refine Ev.step (fun k => by rw [spec_boGood.j0]) ?_
        simp only [Bool.false_eq_true, if_false]
        have hr : Ev (fun k => spec_boGood.l0 k 1 W H L) (decide (∀ j, 1 ≤ j → ∀ h : j < L.length, L[j - 1] < L[j])) := by
          rcases Nat.eq_zero_or_pos L.length with h0 | h0
          · have h4 : (∀ j, 1 ≤ j → ∀ h : j < L.length, L[j - 1] < L[j]) = True := by
              exact eq_true (fun j hj h => by omega)
            refine Ev.step (fun k => by rw [spec_boGood.l0]) ?_
            have h3 : ¬ ((1 : Int) < (L.length : Int)) := by omega
            simp only [h3, if_false, h4, decide_true]
            exact Ev.now _
          · exact rising_loop W H L (by omega) (L.length - 1) 1 (by omega) (by omega)
        have h5 : (∀ j, 1 ≤ j → ∀ h : j < L.length, L[j - 1] < L[j]) = BoardM W H L := by
          rw [eq_iff_iff]
          constructor
          · intro h
            refine ⟨a1, a2, a3, a4, by omega, ?_, (pairwise_iff L).2 h⟩
            intro x hx
            have := List.all_eq_true.1 h3 x hx
            simp at this; omega
          · rintro ⟨_, _, _, _, _, _, h⟩; exact (pairwise_iff L).1 h
        simp only [h5] at hr
        exact hr
  · have : decide (BoardM W H L) = false := by
      rw [decide_eq_false_iff_not]; rintro ⟨b1, b2, b3, b4, _⟩; exact h1 ⟨b1, b2, b3, b4⟩
    simp only [h1, decide_false, Bool.false_eq_true, if_false, this]
    exact boGood_j0_true
open Classical in
theorem boLeaper_eq (A B : Int) : spec_boLeaper.f A B = some (decide (Leap A B)) := by
  simp only [spec_boLeaper.f, l1In_eq, Option.bind_some]
  unfold Leap
  by_cases h1 : 1 ≤ B <;> by_cases h2 : B ≤ 5 <;> by_cases h3 : 0 ≤ A <;> by_cases h4 : A ≤ B <;> simp [h1, h2, h3, h4]
open Classical in
theorem boTwo_ev (W H : Int) (L : List Int) (A B : Int) (hl : L.length ≤ 1048576) : Ev (fun k => spec_boTwo.f k W H L A B) (decide (Two W H L A B)) := by
  unfold spec_boTwo.f
  refine Ev.bind (boGood_ev W H L hl) ?_
  by_cases g : BoardM W H L
  · simp only [g, decide_true, if_true, boLeaper_eq, Option.bind_some]
    have : decide (Two W H L A B) = decide (Leap A B) := by simp [Two, g]
    rw [this]
    exact Ev.now _
  · have : decide (Two W H L A B) = false := by simp [Two, g]
    simp only [g, decide_false, Bool.false_eq_true, if_false, this]
    exact Ev.now _
theorem two_yes {W H : Int} {L : List Int} {A B : Int} (t : Two W H L A B) (hl : L.length ≤ 1048576) : Ev (fun k => spec_boTwo.f k W H L A B) true := by
  have := boTwo_ev W H L A B hl
  simpa [t] using this
theorem two_no {W H : Int} {L : List Int} {A B : Int} (t : ¬ Two W H L A B) (hl : L.length ≤ 1048576) : Ev (fun k => spec_boTwo.f k W H L A B) false := by
  have := boTwo_ev W H L A B hl
  simpa [t] using this
theorem l1Abs_eq (n : Int) (h : -100 ≤ n ∧ n ≤ 100) : spec_l1Abs.f n = some (n.natAbs : Int) := by
  have e : wrap64 (-n) = -n := wrap64_in _ (by omega)
  simp only [spec_l1Abs.f, spec_l1Most.f, e]
  by_cases hn : n > -n
  · simp only [hn, if_true, Option.bind_some]; congr 1; omega
  · simp only [hn, if_false, Option.bind_some]; congr 1; omega
theorem cell_bounds {W H : Int} {L : List Int} (g : BoardM W H L) {c : Int} (h : 0 ≤ c ∧ c < W * H) : 0 ≤ c % W ∧ c % W < W ∧ 0 ≤ c / W ∧ c / W < H ∧ c % W + c / W * W = c := by
  have hW : 0 < W := by have := g.1; omega
  have h1 := Int.emod_nonneg c (show W ≠ 0 by omega)
  have h2 := Int.emod_lt_of_pos c hW
  have h3 : 0 ≤ c / W := Int.ediv_nonneg h.1 (by omega)
  have h4 : c / W < H := by
    rw [Int.ediv_lt_iff_lt_mul hW]
    have := Int.mul_comm W H; omega
  have h5 := Int.emod_add_mul_ediv c W
  have h6 := Int.mul_comm W (c / W)
  exact ⟨h1, h2, h3, h4, by omega⟩
theorem tmod_of {W c : Int} (h : 0 ≤ c) : Int.tmod c W = c % W := by rw [Int.tmod_eq_emod_of_nonneg h]
theorem tdiv_of {W c : Int} (h : 0 ≤ c) : Int.tdiv c W = c / W := by rw [Int.tdiv_eq_ediv_of_nonneg h]
/-! ### Marks -/
def marks : Int → List Int → List Int
  | _, [] => []
  | n, _ :: r => n :: marks (n + 1) r
theorem markIntS_loop (rest pre : List Int) (n : Int) (hn : -9000000000000000000 ≤ n ∧ n + (rest.length : Int) ≤ 9000000000000000000) (hl : (pre ++ rest).length ≤ 4611686018427387904) : Ev (fun k => laws_markIntS.l0 k (pre ++ rest) n (pre.length : Int)) (n + (rest.length : Int), pre ++ marks n rest) := by
  induction rest generalizing pre n with
  | nil =>
    refine Ev.step (fun k => by rw [laws_markIntS.l0]) ?_
    simp only [List.append_nil, nlt_end, if_false, marks, List.length_nil]
    simpa using Ev.now _
  | cons x r ih =>
    refine Ev.step (fun k => by rw [laws_markIntS.l0]) ?_
    have h4 : (0 : Int) ≤ (pre.length : Int) := by omega
    have h5 : pre.length ≤ 4611686018427387904 := by simp at hl; omega
    have e : wrap64 (n + 1) = n + 1 := wrap64_in _ (by simp at hn; omega)
    have e2 : (pre ++ x :: r).set ((pre.length : Int)).toNat n = (pre ++ [n]) ++ r := by simp
    simp only [lt_mid pre x r, h4, if_true, e, e2, w_succ h5]
    have := ih (pre ++ [n]) (n + 1) (by simp at hn; omega) (by simpa using hl)
    have e3 : n + ((x :: r).length : Int) = n + 1 + (r.length : Int) := by simp; omega
    rw [e3]
    simpa [marks] using this
theorem markIntS_ev (l : List Int) (hl : l.length ≤ 1048576) : Ev (fun k => laws_markIntS.f k l 1) (1 + (l.length : Int), marks 1 l) := by
  unfold laws_markIntS.f
  simpa using markIntS_loop l [] 1 (by omega) (by simp; omega)
theorem heldIntS_loop (rest pre : List Int) (n : Int) (hn : -9000000000000000000 ≤ n ∧ n + (rest.length : Int) ≤ 9000000000000000000) (hl : (pre ++ rest).length ≤ 4611686018427387904) : Ev (fun k => laws_heldIntS.l0 k (pre ++ marks n rest) n (pre.length : Int)) (n + (rest.length : Int)) := by
  induction rest generalizing pre n with
  | nil =>
    refine Ev.step (fun k => by rw [laws_heldIntS.l0]) ?_
    simp only [List.append_nil, nlt_end, if_false, marks, List.length_nil]
    simpa using Ev.now _
  | cons x r ih =>
    refine Ev.step (fun k => by rw [laws_heldIntS.l0]) ?_
    have h4 : (0 : Int) ≤ (pre.length : Int) := by omega
    have h5 : pre.length ≤ 4611686018427387904 := by simp at hl; omega
    have e : wrap64 (n + 1) = n + 1 := wrap64_in _ (by simp at hn; omega)
    simp only [marks, lt_mid pre n (marks (n + 1) r), h4, if_true, rd_mid, e, w_succ h5]
    have := ih (pre ++ [n]) (n + 1) (by simp at hn; omega) (by simpa using hl)
    have e3 : n + ((x :: r).length : Int) = n + 1 + (r.length : Int) := by simp; omega
    rw [e3]
    simpa [marks] using this
theorem heldIntS_ev (l : List Int) (hl : l.length ≤ 1048576) : Ev (fun k => laws_heldIntS.f k (marks 1 l) 1) (1 + (l.length : Int)) := by
  unfold laws_heldIntS.f
  simpa using heldIntS_loop l [] 1 (by omega) (by simp; omega)
theorem markIntS_any (l : List Int) (n : Int) (hl : l.length ≤ 1048576) (hn : 0 ≤ n ∧ n ≤ 100000000) : Ev (fun k => laws_markIntS.f k l n) (n + (l.length : Int), marks n l) := by
  unfold laws_markIntS.f
  simpa using markIntS_loop l [] n (by omega) (by simp; omega)
theorem markBoard_ev (W H : Int) (l : List Int) (hl : l.length ≤ 1048576) : Ev (fun k => laws_markBoard.f k W H l 1) (1 + (l.length : Int), marks 1 l) := by
  unfold laws_markBoard.f
  exact Ev.bind (markIntS_ev l hl) (Ev.now _)
end Go.Proofs.Ytbecdckdbeoomaa.H

namespace Go.Proofs.Ytbecdckdbeoomaa.H
open Go.RowKit Go.IntWalk Go.Proofs.Ytbecdckdbeoomaa.Q Go.Proofs.YtbecdckdbeoomaaW.PrintWords Go.Proofs.YtbecdckdbeoomaaW.PrintMore
set_option linter.unusedVariables false
set_option linter.unusedSimpArgs false

theorem index_loop (c : Int) (rest pre : List Int) (hl : (pre ++ rest).length ≤ 4611686018427387904) : ∃ i, Ev (fun k => slices_Index_int_int.l0 k (pre ++ rest) c ((pre ++ rest).length : Int) (pre.length : Int)) i ∧ (decide (i ≥ 0) = rest.contains c) := by
  induction rest generalizing pre with
  | nil =>
    refine ⟨-1, Ev.step (fun k => by rw [slices_Index_int_int.l0]) ?_, by simp⟩
    simp only [List.append_nil, nlt_end, if_false]
    exact Ev.now _
  | cons x r ih =>
    have h4 : (0 : Int) ≤ (pre.length : Int) := by omega
    have h5 : pre.length ≤ 4611686018427387904 := by simp at hl; omega
    by_cases hx : c = x
    · refine ⟨(pre.length : Int), Ev.step (fun k => by rw [slices_Index_int_int.l0]) ?_, by simp [hx]⟩
      simp only [lt_mid pre x r, h4, if_true, rd_mid, w_succ h5, hx]
      exact Ev.now _
    · obtain ⟨i, hi, he⟩ := ih (pre ++ [x]) (by simpa using hl)
      refine ⟨i, Ev.step (fun k => by rw [slices_Index_int_int.l0]) ?_, by simpa [hx] using he⟩
      simp only [lt_mid pre x r, h4, if_true, rd_mid, w_succ h5, hx, if_false]
      simpa using hi
theorem contains_ev (l : List Int) (c : Int) (hl : l.length ≤ 4611686018427387904) : Ev (fun k => slices_Contains_int_int.f k l c) (l.contains c) := by
  obtain ⟨i, hi, he⟩ := index_loop c l [] (by simpa using hl)
  unfold slices_Contains_int_int.f slices_Index_int_int.f
  rw [← he]
  refine Ev.bind (by simpa using hi) (Ev.now _)
open Classical in
theorem isLeaper_eq (A B : Int) : impl_IsLeaper.f A B = some (decide (Leap A B)) := by
  unfold impl_IsLeaper.f Leap
  by_cases h1 : A ≥ 0 <;> by_cases h2 : A ≤ B <;> by_cases h3 : B ≥ 1 <;> simp [h1, h2, h3] <;> omega
/-! ### Steps -/
theorem mx_max (a b : Int) : mx a b = max a b := by unfold mx; split <;> omega
theorem mn_min (a b : Int) : mn a b = min a b := by unfold mn; split <;> omega
theorem mx_abs (a : Int) : mx a (-a) = (a.natAbs : Int) := by rw [mx_max]; omega
def ys (y : Int) : Nat → List Int
  | 0 => []
  | n + 1 => y :: ys (y + 1) n
def stepOk (A B : Int) (s : List Int) : Bool := decide (mn (mx (rd s 0) (-rd s 0)) (mx (rd s 1) (-rd s 1)) = A) && decide (mx (mx (rd s 0) (-rd s 0)) (mx (rd s 1) (-rd s 1)) = B)
def allSteps : List (List Int) := (ys (-5) 11).flatMap fun x => (ys (-5) 11).map fun y => [x, y]
def stepsM (A B : Int) : List (List Int) := allSteps.filter (stepOk A B)
theorem steps_l1 (A B x : Int) (hx : -5 ≤ x ∧ x ≤ 5) (R : List (List Int)) : ∀ (n : Nat) (y : Int), y + n = 6 → -5 ≤ y → ∀ acc : List (List Int), (acc.length : Int) ≤ 20 * (x + 5) + (y + 5) →
    Ev (fun k => impl_Leaper_steps.l0 k (acc ++ ((ys y n).map fun y => [x, y]).filter (stepOk A B)) (x + 1) A B) R → Ev (fun k => impl_Leaper_steps.l1 k acc x y A B) R := by
  intro n
  induction n with
  | zero =>
    intro y h1 h2 acc h3 hR
    refine Ev.step (fun k => by rw [impl_Leaper_steps.l1]) ?_
    have h4 : ¬ y ≤ 5 := by omega
    have e : wrap64 (x + 1) = x + 1 := wrap64_in _ (by omega)
    simp only [h4, if_false, e]
    simpa [ys] using hR
  | succ n ih =>
    intro y h1 h2 acc h3 hR
    refine Ev.step (fun k => by rw [impl_Leaper_steps.l1]) ?_
    have h4 : y ≤ 5 := by omega
    have e1 : wrap64 (y + 1) = y + 1 := wrap64_in _ (by omega)
    have e2 : wrap64 (-x) = -x := wrap64_in _ (by omega)
    have e3 : wrap64 (-y) = -y := wrap64_in _ (by omega)
    have h5 : acc.length < 5864062014805 := by omega
    simp only [h4, if_true, e1, e2, e3, h5]
    have hs : stepOk A B [x, y] = (decide (mn (mx x (-x)) (mx y (-y)) = A) && decide (mx (mx x (-x)) (mx y (-y)) = B)) := rfl
    by_cases c1 : mn (mx x (-x)) (mx y (-y)) = A
    · by_cases c2 : mx (mx x (-x)) (mx y (-y)) = B
      · have hs' : stepOk A B [x, y] = true := by rw [hs]; simp [c1, c2]
        simp only [c1, c2, if_true]
        refine ih (y + 1) (by omega) (by omega) (acc ++ [[x, y]]) (by simp; omega) ?_
        simpa [ys, List.filter_cons, hs'] using hR
      · have hs' : stepOk A B [x, y] = false := by rw [hs]; simp [c2]
        simp only [c1, c2, if_true, if_false]
        refine ih (y + 1) (by omega) (by omega) acc (by omega) ?_
        simpa [ys, List.filter_cons, hs'] using hR
    · have hs' : stepOk A B [x, y] = false := by rw [hs]; simp [c1]
      simp only [c1, if_false]
      refine ih (y + 1) (by omega) (by omega) acc (by omega) ?_
      simpa [ys, List.filter_cons, hs'] using hR
theorem ys_length (n : Nat) : ∀ y, (ys y n).length = n := by
  induction n with
  | zero => intro y; rfl
  | succ n ih => intro y; simp [ys, ih]
theorem steps_l0 (A B : Int) : ∀ (n : Nat) (x : Int), x + n = 6 → -5 ≤ x → ∀ acc : List (List Int), (acc.length : Int) ≤ 20 * (x + 5) →
    Ev (fun k => impl_Leaper_steps.l0 k acc x A B) (acc ++ ((ys x n).flatMap fun x => (ys (-5) 11).map fun y => [x, y]).filter (stepOk A B)) := by
  intro n
  induction n with
  | zero =>
    intro x h1 h2 acc h3
    refine Ev.step (fun k => by rw [impl_Leaper_steps.l0]) ?_
    have h4 : ¬ x ≤ 5 := by omega
    simp only [h4, if_false, ys, List.flatMap_nil, List.filter_nil, List.append_nil]
    exact Ev.now _
  | succ n ih =>
    intro x h1 h2 acc h3
    refine Ev.step (fun k => by rw [impl_Leaper_steps.l0]) ?_
    have h4 : x ≤ 5 := by omega
    simp only [h4, if_true]
    refine steps_l1 A B x ⟨h2, h4⟩ _ 11 (-5) (by omega) (by omega) acc (by omega) ?_
    have hlen : (((ys (-5) 11).map fun y => [x, y]).filter (stepOk A B)).length ≤ 11 := Nat.le_trans (List.length_filter_le _ _) (by simp [ys_length])
    have := ih (x + 1) (by omega) (by omega) (acc ++ ((ys (-5) 11).map fun y => [x, y]).filter (stepOk A B)) (by rw [List.length_append]; omega)
    have e : (ys x (n + 1)).flatMap (fun x => (ys (-5) 11).map fun y => [x, y]) = ((ys (-5) 11).map fun y => [x, y]) ++ (ys (x + 1) n).flatMap (fun x => (ys (-5) 11).map fun y => [x, y]) := by
      show (x :: ys (x + 1) n).flatMap _ = _
      rw [List.flatMap_cons]
    rw [e, List.filter_append, ← List.append_assoc]
    exact this
theorem steps_ev (A B : Int) : Ev (fun k => impl_Leaper_steps.f k A B) (stepsM A B) := by
  unfold impl_Leaper_steps.f
  have := steps_l0 A B 11 (-5) (by omega) (by omega) [] (by simp)
  simpa [stepsM, allSteps] using this
theorem mem_ys (n : Nat) : ∀ (y z : Int), z ∈ ys y n ↔ y ≤ z ∧ z < y + n := by
  induction n with
  | zero => intro y z; simp [ys]
  | succ n ih => intro y z; simp only [ys, List.mem_cons, ih]; omega
theorem mem_allSteps (s : List Int) : s ∈ allSteps ↔ ∃ x y : Int, (-5 ≤ x ∧ x ≤ 5) ∧ (-5 ≤ y ∧ y ≤ 5) ∧ s = [x, y] := by
  unfold allSteps
  simp only [List.mem_flatMap, List.mem_map, mem_ys]
  constructor
  · rintro ⟨x, hx, y, hy, rfl⟩; exact ⟨x, y, by omega, by omega, rfl⟩
  · rintro ⟨x, y, hx, hy, rfl⟩; exact ⟨x, by omega, y, by omega, rfl⟩
theorem mem_stepsM (A B : Int) (s : List Int) : s ∈ stepsM A B ↔ ∃ x y : Int, (-5 ≤ x ∧ x ≤ 5) ∧ (-5 ≤ y ∧ y ≤ 5) ∧ s = [x, y] ∧ mn (mx x (-x)) (mx y (-y)) = A ∧ mx (mx x (-x)) (mx y (-y)) = B := by
  unfold stepsM
  rw [List.mem_filter, mem_allSteps]
  constructor
  · rintro ⟨⟨x, y, hx, hy, rfl⟩, h⟩
    simp only [stepOk, Bool.and_eq_true, decide_eq_true_eq] at h
    exact ⟨x, y, hx, hy, rfl, h.1, h.2⟩
  · rintro ⟨x, y, hx, hy, rfl, h1, h2⟩
    refine ⟨⟨x, y, hx, hy, rfl⟩, ?_⟩
    simp only [stepOk, Bool.and_eq_true, decide_eq_true_eq]
    exact ⟨h1, h2⟩
theorem allSteps_apart : allSteps.Pairwise fun a b => ¬ (rd a 0 = rd b 0 ∧ rd a 1 = rd b 1) := by decide +kernel
theorem stepsM_apart (A B : Int) : (stepsM A B).Pairwise fun a b => ¬ (rd a 0 = rd b 0 ∧ rd a 1 = rd b 1) := allSteps_apart.filter _
theorem stepsM_length (A B : Int) : (stepsM A B).length ≤ 121 := Nat.le_trans (List.length_filter_le _ _) (by decide +kernel)

theorem sort_key {l m : List Int} (hl : l.Nodup) (hm : m.Pairwise (· < ·)) (h : ∀ x, x ∈ l ↔ x ∈ m) : sortL l = m := by
  unfold sortL
  have hmn : m.Nodup := hm.imp (fun h => by omega)
  refine List.Perm.eq_of_pairwise (le := fun x y => x ≤ y) (fun a b _ _ h1 h2 => by omega) ?_ (hm.imp (fun h => by omega)) ?_
  · refine (List.pairwise_mergeSort (le := fun x y => decide (x ≤ y)) (fun a b c => ?_) (fun a b => ?_) l).imp (fun h => by simpa using h)
    · simp; omega
    · simp; omega
  · exact (List.mergeSort_perm l _).trans ((List.perm_ext_iff_of_nodup hl hmn).2 h)
theorem rd_L1_set (N : List (List Int)) (c : Int) (r : List Int) (h : 0 ≤ c ∧ c < (N.length : Int)) : rd_L1 (N.set c.toNat r) c = r := by
  unfold rd_L1
  rw [List.getD_eq_getElem?_getD, List.getElem?_set_self (by omega)]
  rfl
end Go.Proofs.Ytbecdckdbeoomaa.H

namespace Go.Proofs.Ytbecdckdbeoomaa.H
open Go.RowKit Go.IntWalk Go.Proofs.Ytbecdckdbeoomaa.Q Go.Proofs.YtbecdckdbeoomaaW.PrintWords Go.Proofs.YtbecdckdbeoomaaW.PrintMore
set_option linter.unusedVariables false
set_option linter.unusedSimpArgs false

theorem has_ev {W H : Int} {L : List Int} (g : BoardM W H L) (c : Int) (hl : L.length ≤ 1048576) : Ev (fun k => impl_Board_has.f k W H L c) (hasB W H L c) := by
  have ha := g.area
  simp only [impl_Board_has.f, g.wrapArea]
  by_cases h1 : c ≥ 0
  · by_cases h2 : c < W * H
    · simp only [h1, h2, if_true]
      refine Ev.bind (contains_ev L c (by omega)) ?_
      have h3 : (0 : Int) ≤ c := h1
      have : hasB W H L c = !L.contains c := by simp [hasB, h3, h2]
      rw [this]
      exact Ev.now _
    · have : hasB W H L c = false := by simp [hasB, h2]
      simp only [h1, h2, if_true, if_false, this]
      exact Ev.now _
  · have h3 : ¬ (0 : Int) ≤ c := h1
    have : hasB W H L c = false := by simp [hasB, h3]
    simp only [h1, if_false, this]
    exact Ev.now _
open Classical in
theorem isBoard_loop (W H : Int) (L : List Int) (ha : wrap64 (W * H) = W * H) (hl : L.length ≤ 4611686018427387904) : ∀ (n i : Nat), n + i = L.length → Ev (fun k => impl_IsBoard.l0 k L (L.length : Int) (i : Int) W H L) (decide (∀ j, i ≤ j → ∀ h : j < L.length, (0 ≤ L[j] ∧ L[j] < W * H) ∧ (1 ≤ j → L[j - 1] < L[j]))) := by
  intro n
  induction n with
  | zero =>
    intro i h1
    refine Ev.step (fun k => by rw [impl_IsBoard.l0]) ?_
    have h3 : ¬ ((i : Int) < (L.length : Int)) := by omega
    have h4 : (∀ j, i ≤ j → ∀ h : j < L.length, (0 ≤ L[j] ∧ L[j] < W * H) ∧ (1 ≤ j → L[j - 1] < L[j])) = True := eq_true (fun j hj h => by omega)
    simp only [h3, if_false, h4, decide_true]
    exact Ev.now _
  | succ n ih =>
    intro i h1
    refine Ev.step (fun k => by rw [impl_IsBoard.l0]) ?_
    have h3 : (i : Int) < (L.length : Int) := by omega
    have hi : i < L.length := by omega
    have h7 : (0 : Int) ≤ (i : Int) := by omega
    have no : ((0 ≤ L[i] ∧ L[i] < W * H) ∧ (1 ≤ i → L[i - 1] < L[i])) ∨ ¬ ((0 ≤ L[i] ∧ L[i] < W * H) ∧ (1 ≤ i → L[i - 1] < L[i])) := Classical.em _
    have bad : ¬ ((0 ≤ L[i] ∧ L[i] < W * H) ∧ (1 ≤ i → L[i - 1] < L[i])) → decide (∀ j, i ≤ j → ∀ h : j < L.length, (0 ≤ L[j] ∧ L[j] < W * H) ∧ (1 ≤ j → L[j - 1] < L[j])) = false := fun hb => by
      rw [decide_eq_false_iff_not]
      exact fun h => hb (h i (by omega) hi)
    have good : ((0 ≤ L[i] ∧ L[i] < W * H) ∧ (1 ≤ i → L[i - 1] < L[i])) → (∀ j, i ≤ j → ∀ h : j < L.length, (0 ≤ L[j] ∧ L[j] < W * H) ∧ (1 ≤ j → L[j - 1] < L[j])) = (∀ j, i + 1 ≤ j → ∀ h : j < L.length, (0 ≤ L[j] ∧ L[j] < W * H) ∧ (1 ≤ j → L[j - 1] < L[j])) := fun hg => by
      rw [eq_iff_iff]
      constructor
      · intro h j hj; exact h j (by omega)
      · intro h j hj hjl
        rcases Nat.lt_or_ge i j with h9 | h9
        · exact h j (by omega) hjl
        · obtain rfl : j = i := by omega
          exact hg
    simp only [h3, h7, if_true, rd_nat L i hi, ha, w_succ (show i ≤ 4611686018427387904 by omega)]
    by_cases c1 : L[i] < 0
    · rw [bad (fun h => by omega)]
      simp only [c1, if_true]
      exact Ev.now _
    simp only [c1, if_false]
    by_cases c2 : L[i] ≥ W * H
    · rw [bad (fun h => by omega)]
      simp only [c2, if_true]
      exact Ev.now _
    simp only [c2, if_false]
    by_cases c3 : (i : Int) > 0
    · have h4 : wrap64 ((i : Int) - 1) = ((i - 1 : Nat) : Int) := by rw [wrap64_in _ (by omega)]; omega
      have h5 : (0 : Int) ≤ ((i - 1 : Nat) : Int) := by omega
      have h6 : ((i - 1 : Nat) : Int) < (L.length : Int) := by omega
      simp only [c3, if_true, h4, h5, h6, rd_nat L (i - 1) (by omega)]
      by_cases c4 : L[i - 1] ≥ L[i]
      · rw [bad (fun h => by have := h.2 (by omega); omega)]
        simp only [c4, if_true]
        exact Ev.now _
      · simp only [c4, if_false, good ⟨⟨by omega, by omega⟩, fun _ => by omega⟩]
        exact ih (i + 1) (by omega)
    · simp only [c3, if_false, good ⟨⟨by omega, by omega⟩, fun h => absurd h (by omega)⟩]
      exact ih (i + 1) (by omega)
theorem sized_eq (n : Int) : impl_sized.f n = some (decide (1 ≤ n ∧ n ≤ 8)) := by
  unfold impl_sized.f
  by_cases h1 : n ≥ 1
  · have h2 : (1 : Int) ≤ n := h1
    simp [h1, h2]
  · have h2 : ¬ (1 : Int) ≤ n := h1
    simp [h1, h2]
theorem isBoard_no {W H : Int} {L : List Int} : Ev (fun k => impl_IsBoard.j0 k true W H L) false := by
  refine Ev.step (fun k => by rw [impl_IsBoard.j0]) ?_
  simp only [if_true]
  exact Ev.now _
open Classical in
theorem isBoard_ev (W H : Int) (L : List Int) (hl : L.length ≤ 1048576) : Ev (fun k => impl_IsBoard.f k W H L) (decide (BoardM W H L)) := by
  simp only [impl_IsBoard.f, sized_eq, Option.bind_some]
  by_cases h1 : 1 ≤ W ∧ W ≤ 8
  · by_cases h2 : 1 ≤ H ∧ H ≤ 8
    · have ar1 : 1 ≤ W * H := by have := Int.mul_le_mul h1.1 h2.1 (by omega) (by omega); omega
      have ar2 : W * H ≤ 64 := by have := Int.mul_le_mul h1.2 h2.2 (by omega) (by omega); omega
      have e1 : wrap64 (W * H) = W * H := wrap64_in _ (by omega)
      simp only [h1, h2, and_self, decide_true, if_true, e1]
      by_cases h3 : (L.length : Int) ≥ W * H
      · have : decide (BoardM W H L) = false := by
          rw [decide_eq_false_iff_not]; rintro ⟨_, _, _, _, h, _⟩; omega
        simp only [h3, decide_true, this]
        exact isBoard_no
      · simp only [h3, decide_false]
        refine Ev.step (fun k => by rw [impl_IsBoard.j0]) ?_
        simp only [Bool.false_eq_true, if_false]
        have h4 := isBoard_loop W H L e1 (by omega) L.length 0 rfl
        have h5 : (∀ j, 0 ≤ j → ∀ h : j < L.length, (0 ≤ L[j] ∧ L[j] < W * H) ∧ (1 ≤ j → L[j - 1] < L[j])) = BoardM W H L := by
          rw [eq_iff_iff]
          constructor
          · intro h
            refine ⟨h1.1, h1.2, h2.1, h2.2, by omega, ?_, (pairwise_iff L).2 fun j hj hjl => (h j (by omega) hjl).2 hj⟩
            intro x hx
            obtain ⟨j, hj, rfl⟩ := List.getElem_of_mem hx
            exact (h j (by omega) hj).1
          · rintro ⟨_, _, _, _, _, h, p⟩ j _ hj
            exact ⟨h _ (List.getElem_mem hj), fun h1 => (pairwise_iff L).1 p j h1 hj⟩
        simp only [h5] at h4
        simpa using h4
    · have : decide (BoardM W H L) = false := by
        rw [decide_eq_false_iff_not]; rintro ⟨_, _, a, b, _⟩; exact h2 ⟨a, b⟩
      simp only [h1, h2, and_self, decide_true, decide_false, if_true, Bool.false_eq_true, if_false, this]
      exact isBoard_no
  · have : decide (BoardM W H L) = false := by
      rw [decide_eq_false_iff_not]; rintro ⟨a, b, _⟩; exact h1 ⟨a, b⟩
    simp only [h1, decide_false, Bool.false_eq_true, if_false, this]
    exact isBoard_no
theorem present_loop {W H : Int} {L : List Int} (g : BoardM W H L) (hl : L.length ≤ 1048576) : ∀ (n i : Nat), (n + i : Int) = W * H → ∀ acc : List Int, acc.length ≤ i → Ev (fun k => impl_Board_present.l0 k acc (W * H) (i : Int) W H L) (acc ++ ((List.range' i n).map Int.ofNat).filter (hasB W H L)) := by
  have ha := g.area
  intro n
  induction n with
  | zero =>
    intro i h1 acc h2
    refine Ev.step (fun k => by rw [impl_Board_present.l0]) ?_
    have h3 : ¬ ((i : Int) < W * H) := by omega
    simp only [h3, if_false, List.range'_zero, List.map_nil, List.filter_nil, List.append_nil]
    exact Ev.now _
  | succ n ih =>
    intro i h1 acc h2
    refine Ev.step (fun k => by rw [impl_Board_present.l0]) ?_
    have h3 : ((i : Int) < W * H) := by omega
    have h0 : (0 : Int) ≤ (i : Int) := by omega
    simp only [h3, if_true, w_succ (show i ≤ 4611686018427387904 by omega)]
    refine Ev.bind (contains_ev L (i : Int) (by omega)) ?_
    have h4 : acc.length < 17592186044416 := by omega
    have hb : hasB W H L (i : Int) = !L.contains (i : Int) := by simp [hasB, h0, h3]
    cases hx : L.contains (i : Int) with
    | false =>
      rw [hx] at hb
      simp only [Bool.false_eq_true, if_false, h4, if_true]
      have := ih (i + 1) (by omega) (acc ++ [(i : Int)]) (by simp; omega)
      simpa [List.range'_succ, List.filter_cons, hb] using this
    | true =>
      rw [hx] at hb
      simp only [if_true]
      have := ih (i + 1) (by omega) acc (by omega)
      simpa [List.range'_succ, List.filter_cons, hb] using this
theorem present_ev {W H : Int} {L : List Int} (g : BoardM W H L) (hl : L.length ≤ 1048576) : Ev (fun k => impl_Board_present.f k W H L) (cellsM W H L) := by
  have ha := g.area
  have := present_loop g hl (W * H).toNat 0 (by omega) [] (by simp)
  unfold impl_Board_present.f cellsM
  rw [List.range_eq_range', g.wrapArea]
  simpa using this

/-! ### The neighbours of a cell -/
def stepTo (W H : Int) (L : List Int) (c : Int) (s : List Int) : Option Int :=
  if 0 ≤ c % W + rd s 0 ∧ c % W + rd s 0 < W ∧ 0 ≤ c / W + rd s 1 ∧ c / W + rd s 1 < H ∧ hasB W H L ((c / W + rd s 1) * W + (c % W + rd s 0)) = true then some ((c / W + rd s 1) * W + (c % W + rd s 0)) else none
theorem cellsM_sorted (W H : Int) (L : List Int) : (cellsM W H L).Pairwise (· < ·) := by
  unfold cellsM
  refine List.Pairwise.filter _ ?_
  rw [List.pairwise_map]
  refine List.pairwise_lt_range.imp (fun h => ?_)
  simp; omega
theorem leapsM_sorted (W H : Int) (L : List Int) (A B c : Int) : (leapsM W H L A B c).Pairwise (· < ·) := (cellsM_sorted W H L).filter _
theorem place_mod {W p q : Int} (h : 0 ≤ p ∧ p < W) : (q * W + p) % W = p ∧ (q * W + p) / W = q := by
  have hW : W ≠ 0 := by omega
  constructor
  · rw [Int.add_comm, Int.add_mul_emod_self_right]; exact Int.emod_eq_of_lt h.1 h.2
  · rw [Int.add_comm, Int.add_mul_ediv_right _ _ hW, Int.ediv_eq_zero_of_lt h.1 h.2]; omega
theorem near_key {W H : Int} {L : List Int} {A B : Int} (t : Two W H L A B) (c : Int) (hc : 0 ≤ c ∧ c < W * H) : sortL ((stepsM A B).filterMap (stepTo W H L c)) = leapsM W H L A B c := by
  obtain ⟨g, l⟩ := t
  obtain ⟨p1, p2, p3, p4, p5⟩ := cell_bounds g hc
  have b1 := g.1
  refine sort_key ?_ (leapsM_sorted _ _ _ _ _ _) ?_
  · unfold List.Nodup
    rw [List.pairwise_filterMap]
    refine (stepsM_apart A B).imp fun {s s'} hne b hb b' hb' he => hne ?_
    unfold stepTo at hb hb'
    split at hb
    · split at hb'
      · rename_i h1 h2
        simp only [Option.some.injEq] at hb hb'
        obtain ⟨m1, m2⟩ := place_mod (W := W) (q := c / W + rd s 1) ⟨h1.1, h1.2.1⟩
        obtain ⟨m3, m4⟩ := place_mod (W := W) (q := c / W + rd s' 1) ⟨h2.1, h2.2.1⟩
        rw [hb] at m1 m2
        rw [hb', ← he] at m3 m4
        omega
      · cases hb'
    · cases hb
  · intro d
    simp only [List.mem_filterMap, mem_stepsM, leapsM, List.mem_filter, mem_cellsM]
    constructor
    · rintro ⟨s, ⟨x, y, hx, hy, rfl, h1, h2⟩, hs⟩
      unfold stepTo at hs
      split at hs
      · rename_i h
        simp only [Option.some.injEq] at hs
        have e0 : rd [x, y] 0 = x := rfl
        have e1 : rd [x, y] 1 = y := rfl
        rw [e0, e1] at h hs
        obtain ⟨m1, m2⟩ := place_mod (W := W) (q := c / W + y) ⟨h.1, h.2.1⟩
        rw [hs] at m1 m2 h
        refine ⟨h.2.2.2.2, ?_⟩
        unfold isB
        rw [m1, m2]
        simp only [Bool.or_eq_true, Bool.and_eq_true, decide_eq_true_eq]
        rw [mn_min, mx_abs, mx_abs] at h1
        rw [mx_max, mx_abs, mx_abs] at h2
        omega
      · cases hs
    · rintro ⟨h1, h2⟩
      obtain ⟨q1, q2, q3, q4, q5⟩ := cell_bounds g (has_range h1)
      have l1 := l.1
      have l2 := l.2.1
      have l3 := l.2.2.1
      have l4 := l.2.2.2
      unfold isB at h2
      simp only [Bool.or_eq_true, Bool.and_eq_true, decide_eq_true_eq] at h2
      refine ⟨[d % W - c % W, d / W - c / W], ⟨_, _, by omega, by omega, rfl, ?_, ?_⟩, ?_⟩
      · rw [mn_min, mx_abs, mx_abs]; omega
      · rw [mx_max, mx_abs, mx_abs]; omega
      · unfold stepTo
        have e0 : rd [d % W - c % W, d / W - c / W] 0 = d % W - c % W := rfl
        have e1 : rd [d % W - c % W, d / W - c / W] 1 = d / W - c / W := rfl
        rw [e0, e1]
        have e2 : c % W + (d % W - c % W) = d % W := by omega
        have e3 : c / W + (d / W - c / W) = d / W := by omega
        have e4 : d / W * W + d % W = d := by omega
        rw [e2, e3, e4]
        simp only [q1, q2, q3, q4, h1, and_self, if_true]
/-! ### The graph -/
def rowM (W H : Int) (L : List Int) (A B c : Int) : List Int := (stepsM A B).filterMap (stepTo W H L c)
def nearF (W H : Int) (L : List Int) (A B : Int) (N : List (List Int)) (cs : List Int) : List (List Int) := cs.foldl (fun N c => N.set c.toNat (sortL (rd_L1 N c ++ rowM W H L A B c))) N
theorem graphOf_l1 {W H : Int} {L : List Int} {A B : Int} (t : Two W H L A B) (hl : L.length ≤ 1048576) (c : Int) (hc : 0 ≤ c ∧ c < W * H) (cs : List Int) (i : Nat) (hi : i ≤ 100) (xs : List Int) (R : List Int × List (List Int) × Bool) (rest pre : List (List Int)) (hr : ∀ s ∈ rest, ∃ x y : Int, (-5 ≤ x ∧ x ≤ 5) ∧ (-5 ≤ y ∧ y ≤ 5) ∧ s = [x, y]) (hp : (pre ++ rest).length ≤ 121) (N : List (List Int)) (hN : (N.length : Int) = W * H) (hrow : (rd_L1 N c).length ≤ 1000 + pre.length)
    (hR : Ev (fun k => impl_graphOf.l0 k cs (cs.length : Int) ((i + 1 : Nat) : Int) W H L A B W H L A B xs (N.set c.toNat (sortL (rd_L1 N c ++ rest.filterMap (stepTo W H L c))))) R) :
    Ev (fun k => impl_graphOf.l1 k c cs (cs.length : Int) (i : Int) (pre ++ rest) ((pre ++ rest).length : Int) (pre.length : Int) W H L A B W H L A B xs N) R := by
  obtain ⟨g, l⟩ := t
  obtain ⟨p1, p2, p3, p4, p5⟩ := cell_bounds g hc
  have b1 := g.1
  have b2 := g.2.1
  have b3 := g.2.2.2.1
  have hcN : 0 ≤ c ∧ c < (N.length : Int) := by omega
  induction rest generalizing pre N with
  | nil =>
    refine Ev.step (fun k => by rw [impl_graphOf.l1]) ?_
    have h1 : (rd_L1 N c).length < 4611686018427387904 := by simp at hp; omega
    simp only [List.append_nil, nlt_end, if_false, hcN, hc.1, if_true, h1, w_succ (show i ≤ 4611686018427387904 by omega)]
    simpa using hR
  | cons s r ih =>
    refine Ev.step (fun k => by rw [impl_graphOf.l1]) ?_
    obtain ⟨x, y, hx, hy, rfl⟩ := hr s (by simp)
    have h0 : (0 : Int) ≤ (pre.length : Int) := by omega
    have h5 : pre.length ≤ 121 := by simp at hp; omega
    have e0 : rd_L1 (pre ++ [x, y] :: r) (pre.length : Int) = [x, y] := by simp [rd_L1]
    have e1 : rd [x, y] 0 = x := rfl
    have e2 : rd [x, y] 1 = y := rfl
    have n0 : ¬ W = 0 := by omega
    have w1 : wrap64 (c % W + x) = c % W + x := wrap64_in _ (by omega)
    have w2 : wrap64 (c / W) = c / W := wrap64_in _ (by omega)
    have w3 : wrap64 (c / W + y) = c / W + y := wrap64_in _ (by omega)
    have hlen0 : (0 : Int) < (([x, y] : List Int).length : Int) := by simp
    have hlen1 : (1 : Int) < (([x, y] : List Int).length : Int) := by simp
    have back : ∀ N' : List (List Int), (N'.length : Int) = W * H → (rd_L1 N' c).length ≤ 1000 + (pre.length + 1) →
        Ev (fun k => impl_graphOf.l0 k cs (cs.length : Int) ((i + 1 : Nat) : Int) W H L A B W H L A B xs (N'.set c.toNat (sortL (rd_L1 N' c ++ r.filterMap (stepTo W H L c))))) R →
        Ev (fun k => impl_graphOf.l1 k c cs (cs.length : Int) (i : Int) (pre ++ [x, y] :: r) ((pre ++ [x, y] :: r).length : Int) ((pre.length + 1 : Nat) : Int) W H L A B W H L A B xs N') R := by
      intro N' hN' hrow' hR'
      have := ih (pre ++ [[x, y]]) (fun s hs => hr s (by simp [hs])) (by simpa using hp) N' hN' (by simpa using hrow') hR' (by omega)
      simpa using this
    simp only [lt_mid pre [x, y] r, h0, if_true, e0, e1, e2, n0, if_false, tmod_of hc.1, tdiv_of hc.1, w1, w2, w3, hlen0, hlen1, w_succ (show pre.length ≤ 4611686018427387904 by omega)]
    have skip : stepTo W H L c [x, y] = none → Ev (fun k => impl_graphOf.l1 k c cs (cs.length : Int) (i : Int) (pre ++ [x, y] :: r) ((pre ++ [x, y] :: r).length : Int) ((pre.length + 1 : Nat) : Int) W H L A B W H L A B xs N) R := by
      intro hs
      refine back N hN (by omega) ?_
      simpa [List.filterMap_cons, hs] using hR
    have se : stepTo W H L c [x, y] = if 0 ≤ c % W + x ∧ c % W + x < W ∧ 0 ≤ c / W + y ∧ c / W + y < H ∧ hasB W H L ((c / W + y) * W + (c % W + x)) = true then some ((c / W + y) * W + (c % W + x)) else none := rfl
    by_cases c1 : c % W + x ≥ 0
    case neg => simp only [c1, if_false]; exact skip (by rw [se, if_neg]; rintro ⟨h, _⟩; omega)
    simp only [c1, if_true]
    by_cases c2 : c % W + x < W
    case neg => simp only [c2, if_false]; exact skip (by rw [se, if_neg]; rintro ⟨_, h, _⟩; omega)
    simp only [c2, if_true]
    by_cases c3 : c / W + y ≥ 0
    case neg => simp only [c3, if_false]; exact skip (by rw [se, if_neg]; rintro ⟨_, _, h, _⟩; omega)
    simp only [c3, if_true]
    by_cases c4 : c / W + y < H
    case neg => simp only [c4, if_false]; exact skip (by rw [se, if_neg]; rintro ⟨_, _, _, h, _⟩; omega)
    simp only [c4, if_true]
    have m1 : 0 ≤ (c / W + y) * W := Int.mul_nonneg c3 (by omega)
    have m2 : (c / W + y) * W ≤ 8 * 8 := Int.mul_le_mul (by omega) b2 (by omega) (by omega)
    have w4 : wrap64 ((c / W + y) * W) = (c / W + y) * W := wrap64_in _ (by omega)
    have w5 : wrap64 ((c / W + y) * W + (c % W + x)) = (c / W + y) * W + (c % W + x) := wrap64_in _ (by omega)
    simp only [w4, w5]
    refine Ev.bind (has_ev g _ hl) ?_
    cases hh : hasB W H L ((c / W + y) * W + (c % W + x)) with
    | false =>
      simp only [Bool.false_eq_true, if_false]
      exact skip (by rw [se, if_neg]; rintro ⟨_, _, _, _, h⟩; rw [hh] at h; cases h)
    | true =>
      have h9 : (rd_L1 N c).length < 17592186044416 := by omega
      simp only [if_true, hc.1, hcN, h9]
      have hs : stepTo W H L c [x, y] = some ((c / W + y) * W + (c % W + x)) := by
        rw [se, if_pos]; exact ⟨c1, c2, c3, c4, hh⟩
      refine back _ (by simpa using hN) (by rw [rd_L1_set N c _ hcN]; simp; omega) ?_
      rw [rd_L1_set N c _ hcN, List.set_set]
      simpa [List.filterMap_cons, hs] using hR
theorem graphOf_l0 {W H : Int} {L : List Int} {A B : Int} (t : Two W H L A B) (hl : L.length ≤ 1048576) (xs rest pre : List Int) (hr : ∀ c ∈ rest, 0 ≤ c ∧ c < W * H) (hp : (pre ++ rest).length ≤ 64) (N : List (List Int)) (hN : (N.length : Int) = W * H) (hrow : ∀ c ∈ rest, rd_L1 N c = []) (hnd : rest.Nodup) :
    Ev (fun k => impl_graphOf.l0 k (pre ++ rest) ((pre ++ rest).length : Int) (pre.length : Int) W H L A B W H L A B xs N) (xs, nearF W H L A B N rest, true) := by
  induction rest generalizing pre N with
  | nil =>
    refine Ev.step (fun k => by rw [impl_graphOf.l0]) ?_
    simp only [List.append_nil, nlt_end, if_false, nearF, List.foldl_nil]
    exact Ev.now _
  | cons c r ih =>
    refine Ev.step (fun k => by rw [impl_graphOf.l0]) ?_
    have h0 : (0 : Int) ≤ (pre.length : Int) := by omega
    have h5 : pre.length ≤ 64 := by simp at hp; omega
    simp only [lt_mid pre c r, h0, if_true, rd_mid]
    refine Ev.bind (steps_ev A B) ?_
    have hc := hr c (by simp)
    have := graphOf_l1 t hl c hc (pre ++ c :: r) pre.length (by omega) xs (xs, nearF W H L A B N (c :: r), true) (stepsM A B) [] (fun s hs => by
      obtain ⟨x, y, hx, hy, e, _⟩ := (mem_stepsM A B s).1 hs
      exact ⟨x, y, hx, hy, e⟩) (by simpa using stepsM_length A B) N hN (by rw [hrow c (by simp)]; simp) ?_
    · simpa using this
    · have h1 : (N.set c.toNat (sortL (rd_L1 N c ++ rowM W H L A B c))).length = N.length := by simp
      have := ih (pre ++ [c]) (fun d hd => hr d (by simp [hd])) (by simpa using hp) (N.set c.toNat (sortL (rd_L1 N c ++ rowM W H L A B c))) (by omega) (fun d hd => by
        have hdc : d ≠ c := fun e => by subst e; exact (List.nodup_cons.1 hnd).1 hd
        have hd0 := hr d (by simp [hd])
        have := hrow d (by simp [hd])
        unfold rd_L1 at this ⊢
        rw [List.getD_eq_getElem?_getD, List.getElem?_set_ne (by omega)]
        rwa [List.getD_eq_getElem?_getD] at this) (List.nodup_cons.1 hnd).2
      simpa [nearF, rowM] using this
def nearM (W H : Int) (L : List Int) (A B : Int) : List (List Int) := (List.range (W * H).toNat).map fun (i : Nat) => if hasB W H L (i : Int) then leapsM W H L A B (i : Int) else []
theorem nearF_length (W H : Int) (L : List Int) (A B : Int) (cs : List Int) : ∀ N, (nearF W H L A B N cs).length = N.length := by
  induction cs with
  | nil => intro N; rfl
  | cons c r ih => intro N; show (nearF W H L A B _ r).length = _; rw [ih]; simp
theorem nearF_get (W H : Int) (L : List Int) (A B : Int) (cs : List Int) (hn : cs.Nodup) : ∀ N, (∀ c ∈ cs, rd_L1 N c = [] ∧ 0 ≤ c ∧ c < (N.length : Int)) → ∀ i : Nat, i < N.length → rd_L1 (nearF W H L A B N cs) (i : Int) = if (i : Int) ∈ cs then sortL (rowM W H L A B (i : Int)) else rd_L1 N (i : Int) := by
  induction cs with
  | nil => intro N h i hi; simp [nearF]
  | cons c r ih =>
    intro N h i hi
    show rd_L1 (nearF W H L A B (N.set c.toNat (sortL (rd_L1 N c ++ rowM W H L A B c))) r) (i : Int) = _
    obtain ⟨hc0, hc⟩ := h c (by simp)
    obtain ⟨hcr, hr⟩ := List.nodup_cons.1 hn
    have hset : ∀ d : Int, 0 ≤ d → d ≠ c → rd_L1 (N.set c.toNat (sortL (rd_L1 N c ++ rowM W H L A B c))) d = rd_L1 N d := by
      intro d hd0 hdc
      unfold rd_L1
      rw [List.getD_eq_getElem?_getD, List.getElem?_set_ne (by omega), ← List.getD_eq_getElem?_getD]
    rw [ih hr _ (fun d hd => by
      have hd' := h d (by simp [hd])
      refine ⟨?_, hd'.2.1, by simpa using hd'.2.2⟩
      rw [hset d hd'.2.1 (fun e => by subst e; exact hcr hd)]
      exact hd'.1) i (by simpa using hi)]
    by_cases hic : (i : Int) = c
    · have : ¬ (i : Int) ∈ r := by rw [hic]; exact hcr
      rw [if_neg this, hic, rd_L1_set N c _ hc, if_pos (by simp), hc0]
      simp
    · rw [hset _ (by omega) hic]
      have : ((i : Int) ∈ c :: r) ↔ (i : Int) ∈ r := by simp [hic]
      by_cases h2 : (i : Int) ∈ r
      · rw [if_pos h2, if_pos (this.2 h2)]
      · rw [if_neg h2, if_neg (fun h3 => h2 (this.1 h3))]
theorem nearM_get (W H : Int) (L : List Int) (A B c : Int) (h : 0 ≤ c ∧ c < W * H) : rd_L1 (nearM W H L A B) c = if hasB W H L c then leapsM W H L A B c else [] := by
  unfold rd_L1 nearM
  rw [List.getD_eq_getElem?_getD, List.getElem?_map, List.getElem?_range (by omega)]
  have : ((c.toNat : Nat) : Int) = c := by omega
  simp [this]
theorem nearM_length (W H : Int) (L : List Int) (A B : Int) : (nearM W H L A B).length = (W * H).toNat := by simp [nearM]
theorem nearF_eq {W H : Int} {L : List Int} {A B : Int} (t : Two W H L A B) : nearF W H L A B (List.replicate (W * H).toNat []) (cellsM W H L) = nearM W H L A B := by
  have g := t.1
  have ha := g.area
  have hrep : ∀ d : Int, rd_L1 (List.replicate (W * H).toNat ([] : List Int)) d = [] := by
    intro d
    unfold rd_L1
    rw [List.getD_eq_getElem?_getD, List.getElem?_replicate]
    split <;> rfl
  have hnd : (cellsM W H L).Nodup := (cellsM_sorted W H L).imp (fun h => by omega)
  refine List.ext_getElem (by rw [nearF_length, nearM_length]; simp) fun i h1 h2 => ?_
  have hi : i < (W * H).toNat := by rw [nearM_length] at h2; exact h2
  have k1 := nearF_get W H L A B (cellsM W H L) hnd (List.replicate (W * H).toNat []) (fun c hc => ⟨hrep c, (has_range (mem_cellsM.1 hc)).1, by have := (has_range (mem_cellsM.1 hc)).2; simp; omega⟩) i (by simpa using hi)
  have k2 := nearM_get W H L A B (i : Int) (by omega)
  have r1 : rd_L1 (nearF W H L A B (List.replicate (W * H).toNat []) (cellsM W H L)) (i : Int) = (nearF W H L A B (List.replicate (W * H).toNat []) (cellsM W H L))[i] := by
    unfold rd_L1; rw [List.getD_eq_getElem?_getD, Int.toNat_natCast, List.getElem?_eq_getElem h1]; rfl
  have r2 : rd_L1 (nearM W H L A B) (i : Int) = (nearM W H L A B)[i] := by
    unfold rd_L1; rw [List.getD_eq_getElem?_getD, Int.toNat_natCast, List.getElem?_eq_getElem h2]; rfl
  rw [← r1, ← r2, k1, k2]
  by_cases hh : hasB W H L (i : Int) = true
  · rw [if_pos (mem_cellsM.2 hh), if_pos hh]
    exact near_key t (i : Int) (by omega)
  · rw [if_neg (fun h => hh (mem_cellsM.1 h)), if_neg hh]
    exact hrep _
theorem graphOf_no {W H : Int} {L : List Int} {A B : Int} : Ev (fun k => impl_graphOf.j0 k true W H L A B) (([] : List Int), ([] : List (List Int)), false) := by
  refine Ev.step (fun k => by rw [impl_graphOf.j0]) ?_
  simp only [if_true]
  exact Ev.now _
theorem graphOf_two {W H : Int} {L : List Int} {A B : Int} (t : Two W H L A B) (hl : L.length ≤ 1048576) : Ev (fun k => impl_graphOf.f k W H L A B) (cellsM W H L, nearM W H L A B, true) := by
  have ha := t.1.area
  unfold impl_graphOf.f
  refine Ev.bind (isBoard_ev W H L hl) ?_
  have g := t.1
  have l := t.2
  simp only [g, l, decide_true, if_true, isLeaper_eq, Option.bind_some, Bool.not_true]
  refine Ev.step (fun k => by rw [impl_graphOf.j0]) ?_
  simp only [Bool.false_eq_true, if_false]
  refine Ev.bind (present_ev g hl) ?_
  have h1 : 0 ≤ W * H := by omega
  have h2 : (W * H).toNat ≤ 11728124029610 := by omega
  simp only [g.wrapArea, h1, h2, if_true]
  have := graphOf_l0 t hl (cellsM W H L) (cellsM W H L) [] (fun c hc => has_range (mem_cellsM.1 hc)) (by simpa using cellsM_length g) (List.replicate (W * H).toNat []) (by simp; omega) (fun d hd => by
    unfold rd_L1
    rw [List.getD_eq_getElem?_getD, List.getElem?_replicate]
    split <;> rfl) ((cellsM_sorted W H L).imp (fun h => by omega))
  rw [nearF_eq t] at this
  simpa using this
theorem graphOf_not {W H : Int} {L : List Int} {A B : Int} (t : ¬ Two W H L A B) (hl : L.length ≤ 1048576) : Ev (fun k => impl_graphOf.f k W H L A B) (([] : List Int), ([] : List (List Int)), false) := by
  unfold impl_graphOf.f
  refine Ev.bind (isBoard_ev W H L hl) ?_
  by_cases g : BoardM W H L
  · have l : ¬ Leap A B := fun l => t ⟨g, l⟩
    simp only [g, l, decide_true, decide_false, if_true, isLeaper_eq, Option.bind_some, Bool.not_false]
    exact graphOf_no
  · simp only [g, decide_false, Bool.false_eq_true, if_false]
    exact graphOf_no
end Go.Proofs.Ytbecdckdbeoomaa.H

namespace Go.Proofs.Ytbecdckdbeoomaa.H
open Go.RowKit Go.IntWalk Go.Proofs.Ytbecdckdbeoomaa.Q Go.Proofs.YtbecdckdbeoomaaW.PrintWords Go.Proofs.YtbecdckdbeoomaaW.PrintMore
set_option linter.unusedVariables false
set_option linter.unusedSimpArgs false
theorem near_at {W H : Int} {L : List Int} {A B c : Int} (h : hasB W H L c = true) : rd_L1 (nearM W H L A B) c = leapsM W H L A B c := by
  rw [nearM_get W H L A B c (has_range h), if_pos h]
theorem near_in {W H : Int} {L : List Int} {A B c : Int} (g : BoardM W H L) (h : hasB W H L c = true) : 0 ≤ c ∧ c < ((nearM W H L A B).length : Int) := by
  have := has_range h
  have := g.area
  rw [nearM_length]; omega
theorem leaps_contains {W H : Int} {L : List Int} {A B c d : Int} : (leapsM W H L A B c).contains d = (hasB W H L d && isB W A B c d) := by
  rw [Bool.eq_iff_iff]
  simp [leapsM, List.mem_filter, mem_cellsM]
theorem leaps_ev {W H : Int} {L : List Int} {A B : Int} (g : BoardM W H L) (c d : Int) (hc : hasB W H L c = true) (hd : hasB W H L d = true) : Ev (fun k => impl_graph_leaps.f k W H L A B (cellsM W H L) (nearM W H L A B) c d) (isB W A B c d) := by
  have hn := near_in (A := A) (B := B) g hc
  have hl := leapsM_length g A B c
  simp only [impl_graph_leaps.f, hn.1, hn.2, if_true, near_at hc]
  refine Ev.bind (contains_ev _ d (by omega)) ?_
  rw [leaps_contains, hd, Bool.true_and]
  exact Ev.now _
end Go.Proofs.Ytbecdckdbeoomaa.H

namespace Go.Proofs.Ytbecdckdbeoomaa.H
open Go.RowKit Go.IntWalk Go.Proofs.Ytbecdckdbeoomaa.Q Go.Proofs.YtbecdckdbeoomaaW.PrintWords Go.Proofs.YtbecdckdbeoomaaW.PrintMore
set_option linter.unusedVariables false
set_option linter.unusedSimpArgs false
def pathR (W H : Int) (L : List Int) (A B : Int) : Int → List Int → Bool
  | _, [] => true
  | y, x :: r => hasB W H L x && isB W A B y x && pathR W H L A B x r
def pathB (W H : Int) (L : List Int) (A B : Int) : List Int → Bool
  | [] => false
  | x :: r => decide (r.length ≤ 63) && hasB W H L x && pathR W H L A B x r
def norepR : List Int → List Int → Bool
  | _, [] => true
  | pre, c :: r => !pre.contains c && norepR (pre ++ [c]) r
def walkB (W H : Int) (L : List Int) (A B : Int) (s : List Int) : Bool := pathB W H L A B s && norepR [] s
theorem pathR_has {W H : Int} {L : List Int} {A B : Int} (r : List Int) : ∀ y, pathR W H L A B y r = true → ∀ x ∈ r, hasB W H L x = true := by
  induction r with
  | nil => intro y _ x hx; cases hx
  | cons z r ih =>
    intro y h x hx
    simp only [pathR, Bool.and_eq_true] at h
    rcases List.mem_cons.1 hx with rfl | hx
    · exact h.1.1
    · exact ih z h.2 x hx
theorem pathB_has {W H : Int} {L : List Int} {A B : Int} {s : List Int} (h : pathB W H L A B s = true) : 1 ≤ s.length ∧ s.length ≤ 64 ∧ ∀ x ∈ s, hasB W H L x = true := by
  cases s with
  | nil => simp [pathB] at h
  | cons x r =>
    simp only [pathB, Bool.and_eq_true, decide_eq_true_eq] at h
    refine ⟨by simp, by simp; omega, ?_⟩
    intro z hz
    rcases List.mem_cons.1 hz with rfl | hz
    · exact h.1.2
    · exact pathR_has r x h.2 z hz
theorem walkB_has {W H : Int} {L : List Int} {A B : Int} {s : List Int} (h : walkB W H L A B s = true) : 1 ≤ s.length ∧ s.length ≤ 64 ∧ ∀ x ∈ s, hasB W H L x = true := by
  simp only [walkB, Bool.and_eq_true] at h
  exact pathB_has h.1
theorem isPath_loop {W H : Int} {L : List Int} (g : BoardM W H L) (hl : L.length ≤ 1048576) (A B : Int) (rest q : List Int) (y : Int) (hy : hasB W H L y = true) (hp : (q ++ y :: rest).length ≤ 64) :
    Ev (fun k => impl_graph_isPath.l0 k (q ++ y :: rest) (q ++ y :: rest) ((q ++ y :: rest).length : Int) ((q.length + 1 : Nat) : Int) W H L A B (cellsM W H L) (nearM W H L A B)) (pathR W H L A B y rest) := by
  induction rest generalizing q y with
  | nil =>
    refine Ev.step (fun k => by rw [impl_graph_isPath.l0]) ?_
    have h1 : ¬ (((q.length + 1 : Nat) : Int) < ((q ++ [y]).length : Int)) := by simp
    simp only [h1, if_false, pathR]
    exact Ev.now _
  | cons x r ih =>
    refine Ev.step (fun k => by rw [impl_graph_isPath.l0]) ?_
    have hq : q.length + 1 ≤ 63 := by simp at hp; omega
    have h1 : (((q.length + 1 : Nat) : Int) < ((q ++ y :: x :: r).length : Int)) := by simp; omega
    have h2 : (0 : Int) ≤ ((q.length + 1 : Nat) : Int) := by omega
    have h3 : ((q.length + 1 : Nat) : Int) > 0 := by omega
    have h4 : wrap64 (((q.length + 1 : Nat) : Int) - 1) = (q.length : Int) := by rw [wrap64_in _ (by omega)]; omega
    have h5 : (0 : Int) ≤ (q.length : Int) := by omega
    have e : q ++ y :: x :: r = (q ++ [y]) ++ x :: r := by simp
    have e2 : rd (q ++ y :: x :: r) ((q.length + 1 : Nat) : Int) = x := by
      have := rd_mid (q ++ [y]) x r
      rw [e]; simpa using this
    simp only [h1, h2, h3, h4, h5, e2, if_true, lt_mid q y (x :: r), rd_mid q y (x :: r), w_succ (show q.length + 1 ≤ 4611686018427387904 by omega), pathR]
    refine Ev.bind (has_ev g x hl) ?_
    rcases Bool.eq_false_or_eq_true (hasB W H L x) with hx | hx
    · simp only [hx, if_true, Bool.true_and]
      refine Ev.bind (leaps_ev g y x hy hx) ?_
      rcases Bool.eq_false_or_eq_true (isB W A B y x) with hi | hi
      · simp only [hi, if_true, Bool.true_and]
        have := ih (q ++ [y]) x hx (by simpa using hp)
        simpa using this
      · simp only [hi, Bool.false_eq_true, if_false, Bool.false_and]
        exact Ev.now _
    · simp only [hx, Bool.false_eq_true, if_false, Bool.false_and]
      exact Ev.now _
theorem isPath_no {W H : Int} {L : List Int} {A B : Int} {s : List Int} {cs : List Int} {nr : List (List Int)} : Ev (fun k => impl_graph_isPath.j0 k s true W H L A B cs nr) false := by
  refine Ev.step (fun k => by rw [impl_graph_isPath.j0]) ?_
  simp only [if_true]
  exact Ev.now _
theorem isPath_ev {W H : Int} {L : List Int} (g : BoardM W H L) (hl : L.length ≤ 1048576) (A B : Int) (s : List Int) : Ev (fun k => impl_graph_isPath.f k W H L A B (cellsM W H L) (nearM W H L A B) s) (pathB W H L A B s) := by
  unfold impl_graph_isPath.f
  cases s with
  | nil =>
    have : ((([] : List Int).length : Int) < 1) := by simp
    simp only [this, if_true, pathB]
    exact isPath_no
  | cons x r =>
    have h0 : ¬ (((x :: r).length : Int) < 1) := by simp; omega
    simp only [h0, if_false]
    by_cases h : r.length ≤ 63
    · have h1 : decide (((x :: r).length : Int) > 64) = false := by simp; omega
      simp only [h1, pathB, h, decide_true, Bool.true_and]
      refine Ev.step (fun k => by rw [impl_graph_isPath.j0]) ?_
      simp only [Bool.false_eq_true, if_false]
      refine Ev.step (fun k => by rw [impl_graph_isPath.l0]) ?_
      have h2 : (0 : Int) < ((x :: r).length : Int) := by simp only [List.length_cons]; omega
      have h3 : (0 : Int) ≤ 0 := by omega
      have h4 : ¬ ((0 : Int) > 0) := by omega
      have e : rd (x :: r) 0 = x := rfl
      have e1 : wrap64 (0 + 1) = 1 := wrap64_in _ (by omega)
      simp only [h2, h3, h4, e, e1, if_true, if_false]
      refine Ev.bind (has_ev g x hl) ?_
      rcases Bool.eq_false_or_eq_true (hasB W H L x) with hx | hx
      · simp only [hx, if_true, Bool.true_and]
        have := isPath_loop g hl A B r [] x hx (by simp; omega)
        simpa using this
      · simp only [hx, Bool.false_eq_true, if_false, Bool.false_and]
        exact Ev.now _
    · have h1 : decide (((x :: r).length : Int) > 64) = true := by simp; omega
      simp only [h1, pathB, h, decide_false, Bool.false_and]
      exact isPath_no
theorem take_mid (pre : List Int) (c : Int) (r : List Int) : (pre ++ c :: r).take ((pre.length : Int)).toNat = pre := by simp
theorem isWalk_loop (rest pre : List Int) (hp : (pre ++ rest).length ≤ 64) : Ev (fun k => impl_graph_isWalk.l0 k (pre ++ rest) (pre ++ rest) ((pre ++ rest).length : Int) (pre.length : Int)) (norepR pre rest) := by
  induction rest generalizing pre with
  | nil =>
    refine Ev.step (fun k => by rw [impl_graph_isWalk.l0]) ?_
    simp only [List.append_nil, nlt_end, if_false, norepR]
    exact Ev.now _
  | cons c r ih =>
    refine Ev.step (fun k => by rw [impl_graph_isWalk.l0]) ?_
    have h0 : (0 : Int) ≤ (pre.length : Int) := by omega
    have h5 : pre.length ≤ 64 := by simp at hp; omega
    have h6 : (pre.length : Int) ≤ ((pre ++ c :: r).length : Int) := by simp; omega
    simp only [lt_mid pre c r, h0, h6, if_true, rd_mid, take_mid, norepR, w_succ (show pre.length ≤ 4611686018427387904 by omega)]
    refine Ev.bind (contains_ev pre c (by omega)) ?_
    rcases Bool.eq_false_or_eq_true (pre.contains c) with hx | hx
    · simp only [hx, if_true, Bool.not_true, Bool.false_and]
      exact Ev.now _
    · simp only [hx, Bool.false_eq_true, if_false, Bool.not_false, Bool.true_and]
      have := ih (pre ++ [c]) (by simpa using hp)
      simpa using this
theorem isWalk_ev {W H : Int} {L : List Int} (g : BoardM W H L) (hl : L.length ≤ 1048576) (A B : Int) (s : List Int) : Ev (fun k => impl_graph_isWalk.f k W H L A B (cellsM W H L) (nearM W H L A B) s) (walkB W H L A B s) := by
  unfold impl_graph_isWalk.f walkB
  refine Ev.bind (isPath_ev g hl A B s) ?_
  rcases Bool.eq_false_or_eq_true (pathB W H L A B s) with hx | hx
  · simp only [hx, if_true, Bool.true_and]
    have := isWalk_loop s [] (by simpa using (pathB_has hx).2.1)
    simpa using this
  · simp only [hx, Bool.false_eq_true, if_false, Bool.false_and]
    exact Ev.now _
end Go.Proofs.Ytbecdckdbeoomaa.H

namespace Go.Proofs.Ytbecdckdbeoomaa.H
set_option linter.unusedVariables false
set_option linter.unusedSimpArgs false
end Go.Proofs.Ytbecdckdbeoomaa.H

namespace Go.Proofs.Ytbecdckdbeoomaa.H
open Go.RowKit Go.IntWalk Go.Proofs.Ytbecdckdbeoomaa.Q Go.Proofs.YtbecdckdbeoomaaW.PrintWords Go.Proofs.YtbecdckdbeoomaaW.PrintMore
set_option linter.unusedVariables false
set_option linter.unusedSimpArgs false
def disjB (p q : List Int) : Bool := p.all fun c => !q.contains c
section
variable {W H : Int} {L : List Int} {A B : Int}
theorem rd_tail (x : Int) (r : List Int) (j : Nat) : rd (x :: r) ((j + 1 : Nat) : Int) = rd r (j : Int) := by
  unfold rd
  rw [show (((j + 1 : Nat) : Int)).toNat = j + 1 by omega, show ((j : Int)).toNat = j by omega]
  simp [List.getD_eq_getElem?_getD]
theorem pathR_append (v r : List Int) : ∀ x : Int, pathR W H L A B x (r ++ v) = (pathR W H L A B x r && pathR W H L A B (rd (x :: r) (r.length : Int)) v) := by
  induction r with
  | nil => intro x; simp [pathR]; rfl
  | cons y r ih =>
    intro x
    rw [List.cons_append, pathR, pathR, ih y]
    have e : rd (x :: y :: r) ((y :: r).length : Int) = rd (y :: r) (r.length : Int) := rd_tail x (y :: r) r.length
    rw [e]
    simp only [Bool.and_assoc]
theorem norepR_append (u v : List Int) : ∀ pre, norepR pre (u ++ v) = (norepR pre u && norepR (pre ++ u) v) := by
  induction u with
  | nil => intro pre; simp [norepR]
  | cons c r ih =>
    intro pre
    rw [List.cons_append, norepR, norepR, ih]
    simp only [List.append_assoc, List.singleton_append, Bool.and_assoc]
theorem norepR_split (r : List Int) : ∀ pre w, norepR (pre ++ w) r = ((r.all fun c => !pre.contains c) && norepR w r) := by
  induction r with
  | nil => intro pre w; rfl
  | cons c r ih =>
    intro pre w
    rw [norepR, norepR, List.append_assoc, ih, List.all_cons]
    have e : (pre ++ w).contains c = (pre.contains c || w.contains c) := by
      rw [Bool.eq_iff_iff]; simp
    rw [e]
    cases pre.contains c <;> cases w.contains c <;> cases (r.all fun c => !pre.contains c) <;> rfl
theorem disj_flip (p q : List Int) : (q.all fun c => !p.contains c) = disjB p q := by
  unfold disjB
  rw [Bool.eq_iff_iff, List.all_eq_true, List.all_eq_true]
  constructor
  · intro h x hx
    have : ¬ x ∈ q := fun h2 => by have := h x h2; simp at this; exact this hx
    simpa using this
  · intro h x hx
    have : ¬ x ∈ p := fun h2 => by have := h x h2; simp at this; exact this hx
    simpa using this
theorem walk_append {p q : List Int} (hp : walkB W H L A B p = true) (hq : walkB W H L A B q = true) :
    walkB W H L A B (p ++ q) = (decide ((p ++ q).length ≤ 64) && isB W A B (rd p ((p.length - 1 : Nat) : Int)) (rd q 0) && disjB p q) := by
  obtain ⟨p1, p2, p3⟩ := walkB_has hp
  obtain ⟨q1, q2, q3⟩ := walkB_has hq
  unfold walkB at hp hq ⊢
  rw [Bool.and_eq_true] at hp hq
  rw [norepR_append, hp.2, List.nil_append, Bool.true_and]
  have e : norepR p q = disjB p q := by
    have := norepR_split q p []
    rw [List.append_nil, disj_flip, hq.2, Bool.and_true] at this
    exact this
  rw [e]
  congr 1
  cases p with
  | nil => simp at p1
  | cons x r =>
    cases q with
    | nil => simp at q1
    | cons z v =>
      have hp1 := hp.1
      have hq1 := hq.1
      simp only [pathB, Bool.and_eq_true] at hp1 hq1
      rw [List.cons_append, pathB, pathR_append, hp1.1.2, hp1.2, pathR, hq1.1.2, hq1.2]
      have e1 : rd (x :: r) ((((x :: r).length - 1 : Nat)) : Int) = rd (x :: r) (r.length : Int) := by simp
      have e2 : rd (z :: v) 0 = z := rfl
      have e3 : decide ((r ++ z :: v).length ≤ 63) = decide ((x :: (r ++ z :: v)).length ≤ 64) := by
        rw [List.length_cons]
        by_cases h : (r ++ z :: v).length ≤ 63
        · rw [decide_eq_true h, decide_eq_true (by omega)]
        · rw [decide_eq_false h, decide_eq_false (by omega)]
      rw [e1, e2, e3]
      simp only [Bool.and_true, Bool.true_and]
end
end Go.Proofs.Ytbecdckdbeoomaa.H

namespace Go.Proofs.Ytbecdckdbeoomaa.H
open Go.RowKit Go.IntWalk Go.Proofs.Ytbecdckdbeoomaa.Q Go.Proofs.YtbecdckdbeoomaaW.PrintWords Go.Proofs.YtbecdckdbeoomaaW.PrintMore
set_option linter.unusedVariables false
set_option linter.unusedSimpArgs false
def sok (A B x y : Int) : Bool := (decide ((x.natAbs : Int) = A) && decide ((y.natAbs : Int) = B)) || (decide ((x.natAbs : Int) = B) && decide ((y.natAbs : Int) = A))
def rowS (A B x : Int) (n : Nat) (y : Int) : List (List Int) := ((ys y n).filter (sok A B x)).map fun y => [x, y]
def specS (A B : Int) (n : Nat) (x : Int) : List (List Int) := (ys x n).flatMap fun x => rowS A B x (2 * B + 1).toNat (-B)
theorem rowS_length (A B x : Int) (n : Nat) (y : Int) : (rowS A B x n y).length ≤ n := by
  unfold rowS
  rw [List.length_map]
  exact Nat.le_trans (List.length_filter_le _ _) (by rw [ys_length]; omega)
theorem boSteps_l1 (A B x : Int) (hB : 1 ≤ B ∧ B ≤ 5) (hx : -5 ≤ x ∧ x ≤ 5) (R : List (List Int)) : ∀ (n : Nat) (y : Int), y + n = B + 1 → -5 ≤ y → ∀ acc : List (List Int), acc.length + n ≤ 100000 →
    Ev (fun k => spec_boSteps.l0 k (acc ++ rowS A B x n y) (x + 1) A B) R → Ev (fun k => spec_boSteps.l1 k acc x y A B) R := by
  intro n
  induction n with
  | zero =>
    intro y h1 h2 acc ha hR
    refine Ev.step (fun k => by rw [spec_boSteps.l1]) ?_
    have h4 : ¬ y ≤ B := by omega
    have e : wrap64 (x + 1) = x + 1 := wrap64_in _ (by omega)
    simp only [h4, if_false, e]
    simpa [rowS, ys] using hR
  | succ n ih =>
    intro y h1 h2 acc ha hR
    refine Ev.step (fun k => by rw [spec_boSteps.l1]) ?_
    have h4 : y ≤ B := by omega
    have e1 : wrap64 (y + 1) = y + 1 := wrap64_in _ (by omega)
    have h5 : acc.length < 5864062014805 := by omega
    simp only [h4, if_true, e1, l1Abs_eq x (by omega), l1Abs_eq y (by omega), Option.bind_some, h5]
    have yes : sok A B x y = true → Ev (fun k => spec_boSteps.l1 k (acc ++ [[x, y]]) x (y + 1) A B) R := by
      intro hs
      refine ih (y + 1) (by omega) (by omega) (acc ++ [[x, y]]) (by simp; omega) ?_
      simpa [rowS, ys, List.filter_cons, hs] using hR
    have no : sok A B x y = false → Ev (fun k => spec_boSteps.l1 k acc x (y + 1) A B) R := by
      intro hs
      refine ih (y + 1) (by omega) (by omega) acc (by omega) ?_
      simpa [rowS, ys, List.filter_cons, hs] using hR
    have hs : sok A B x y = ((decide ((x.natAbs : Int) = A) && decide ((y.natAbs : Int) = B)) || (decide ((x.natAbs : Int) = B) && decide ((y.natAbs : Int) = A))) := rfl
    by_cases c1 : (x.natAbs : Int) = A
    · simp only [if_pos c1]
      by_cases c2 : (y.natAbs : Int) = B
      · simp only [if_pos c2]
        exact yes (by rw [hs, decide_eq_true c1, decide_eq_true c2]; rfl)
      · simp only [if_neg c2]
        by_cases c3 : (x.natAbs : Int) = B
        · simp only [if_pos c3]
          by_cases c4 : (y.natAbs : Int) = A
          · simp only [if_pos c4]
            exact yes (by rw [hs, decide_eq_true c3, decide_eq_true c4]; simp)
          · simp only [if_neg c4]
            exact no (by rw [hs, decide_eq_false c2, decide_eq_false c4]; simp)
        · simp only [if_neg c3]
          exact no (by rw [hs, decide_eq_false c2, decide_eq_false c3]; simp)
    · simp only [if_neg c1]
      by_cases c3 : (x.natAbs : Int) = B
      · simp only [if_pos c3]
        by_cases c4 : (y.natAbs : Int) = A
        · simp only [if_pos c4]
          exact yes (by rw [hs, decide_eq_true c3, decide_eq_true c4]; simp)
        · simp only [if_neg c4]
          exact no (by rw [hs, decide_eq_false c1, decide_eq_false c4]; simp)
      · simp only [if_neg c3]
        exact no (by rw [hs, decide_eq_false c1, decide_eq_false c3]; simp)
theorem boSteps_l0 (A B : Int) (hB : 1 ≤ B ∧ B ≤ 5) : ∀ (n : Nat) (x : Int), x + n = B + 1 → -5 ≤ x → ∀ acc : List (List Int), (acc.length : Int) ≤ 20 * (x + 5) →
    Ev (fun k => spec_boSteps.l0 k acc x A B) (acc ++ specS A B n x) := by
  intro n
  induction n with
  | zero =>
    intro x h1 h2 acc h3
    refine Ev.step (fun k => by rw [spec_boSteps.l0]) ?_
    have h4 : ¬ x ≤ B := by omega
    simp only [h4, if_false, specS, ys, List.flatMap_nil, List.append_nil]
    exact Ev.now _
  | succ n ih =>
    intro x h1 h2 acc h3
    refine Ev.step (fun k => by rw [spec_boSteps.l0]) ?_
    have h4 : x ≤ B := by omega
    have e : wrap64 (-B) = -B := wrap64_in _ (by omega)
    simp only [h4, if_true, e]
    refine boSteps_l1 A B x hB ⟨h2, by omega⟩ _ (2 * B + 1).toNat (-B) (by omega) (by omega) acc (by omega) ?_
    have hlen := rowS_length A B x (2 * B + 1).toNat (-B)
    have := ih (x + 1) (by omega) (by omega) (acc ++ rowS A B x (2 * B + 1).toNat (-B)) (by rw [List.length_append]; omega)
    have e2 : specS A B (n + 1) x = rowS A B x (2 * B + 1).toNat (-B) ++ specS A B n (x + 1) := by
      show (x :: ys (x + 1) n).flatMap _ = _
      rw [List.flatMap_cons]; rfl
    rw [e2, ← List.append_assoc]
    exact this
theorem specS_eq (A B : Int) (l : Leap A B) : specS A B (2 * B + 1).toNat (-B) = stepsM A B := by
  obtain ⟨h1, h2, h3, h4⟩ := l
  have hb : B = 1 ∨ B = 2 ∨ B = 3 ∨ B = 4 ∨ B = 5 := by omega
  have ha : A = 0 ∨ A = 1 ∨ A = 2 ∨ A = 3 ∨ A = 4 ∨ A = 5 := by omega
  rcases hb with rfl | rfl | rfl | rfl | rfl <;> rcases ha with rfl | rfl | rfl | rfl | rfl | rfl <;> first | omega | decide +kernel
theorem boSteps_ev (A B : Int) (l : Leap A B) : Ev (fun k => spec_boSteps.f k A B) (stepsM A B) := by
  have l1 := l.2.2.1
  have l2 := l.2.2.2
  unfold spec_boSteps.f
  rw [wrap64_in _ (by omega), ← specS_eq A B l]
  have := boSteps_l0 A B ⟨l1, l2⟩ (2 * B + 1).toNat (-B) (by omega) (by omega) [] (by simp; omega)
  simpa using this
end Go.Proofs.Ytbecdckdbeoomaa.H

namespace Go.Proofs.Ytbecdckdbeoomaa.H
open Go.RowKit Go.IntWalk Go.Proofs.Ytbecdckdbeoomaa.Q Go.Proofs.YtbecdckdbeoomaaW.PrintWords Go.Proofs.YtbecdckdbeoomaaW.PrintMore
set_option linter.unusedVariables false
set_option linter.unusedSimpArgs false
def AskM (W H : Int) (L : List Int) (A B x y : Int) : Prop := Two W H L A B ∧ hasB W H L x = true ∧ hasB W H L y = true
theorem implTwo_yes {W H : Int} {L : List Int} {A B x y : Int} (t : AskM W H L A B x y) (hl : L.length ≤ 1048576) : Ev (fun k => impl_two.f k W H L A B x y) (cellsM W H L, nearM W H L A B, true) := by
  obtain ⟨t, hx, hy⟩ := t
  unfold impl_two.f
  refine Ev.bind (graphOf_two t hl) ?_
  simp only [if_true]
  refine Ev.bind (has_ev t.1 x hl) ?_
  simp only [hx, if_true]
  refine Ev.bind (has_ev t.1 y hl) ?_
  simp only [hy, if_true]
  exact Ev.now _
theorem implTwo_no {W H : Int} {L : List Int} {A B x y : Int} (t : ¬ AskM W H L A B x y) (hl : L.length ≤ 1048576) : Ev (fun k => impl_two.f k W H L A B x y) (([] : List Int), ([] : List (List Int)), false) := by
  unfold impl_two.f
  by_cases t2 : Two W H L A B
  · refine Ev.bind (graphOf_two t2 hl) ?_
    simp only [if_true]
    refine Ev.bind (has_ev t2.1 x hl) ?_
    rcases Bool.eq_false_or_eq_true (hasB W H L x) with hx | hx
    · simp only [hx, if_true]
      refine Ev.bind (has_ev t2.1 y hl) ?_
      rcases Bool.eq_false_or_eq_true (hasB W H L y) with hy | hy
      · exact absurd ⟨t2, hx, hy⟩ t
      · simp only [hy, Bool.false_eq_true, if_false]
        exact Ev.now _
    · simp only [hx, Bool.false_eq_true, if_false]
      exact Ev.now _
  · refine Ev.bind (graphOf_not t2 hl) ?_
    simp only [Bool.false_eq_true, if_false]
    exact Ev.now _
end Go.Proofs.Ytbecdckdbeoomaa.H

namespace Go.Proofs.Ytbecdckdbeoomaa.Pure
open Go.RowKit Go.IntWalk Go.Proofs.Ytbecdckdbeoomaa.Q Go.Proofs.Ytbecdckdbeoomaa.H Go.Proofs.YtbecdckdbeoomaaW.PrintWords Go.Proofs.YtbecdckdbeoomaaW.PrintMore
set_option linter.unusedVariables false
set_option linter.unusedSimpArgs false
def lastC (p : List Int) : Int := rd p ((p.length - 1 : Nat) : Int)
def nextX (W : Int) (c : Int) (s : List Int) : Int := c % W + rd s 0
def nextY (W : Int) (c : Int) (s : List Int) : Int := c / W + rd s 1
def nextC (W : Int) (c : Int) (s : List Int) : Int := nextY W c s * W + nextX W c s
def inXY (W H c : Int) (s : List Int) : Prop := (0 ≤ nextX W c s ∧ nextX W c s < W) ∧ 0 ≤ nextY W c s ∧ nextY W c s < H
instance (W H c : Int) (s : List Int) : Decidable (inXY W H c s) := by unfold inXY; exact inferInstance
def goS (W H : Int) (L : List Int) (all : List (List Int)) : List Int → List Int → Option (List Int)
  | p, [] => some p
  | p, k :: r => if (0 ≤ k ∧ k < (all.length : Int)) ∧ inXY W H (lastC p) (rd_L1 all k) ∧ hasB W H L (nextC W (lastC p) (rd_L1 all k)) = true ∧ p.contains (nextC W (lastC p) (rd_L1 all k)) = false then goS W H L all (p ++ [nextC W (lastC p) (rd_L1 all k)]) r else none
def goI (W H : Int) (L : List Int) (A B : Int) (all : List (List Int)) : List Int → List Int → Option (List Int)
  | p, [] => if walkB W H L A B p = true then some p else none
  | p, k :: r => if (0 ≤ k ∧ k < (all.length : Int)) ∧ inXY W H (lastC p) (rd_L1 all k) then goI W H L A B all (p ++ [nextC W (lastC p) (rd_L1 all k)]) r else none
def told (o : Option (List Int)) : List Int × Bool := match o with | some p => (p, true) | none => ([], false)
def Bad (W H : Int) (L p : List Int) : Prop := (∃ x ∈ p, hasB W H L x = false) ∨ norepR [] p = false
section
variable {W H : Int} {L : List Int} {A B : Int}
theorem bad_more {p : List Int} (h : Bad W H L p) (y : Int) : Bad W H L (p ++ [y]) := by
  rcases h with ⟨x, hx, h⟩ | h
  · exact .inl ⟨x, by simp [hx], h⟩
  · refine .inr ?_
    rw [norepR_append, h]; rfl
theorem bad_walk {p : List Int} (h : Bad W H L p) : walkB W H L A B p = false := by
  rcases Bool.eq_false_or_eq_true (walkB W H L A B p) with hw | hw
  · exfalso
    rcases h with ⟨x, hx, h⟩ | h
    · rw [(walkB_has hw).2.2 x hx] at h; cases h
    · unfold walkB at hw
      rw [h, Bool.and_false] at hw; cases hw
  · exact hw
theorem goI_bad (all : List (List Int)) (r : List Int) : ∀ p, Bad W H L p → goI W H L A B all p r = none := by
  induction r with
  | nil => intro p h; rw [goI, if_neg (by rw [bad_walk h]; simp)]
  | cons k r ih =>
    intro p h
    rw [goI]
    split
    · exact ih _ (bad_more h _)
    · rfl
theorem next_range (g : BoardM W H L) {c : Int} {s : List Int} (h : inXY W H c s) : 0 ≤ nextC W c s ∧ nextC W c s < W * H ∧ nextC W c s % W = nextX W c s ∧ nextC W c s / W = nextY W c s := by
  obtain ⟨h1, h2, h3⟩ := h
  have b1 := g.1
  obtain ⟨m1, m2⟩ := place_mod (W := W) (q := nextY W c s) h1
  have hm : 0 ≤ nextY W c s * W := Int.mul_nonneg h2 (by omega)
  have hm2 : (nextY W c s + 1) * W ≤ H * W := Int.mul_le_mul_of_nonneg_right (by omega) (by omega)
  rw [Int.add_mul, Int.one_mul] at hm2
  have hc : H * W = W * H := Int.mul_comm H W
  unfold nextC
  exact ⟨by omega, by omega, m1, m2⟩
theorem next_isB (g : BoardM W H L) {c : Int} (hc : 0 ≤ c ∧ c < W * H) {s : List Int} (hs : s ∈ stepsM A B) (h : inXY W H c s) : isB W A B c (nextC W c s) = true := by
  obtain ⟨n1, n2, n3, n4⟩ := next_range g h
  obtain ⟨x, y, hx, hy, rfl, h1, h2⟩ := (mem_stepsM A B s).1 hs
  have e0 : rd [x, y] 0 = x := rfl
  have e1 : rd [x, y] 1 = y := rfl
  unfold isB
  rw [n3, n4]
  simp only [nextX, nextY, e0, e1, Bool.or_eq_true, Bool.and_eq_true, decide_eq_true_eq]
  rw [mn_min, mx_abs, mx_abs] at h1
  rw [mx_max, mx_abs, mx_abs] at h2
  omega
theorem row_in (all : List (List Int)) (k : Int) (h : 0 ≤ k ∧ k < (all.length : Int)) : rd_L1 all k ∈ all := by
  unfold rd_L1
  rw [List.getD_eq_getElem?_getD, List.getElem?_eq_getElem (by omega)]
  exact List.getElem_mem _
theorem walk_one {d : Int} (hd : hasB W H L d = true) : walkB W H L A B [d] = true := by
  simp [walkB, pathB, pathR, norepR, hd]
theorem go_same (g : BoardM W H L) (r : List Int) : ∀ p : List Int, walkB W H L A B p = true → p.length + r.length ≤ 64 → goI W H L A B (stepsM A B) p r = goS W H L (stepsM A B) p r := by
  induction r with
  | nil => intro p hw _; rw [goI, goS, if_pos hw]
  | cons k r ih =>
    intro p hw hlen
    obtain ⟨p1, p2, p3⟩ := walkB_has hw
    have hb : hasB W H L (lastC p) = true := by
      unfold lastC
      rw [rd_nat p (p.length - 1) (by omega)]; exact p3 _ (List.getElem_mem _)
    rw [goI, goS]
    by_cases c1 : (0 ≤ k ∧ k < ((stepsM A B).length : Int)) ∧ inXY W H (lastC p) (rd_L1 (stepsM A B) k)
    · rw [if_pos c1]
      have hst := row_in (stepsM A B) k c1.1
      have hisB := next_isB (A := A) (B := B) g (has_range hb) hst c1.2
      rcases Bool.eq_false_or_eq_true (hasB W H L (nextC W (lastC p) (rd_L1 (stepsM A B) k))) with h1 | h1
      · rcases Bool.eq_false_or_eq_true (p.contains (nextC W (lastC p) (rd_L1 (stepsM A B) k))) with h2 | h2
        · rw [if_neg (by rintro ⟨_, _, _, h⟩; rw [h2] at h; cases h)]
          refine goI_bad _ _ _ (.inr ?_)
          rw [norepR_append]
          simp only [List.nil_append, norepR, h2, Bool.not_true, Bool.false_and, Bool.and_false]
        · rw [if_pos ⟨c1.1, c1.2, h1, h2⟩]
          refine ih _ ?_ (by simp at hlen ⊢; omega)
          rw [walk_append hw (walk_one h1)]
          have e1 : rd [nextC W (lastC p) (rd_L1 (stepsM A B) k)] 0 = nextC W (lastC p) (rd_L1 (stepsM A B) k) := rfl
          have e2 : disjB p [nextC W (lastC p) (rd_L1 (stepsM A B) k)] = true := by
            rw [← disj_flip]; simp only [List.all_cons, List.all_nil, h2, Bool.not_false, Bool.and_self]
          have e3 : (p ++ [nextC W (lastC p) (rd_L1 (stepsM A B) k)]).length ≤ 64 := by simp at hlen ⊢; omega
          rw [e1, e2, decide_eq_true e3]
          unfold lastC at hisB ⊢
          rw [hisB]; rfl
      · rw [if_neg (by rintro ⟨_, _, h, _⟩; rw [h1] at h; cases h)]
        exact goI_bad _ _ _ (.inl ⟨_, by simp, h1⟩)
    · rw [if_neg c1, if_neg (fun h => c1 ⟨h.1, h.2.1⟩)]
theorem step_two (s : List Int) (h : s ∈ stepsM A B) : ∃ x y : Int, (-5 ≤ x ∧ x ≤ 5) ∧ (-5 ≤ y ∧ y ≤ 5) ∧ s = [x, y] := by
  obtain ⟨x, y, hx, hy, e, _⟩ := (mem_stepsM A B s).1 h
  exact ⟨x, y, hx, hy, e⟩
theorem spec_l0 (g : BoardM W H L) (hl : L.length ≤ 1048576) (rest pre : List Int) (hp : (pre ++ rest).length ≤ 64) : ∀ p : List Int, (∀ x ∈ p, 0 ≤ x ∧ x < W * H) → 1 ≤ p.length → p.length ≤ pre.length + 1 →
    Ev (fun k => spec_WalkOfSteps.l0 k (stepsM A B) p (pre ++ rest) ((pre ++ rest).length : Int) (pre.length : Int) W H L) (told (goS W H L (stepsM A B) p rest)) := by
  have ha := g.area
  have g1 := g.1
  have g2 := g.2.1
  have g3 := g.2.2.1
  have g4 := g.2.2.2.1
  have hst := stepsM_length A B
  induction rest generalizing pre with
  | nil =>
    intro p hpr h1 h2
    refine Ev.step (fun k => by rw [spec_WalkOfSteps.l0]) ?_
    simp only [List.append_nil, nlt_end, if_false, goS, told]
    exact Ev.now _
  | cons k r ih =>
    intro p hpr h1 h2
    refine Ev.step (fun k => by rw [spec_WalkOfSteps.l0]) ?_
    have h0 : (0 : Int) ≤ (pre.length : Int) := by omega
    have h5 : pre.length ≤ 64 := by simp at hp; omega
    have wl : wrap64 (((stepsM A B).length : Int) - 1) = ((stepsM A B).length : Int) - 1 := wrap64_in _ (by omega)
    simp only [lt_mid pre k r, h0, if_true, rd_mid, wl, l1In_eq, Option.bind_some, w_succ (show pre.length ≤ 4611686018427387904 by omega), goS]
    by_cases ck : 0 ≤ k ∧ k < ((stepsM A B).length : Int)
    case neg =>
      have e : (decide (0 ≤ k) && decide (k ≤ ((stepsM A B).length : Int) - 1)) = false := by simp only [Bool.and_eq_false_iff, decide_eq_false_iff_not]; omega
      rw [if_neg (fun h => ck h.1)]
      simp only [e, Bool.false_eq_true, if_false, told]
      exact Ev.now _
    have e : (decide (0 ≤ k) && decide (k ≤ ((stepsM A B).length : Int) - 1)) = true := by simp; omega
    obtain ⟨x, y, hx, hy, hs⟩ := step_two _ (row_in (stepsM A B) k ck)
    have e0 : rd [x, y] 0 = x := rfl
    have e1 : rd [x, y] 1 = y := rfl
    have hl0 : (0 : Int) < (([x, y] : List Int).length : Int) := by simp
    have hl1 : (1 : Int) < (([x, y] : List Int).length : Int) := by simp
    have w0 : wrap64 ((p.length : Int) - 1) = ((p.length - 1 : Nat) : Int) := by rw [wrap64_in _ (by omega)]; omega
    have a1 : (0 : Int) ≤ ((p.length - 1 : Nat) : Int) := by omega
    have a2 : ((p.length - 1 : Nat) : Int) < (p.length : Int) := by omega
    have n0 : ¬ W = 0 := by omega
    have hc : 0 ≤ rd p ((p.length - 1 : Nat) : Int) ∧ rd p ((p.length - 1 : Nat) : Int) < W * H := by
      rw [rd_nat p (p.length - 1) (by omega)]; exact hpr _ (List.getElem_mem _)
    obtain ⟨m1, m2, m3, m4, _⟩ := cell_bounds g hc
    have nx : nextX W (lastC p) [x, y] = rd p ((p.length - 1 : Nat) : Int) % W + x := rfl
    have ny : nextY W (lastC p) [x, y] = rd p ((p.length - 1 : Nat) : Int) / W + y := rfl
    have w1 : wrap64 (rd p ((p.length - 1 : Nat) : Int) % W + x) = nextX W (lastC p) [x, y] := by rw [nx]; exact wrap64_in _ (by omega)
    have w2 : wrap64 (rd p ((p.length - 1 : Nat) : Int) / W) = rd p ((p.length - 1 : Nat) : Int) / W := wrap64_in _ (by omega)
    have w3 : wrap64 (rd p ((p.length - 1 : Nat) : Int) / W + y) = nextY W (lastC p) [x, y] := by rw [ny]; exact wrap64_in _ (by omega)
    have w4 : wrap64 (W - 1) = W - 1 := wrap64_in _ (by omega)
    have w5 : wrap64 (H - 1) = H - 1 := wrap64_in _ (by omega)
    rw [hs]
    simp only [e, if_true]
    simp only [if_true, w0, a1, a2, n0, if_false, ck.1, ck.2, hs, e0, e1, hl0, hl1, tmod_of hc.1, tdiv_of hc.1, w1, w2, w3, w4, w5, l1In_eq, Option.bind_some]
    by_cases cx : 0 ≤ nextX W (lastC p) [x, y] ∧ nextX W (lastC p) [x, y] < W
    case neg =>
      have e2 : (decide (0 ≤ nextX W (lastC p) [x, y]) && decide (nextX W (lastC p) [x, y] ≤ W - 1)) = false := by simp only [Bool.and_eq_false_iff, decide_eq_false_iff_not]; omega
      have e3 : ¬ (True ∧ inXY W H (lastC p) [x, y] ∧ hasB W H L (nextC W (lastC p) [x, y]) = true ∧ p.contains (nextC W (lastC p) [x, y]) = false) := fun h => cx h.2.1.1
      simp only [e2, Bool.false_eq_true, if_false, and_self]
      rw [if_neg e3]
      exact Ev.now _
    have e2 : (decide (0 ≤ nextX W (lastC p) [x, y]) && decide (nextX W (lastC p) [x, y] ≤ W - 1)) = true := by simp; omega
    by_cases cy : 0 ≤ nextY W (lastC p) [x, y] ∧ nextY W (lastC p) [x, y] < H
    case neg =>
      have e4 : (decide (0 ≤ nextY W (lastC p) [x, y]) && decide (nextY W (lastC p) [x, y] ≤ H - 1)) = false := by simp only [Bool.and_eq_false_iff, decide_eq_false_iff_not]; omega
      have e3 : ¬ (True ∧ inXY W H (lastC p) [x, y] ∧ hasB W H L (nextC W (lastC p) [x, y]) = true ∧ p.contains (nextC W (lastC p) [x, y]) = false) := fun h => cy h.2.1.2
      simp only [e2, e4, Bool.false_eq_true, if_true, if_false, and_self]
      rw [if_neg e3]
      exact Ev.now _
    have e4 : (decide (0 ≤ nextY W (lastC p) [x, y]) && decide (nextY W (lastC p) [x, y] ≤ H - 1)) = true := by simp; omega
    have hin : inXY W H (lastC p) [x, y] := ⟨cx, cy⟩
    obtain ⟨q1, q2, q3, q4⟩ := next_range g hin
    have hm1 : 0 ≤ nextY W (lastC p) [x, y] * W := Int.mul_nonneg cy.1 (by omega)
    have hm2 : nextY W (lastC p) [x, y] * W ≤ 8 * 8 := Int.mul_le_mul (by omega) g2 (by omega) (by omega)
    have w6 : wrap64 (nextY W (lastC p) [x, y] * W) = nextY W (lastC p) [x, y] * W := wrap64_in _ (by omega)
    have w7 : wrap64 (nextY W (lastC p) [x, y] * W + nextX W (lastC p) [x, y]) = nextC W (lastC p) [x, y] := wrap64_in _ (by omega)
    simp only [e2, e4, if_true, w6, w7, hin, true_and]
    refine Ev.bind (boHas_ev g _ hl) ?_
    rcases Bool.eq_false_or_eq_true (hasB W H L (nextC W (lastC p) [x, y])) with hh | hh
    · simp only [hh, if_true, true_and]
      refine Ev.bind (l1Has_ev p _ (by omega)) ?_
      rcases Bool.eq_false_or_eq_true (p.contains (nextC W (lastC p) [x, y])) with hv | hv
      · simp only [hv, if_true, Bool.true_eq_false, if_false, told]
        exact Ev.now _
      · have h6 : p.length < 17592186044416 := by omega
        simp only [hv, Bool.false_eq_true, if_false, h6, if_true]
        have := ih (pre ++ [k]) (by simpa using hp) (p ++ [nextC W (lastC p) [x, y]]) (fun z hz => by
          rcases List.mem_append.1 hz with h | h
          · exact hpr z h
          · rw [List.mem_singleton.1 h]; exact ⟨q1, q2⟩) (by simp) (by simp; omega)
        simpa using this
    · simp only [hh, Bool.false_eq_true, false_and, if_false, told]
      exact Ev.now _
theorem impl_no {all : List (List Int)} {p s : List Int} {k n i : Int} {cs : List Int} {nr : List (List Int)} : Ev (fun m => impl_WalkOfSteps.j1 m all p k s n i true W H L W H L A B cs nr) (([] : List Int), false) := by
  refine Ev.step (fun m => by rw [impl_WalkOfSteps.j1]) ?_
  simp only [if_true]
  exact Ev.now _
theorem impl_l0 (g : BoardM W H L) (hl : L.length ≤ 1048576) (rest pre : List Int) (hp : (pre ++ rest).length ≤ 64) : ∀ p : List Int, (∀ x ∈ p, 0 ≤ x ∧ x < W * H) → 1 ≤ p.length → p.length ≤ pre.length + 1 →
    Ev (fun k => impl_WalkOfSteps.l0 k (stepsM A B) p (pre ++ rest) ((pre ++ rest).length : Int) (pre.length : Int) W H L W H L A B (cellsM W H L) (nearM W H L A B)) (told (goI W H L A B (stepsM A B) p rest)) := by
  have ha := g.area
  have g1 := g.1
  have g2 := g.2.1
  have g3 := g.2.2.1
  have g4 := g.2.2.2.1
  have hst := stepsM_length A B
  induction rest generalizing pre with
  | nil =>
    intro p hpr h1 h2
    refine Ev.step (fun k => by rw [impl_WalkOfSteps.l0]) ?_
    simp only [List.append_nil, nlt_end, if_false, goI]
    refine Ev.bind (isWalk_ev g hl A B p) ?_
    rcases Bool.eq_false_or_eq_true (walkB W H L A B p) with hx | hx
    · simp only [hx, if_true, told]; exact Ev.now _
    · simp only [hx, Bool.false_eq_true, if_false, told]; exact Ev.now _
  | cons k r ih =>
    intro p hpr h1 h2
    refine Ev.step (fun k => by rw [impl_WalkOfSteps.l0]) ?_
    have h0 : (0 : Int) ≤ (pre.length : Int) := by omega
    have h5 : pre.length ≤ 64 := by simp at hp; omega
    simp only [lt_mid pre k r, h0, if_true, rd_mid, goI]
    by_cases k0 : k < 0
    · rw [if_neg (by rintro ⟨h, _⟩; omega)]
      simp only [k0, if_true]
      exact impl_no
    simp only [k0, if_false]
    by_cases k1 : k ≥ ((stepsM A B).length : Int)
    · rw [if_neg (by rintro ⟨h, _⟩; omega)]
      simp only [k1, decide_true]
      exact impl_no
    simp only [k1, decide_false]
    have ck : 0 ≤ k ∧ k < ((stepsM A B).length : Int) := by omega
    obtain ⟨x, y, hx, hy, hs⟩ := step_two _ (row_in (stepsM A B) k ck)
    have e0 : rd [x, y] 0 = x := rfl
    have e1 : rd [x, y] 1 = y := rfl
    have hl0 : (0 : Int) < (([x, y] : List Int).length : Int) := by simp
    have hl1 : (1 : Int) < (([x, y] : List Int).length : Int) := by simp
    have w0 : wrap64 ((p.length : Int) - 1) = ((p.length - 1 : Nat) : Int) := by rw [wrap64_in _ (by omega)]; omega
    have a1 : (0 : Int) ≤ ((p.length - 1 : Nat) : Int) := by omega
    have a2 : ((p.length - 1 : Nat) : Int) < (p.length : Int) := by omega
    have n0 : ¬ W = 0 := by omega
    have hc : 0 ≤ rd p ((p.length - 1 : Nat) : Int) ∧ rd p ((p.length - 1 : Nat) : Int) < W * H := by
      rw [rd_nat p (p.length - 1) (by omega)]; exact hpr _ (List.getElem_mem _)
    obtain ⟨m1, m2, m3, m4, _⟩ := cell_bounds g hc
    have nx : nextX W (lastC p) [x, y] = rd p ((p.length - 1 : Nat) : Int) % W + x := rfl
    have ny : nextY W (lastC p) [x, y] = rd p ((p.length - 1 : Nat) : Int) / W + y := rfl
    have w1 : wrap64 (rd p ((p.length - 1 : Nat) : Int) % W + x) = nextX W (lastC p) [x, y] := by rw [nx]; exact wrap64_in _ (by omega)
    have w2 : wrap64 (rd p ((p.length - 1 : Nat) : Int) / W) = rd p ((p.length - 1 : Nat) : Int) / W := wrap64_in _ (by omega)
    have w3 : wrap64 (rd p ((p.length - 1 : Nat) : Int) / W + y) = nextY W (lastC p) [x, y] := by rw [ny]; exact wrap64_in _ (by omega)
    rw [hs]
    refine Ev.step (fun m => by rw [impl_WalkOfSteps.j1]) ?_
    simp only [Bool.false_eq_true, if_false, if_true, w0, a1, a2, n0, ck.1, ck.2, hs, e0, e1, hl0, hl1, tmod_of hc.1, tdiv_of hc.1, w1, w2, w3, w_succ (show pre.length ≤ 4611686018427387904 by omega), true_and]
    by_cases c1 : nextX W (lastC p) [x, y] < 0
    · rw [if_neg (fun h : inXY W H (lastC p) [x, y] => by have := h.1.1; omega)]
      simp only [c1, if_true, told]
      exact Ev.now _
    simp only [c1, if_false]
    by_cases c2 : nextX W (lastC p) [x, y] ≥ W
    · rw [if_neg (fun h : inXY W H (lastC p) [x, y] => by have := h.1.2; omega)]
      simp only [c2, if_true, told]
      exact Ev.now _
    simp only [c2, if_false]
    by_cases c3 : nextY W (lastC p) [x, y] < 0
    · rw [if_neg (fun h : inXY W H (lastC p) [x, y] => by have := h.2.1; omega)]
      simp only [c3, if_true, told]
      exact Ev.now _
    simp only [c3, if_false]
    by_cases c4 : nextY W (lastC p) [x, y] ≥ H
    · rw [if_neg (fun h : inXY W H (lastC p) [x, y] => by have := h.2.2; omega)]
      simp only [c4, if_true, told]
      exact Ev.now _
    simp only [c4, if_false]
    have hin : inXY W H (lastC p) [x, y] := ⟨⟨by omega, by omega⟩, by omega, by omega⟩
    obtain ⟨q1, q2, q3, q4⟩ := next_range g hin
    have hm1 : 0 ≤ nextY W (lastC p) [x, y] * W := Int.mul_nonneg hin.2.1 (by omega)
    have hm2 : nextY W (lastC p) [x, y] * W ≤ 8 * 8 := Int.mul_le_mul (by omega) g2 (by omega) (by omega)
    have w6 : wrap64 (nextY W (lastC p) [x, y] * W) = nextY W (lastC p) [x, y] * W := wrap64_in _ (by omega)
    have w7 : wrap64 (nextY W (lastC p) [x, y] * W + nextX W (lastC p) [x, y]) = nextC W (lastC p) [x, y] := wrap64_in _ (by omega)
    have h6 : p.length < 17592186044416 := by omega
    rw [if_pos hin]
    simp only [w6, w7, h6, if_true]
    have := ih (pre ++ [k]) (by simpa using hp) (p ++ [nextC W (lastC p) [x, y]]) (fun z hz => by
      rcases List.mem_append.1 hz with h | h
      · exact hpr z h
      · rw [List.mem_singleton.1 h]; exact ⟨q1, q2⟩) (by simp) (by simp; omega)
    simpa using this
end
theorem goS_length {W H : Int} {L : List Int} (all : List (List Int)) (r : List Int) : ∀ p o, goS W H L all p r = some o → o.length ≤ p.length + r.length := by
  induction r with
  | nil => intro p o h; rw [goS] at h; cases h; simp
  | cons k r ih =>
    intro p o h
    rw [goS] at h
    split at h
    · have := ih _ o h; simp at this ⊢; omega
    · cases h
theorem walkOfSteps_both (W H : Int) (L : List Int) (A B x : Int) (s : List Int) (hl : L.length ≤ 1048576) (hs : s.length ≤ 1048576) : ∃ (r : List Int) (b : Bool), r.length ≤ 1048576 ∧ Ev (fun k => spec_WalkOfSteps.f k W H L A B x s) (r, b) ∧ Ev (fun k => impl_WalkOfSteps.f k W H L A B x s) (r, b) := by
  have noS : Ev (fun k => spec_WalkOfSteps.j0 k x s true W H L A B) (([] : List Int), false) := by
    refine Ev.step (fun k => by rw [spec_WalkOfSteps.j0]) ?_
    simp only [if_true]
    exact Ev.now _
  by_cases t : AskM W H L A B x x
  · have g := t.1.1
    by_cases hn : s.length ≤ 63
    · have h1 : decide ((s.length : Int) > 63) = false := by simp; omega
      have h2 : ¬ ((s.length : Int) ≥ 64) := by omega
      have hxr : ∀ z ∈ [x], 0 ≤ z ∧ z < W * H := fun z hz => by rw [List.mem_singleton.1 hz]; exact has_range t.2.1
      have hS : Ev (fun k => spec_WalkOfSteps.f k W H L A B x s) (told (goS W H L (stepsM A B) [x] s)) := by
        unfold spec_WalkOfSteps.f
        refine Ev.bind (two_yes t.1 hl) ?_
        simp only [if_true]
        refine Ev.bind (boHas_ev g x hl) ?_
        simp only [t.2.1, if_true, h1]
        refine Ev.step (fun k => by rw [spec_WalkOfSteps.j0]) ?_
        simp only [Bool.false_eq_true, if_false]
        refine Ev.bind (boSteps_ev A B t.1.2) ?_
        have := spec_l0 (A := A) (B := B) g hl s [] (by simp; omega) [x] hxr (by simp) (by simp)
        simpa using this
      have hI : Ev (fun k => impl_WalkOfSteps.f k W H L A B x s) (told (goI W H L A B (stepsM A B) [x] s)) := by
        unfold impl_WalkOfSteps.f
        refine Ev.bind (implTwo_yes t hl) ?_
        simp only [if_true, h2, if_false]
        refine Ev.bind (steps_ev A B) ?_
        have := impl_l0 (A := A) (B := B) g hl s [] (by simp; omega) [x] hxr (by simp) (by simp)
        simpa using this
      rw [go_same g s [x] (walk_one t.2.1) (by simp; omega)] at hI
      refine ⟨(told (goS W H L (stepsM A B) [x] s)).1, (told (goS W H L (stepsM A B) [x] s)).2, ?_, hS, hI⟩
      cases ho : goS W H L (stepsM A B) [x] s with
      | none => simp [told]
      | some o => have := goS_length _ _ _ _ ho; simp [told] at this ⊢; omega
    · have h1 : decide ((s.length : Int) > 63) = true := by simp; omega
      have h2 : ((s.length : Int) ≥ 64) := by omega
      refine ⟨[], false, by simp, ?_, ?_⟩
      · unfold spec_WalkOfSteps.f
        refine Ev.bind (two_yes t.1 hl) ?_
        simp only [if_true]
        refine Ev.bind (boHas_ev g x hl) ?_
        simp only [t.2.1, if_true, h1]
        exact noS
      · unfold impl_WalkOfSteps.f
        refine Ev.bind (implTwo_yes t hl) ?_
        simp only [if_true, h2]
        exact Ev.now _
  · refine ⟨[], false, by simp, ?_, ?_⟩
    · unfold spec_WalkOfSteps.f
      by_cases t2 : Two W H L A B
      · refine Ev.bind (two_yes t2 hl) ?_
        simp only [if_true]
        refine Ev.bind (boHas_ev t2.1 x hl) ?_
        have hx : hasB W H L x = false := by
          rcases Bool.eq_false_or_eq_true (hasB W H L x) with h | h
          · exact absurd ⟨t2, h, h⟩ t
          · exact h
        simp only [hx, Bool.false_eq_true, if_false]
        exact noS
      · refine Ev.bind (two_no t2 hl) ?_
        simp only [Bool.false_eq_true, if_false]
        exact noS
    · unfold impl_WalkOfSteps.f
      refine Ev.bind (implTwo_no t hl) ?_
      simp only [Bool.false_eq_true, if_false]
      exact Ev.now _
theorem FnExactWalkOfSteps : FnExactWalkOfStepsSaid := by
  intro a0_0 a0_1 l0_2 a1_0 a1_1 a2 l3 _ _ hlen_l0_2 _ _ _ _ hlen_l3 _
  by_cases hb_l3 : (l3.length : Int) > 1048576
  · refine ⟨0, ?_⟩
    simp [laws_FnExactWalkOfSteps.f, hb_l3]
  have hs_l3 : l3.length ≤ 1048576 := by omega
  by_cases hb_l0_2 : 1048576 < l0_2.length
  · refine ⟨0, ?_⟩
    simp [laws_FnExactWalkOfSteps.f, szBoard_big a0_0 a0_1 l0_2 hb_l0_2 hlen_l0_2, hb_l3]
  have hs_l0_2 : l0_2.length ≤ 1048576 := by omega
  obtain ⟨r, b, hr, hs, hi⟩ := walkOfSteps_both a0_0 a0_1 l0_2 a1_0 a1_1 a2 l3 hs_l0_2 hs_l3
  refine rounds_of ?_
  have n0 : ¬ (1048576 - (l0_2.length : Int) < 0) := by omega
  have n1 : ¬ (1 + (l0_2.length : Int) < 0) := by omega
  have n2 : ¬ (1 + (l3.length : Int) < 0) := by omega
  have n12 : ¬ (1 + (l0_2.length : Int) + (l3.length : Int) < 0) := by omega
  have nr : ¬ (1 + (r.length : Int) < 0) := by omega
  unfold laws_FnExactWalkOfSteps.f
  repeat (first
    | exact Ev.now _
    | refine Ev.bind (toBoard_ev _ _ _ (by assumption)) ?_
    | refine Ev.bind (eqBoard_ev _ _ _ (by assumption)) ?_
    | refine Ev.bind (markBoard_ev _ _ _ (by assumption)) ?_
    | refine Ev.bind (toIntS_ev _ (by assumption)) ?_
    | refine Ev.bind (eqIntS_ev _ (by assumption)) ?_
    | refine Ev.bind (markIntS_ev _ (by assumption)) ?_
    | refine Ev.bind (heldIntS_ev _ (by assumption)) ?_
    | refine Ev.bind (markIntS_any _ _ (by assumption) (by omega)) ?_
    | refine Ev.bind hs ?_
    | refine Ev.bind hi ?_
    | simp only [Option.bind_some, if_true, if_false, bne_self_eq_false, Bool.false_eq_true, ne_eq, not_true_eq_false, not_false_eq_true, hb_l3, szBoard_fit _ _ _ hs_l0_2, laws_toLeaper.f, n0, n1, n2, n12, nr]
    | (refine Ev.step (fun k => by rw [laws_FnExactWalkOfSteps.j0]) ?_)
    | (refine Ev.step (fun k => by rw [laws_FnExactWalkOfSteps.j1]) ?_)
    | (refine Ev.step (fun k => by rw [laws_FnExactWalkOfSteps.j2]) ?_))
end Go.Proofs.Ytbecdckdbeoomaa.Pure

/- CountCrossings: the program and the reference count the same pairs of leaps of a path, so the law's function answers true for all arguments. -/
import Derived.Test.YtemaokhlolimhaaHLaw
import Derived.IntWalk
import Derived.Test.YtemaokhlolimhaaHSort
import Derived.Test.YtemaokhlolimhaaHInLine
import Derived.Test.YtemaokhlolimhaaStateFnExactCountCrossings
import Derived.Test.YtemaokhlolimhaaQ2
import Derived.Test.YtemaokhlolimhaaQ3
import Derived.Test.YtemaokhlolimhaaQ9
import Derived.Test.YtemaokhlolimhaaQ10
import Derived.Test.YtemaokhlolimhaaQ11
import Derived.Test.YtemaokhlolimhaaQ12
import Derived.Test.YtemaokhlolimhaaQ8
import Derived.Test.YtemaokhlolimhaaQ6
import Derived.Test.YtemaokhlolimhaaQ13
import Derived.Test.YtemaokhlolimhaaQ14
import Derived.Test.YtemaokhlolimhaaQ4
import Derived.Test.YtemaokhlolimhaaQ20
import Derived.Test.YtemaokhlolimhaaQ19
import Derived.Test.YtemaokhlolimhaaQ21
import Derived.Test.YtemaokhlolimhaaQ22
namespace Go.Proofs.Ytemaokhlolimhaa.H
open Go.RowKit Go.IntWalk Go.Proofs.Ytemaokhlolimhaa.Q Go.Proofs.YtemaokhlolimhaaW.PrintWords Go.Proofs.YtemaokhlolimhaaW.PrintMore
set_option linter.unusedVariables false
set_option linter.unusedSimpArgs false

/-! ### Words of lists and numbers -/
theorem rd_mid (pre : List Int) (x : Int) (r : List Int) : rd (pre ++ x :: r) (pre.length : Int) = x := by simp [rd]
theorem lt_mid {α : Type} (pre : List α) (x : α) (r : List α) : (pre.length : Int) < ((pre ++ x :: r).length : Int) := by simp; omega
theorem nlt_end {α : Type} (pre : List α) : ¬ ((pre.length : Int) < (pre.length : Int)) := by omega
theorem w_succ {n : Nat} (h : n ≤ 4611686018427387904) : wrap64 ((n : Int) + 1) = ((n + 1 : Nat) : Int) := by rw [wrap64_in _ (by omega)]; omega
theorem rd_nat (l : List Int) (i : Nat) (h : i < l.length) : rd l (i : Int) = l[i] := by simp [rd, List.getD_eq_getElem?_getD, List.getElem?_eq_getElem h]

/-! ### The law's own functions -/
theorem toIntS_loop (rest pre : List Int) (hl : (pre ++ rest).length ≤ 4611686018427387904) : Ev (fun k => laws_toIntS.l0 k (pre ++ rest) (pre ++ List.replicate rest.length 0) (pre.length : Int)) (pre ++ rest) := by
  induction rest generalizing pre with
  | nil =>
    refine Ev.step (fun k => by rw [laws_toIntS.l0]) ?_
    simp only [List.append_nil, List.length_nil, List.replicate_zero, nlt_end, if_false]
    exact Ev.now _
  | cons x r ih =>
    refine Ev.step (fun k => by rw [laws_toIntS.l0]) ?_
    have h3 : (pre.length : Int) < ((pre ++ List.replicate (x :: r).length 0).length : Int) := by simp; omega
    have h4 : (0 : Int) ≤ (pre.length : Int) := by omega
    have h5 : pre.length ≤ 4611686018427387904 := by simp at hl; omega
    simp only [lt_mid pre x r, h3, h4, if_true, rd_mid, w_succ h5]
    have h6 : (pre ++ List.replicate (x :: r).length 0).set ((pre.length : Int)).toNat x = (pre ++ [x]) ++ List.replicate r.length 0 := by simp [List.replicate_succ]
    rw [h6]
    have := ih (pre ++ [x]) (by simpa using hl)
    simpa using this
theorem toIntS_ev (l : List Int) (hl : l.length ≤ 1048576) : Ev (fun k => laws_toIntS.f k l) l := by
  have h1 : (0 : Int) ≤ (l.length : Int) := by omega
  have h2 : ((l.length : Int) : Int).toNat ≤ 35184372088832 := by omega
  simp only [laws_toIntS.f, h1, h2, if_true]
  simpa using toIntS_loop l [] (by simp; omega)
theorem toBoard_ev (W H : Int) (l : List Int) (hl : l.length ≤ 1048576) : Ev (fun k => laws_toBoard.f k W H l) (W, H, l) := by
  simp only [laws_toBoard.f]
  exact Ev.bind (toIntS_ev l hl) (Ev.now _)
theorem eqIntS_loop (rest pre : List Int) (hl : (pre ++ rest).length ≤ 4611686018427387904) : Ev (fun k => laws_eqIntS.l0 k (pre ++ rest) (pre ++ rest) (pre.length : Int)) true := by
  induction rest generalizing pre with
  | nil =>
    refine Ev.step (fun k => by rw [laws_eqIntS.l0]) ?_
    simp only [List.append_nil, nlt_end, if_false]
    exact Ev.now _
  | cons x r ih =>
    refine Ev.step (fun k => by rw [laws_eqIntS.l0]) ?_
    have h4 : (0 : Int) ≤ (pre.length : Int) := by omega
    have h5 : pre.length ≤ 4611686018427387904 := by simp at hl; omega
    simp only [lt_mid pre x r, h4, if_true, rd_mid, w_succ h5]
    have := ih (pre ++ [x]) (by simpa using hl)
    simpa using this
theorem eqIntS_ev (l : List Int) (hl : l.length ≤ 1048576) : Ev (fun k => laws_eqIntS.f k l l) true := by
  simp only [laws_eqIntS.f, if_true]
  simpa using eqIntS_loop l [] (by simp; omega)
theorem eqBoard_ev (W H : Int) (l : List Int) (hl : l.length ≤ 1048576) : Ev (fun k => laws_eqBoard.f k W H l W H l) true := by
  simp only [laws_eqBoard.f, if_true]
  refine Ev.bind (eqIntS_ev l hl) ?_
  simp only [if_true]
  exact Ev.now _
theorem szBoard_big (W H : Int) (l : List Int) (h : 1048576 < l.length) (h2 : l.length ≤ 9223372036854775807) : laws_szBoard.f W H l 1048576 = some (-1) := by
  have e : wrap64 (1048576 - (l.length : Int)) = 1048576 - (l.length : Int) := wrap64_in _ (by omega)
  have h3 : 1048576 - (l.length : Int) < 0 := by omega
  simp [laws_szBoard.f, laws_szIntS.f, e, h3]
theorem szBoard_fit (W H : Int) (l : List Int) (h : l.length ≤ 1048576) : laws_szBoard.f W H l 1048576 = some (1048576 - (l.length : Int)) := by
  have e : wrap64 (1048576 - (l.length : Int)) = 1048576 - (l.length : Int) := wrap64_in _ (by omega)
  have h3 : ¬ 1048576 - (l.length : Int) < 0 := by omega
  simp [laws_szBoard.f, laws_szIntS.f, e, h3]

/-! ### Boards, leapers, cells -/
def hasB (W H : Int) (L : List Int) (c : Int) : Bool := decide (0 ≤ c) && decide (c < W * H) && !L.contains c
def BoardM (W H : Int) (L : List Int) : Prop := 1 ≤ W ∧ W ≤ 8 ∧ 1 ≤ H ∧ H ≤ 8 ∧ (L.length : Int) < W * H ∧ (∀ x ∈ L, 0 ≤ x ∧ x < W * H) ∧ L.Pairwise (· < ·)
def Leap (A B : Int) : Prop := 0 ≤ A ∧ A ≤ B ∧ 1 ≤ B ∧ B ≤ 5
def Two (W H : Int) (L : List Int) (A B : Int) : Prop := BoardM W H L ∧ Leap A B
def isB (W A B x y : Int) : Bool :=
  let u := ((x % W - y % W).natAbs : Int)
  let v := ((x / W - y / W).natAbs : Int)
  (decide (u = A) && decide (v = B)) || (decide (u = B) && decide (v = A))
def cellsM (W H : Int) (L : List Int) : List Int := ((List.range (W * H).toNat).map Int.ofNat).filter (hasB W H L)
def leapsM (W H : Int) (L : List Int) (A B c : Int) : List Int := (cellsM W H L).filter (isB W A B c)
theorem BoardM.area {W H : Int} {L : List Int} (g : BoardM W H L) : 1 ≤ W * H ∧ W * H ≤ 64 := by
  obtain ⟨h1, h2, h3, h4, _⟩ := g
  constructor
  · have := Int.mul_le_mul h1 h3 (by omega) (by omega); omega
  · have := Int.mul_le_mul h2 h4 (by omega) (by omega); omega
theorem BoardM.wrapArea {W H : Int} {L : List Int} (g : BoardM W H L) : wrap64 (W * H) = W * H := wrap64_in _ (by have := g.area; omega)
theorem mem_cellsM {W H : Int} {L : List Int} {c : Int} : c ∈ cellsM W H L ↔ hasB W H L c = true := by
  unfold cellsM
  rw [List.mem_filter]
  constructor
  · exact fun h => h.2
  · intro h
    refine ⟨?_, h⟩
    have h' := h
    simp only [hasB, Bool.and_eq_true, decide_eq_true_eq] at h'
    refine List.mem_map.2 ⟨c.toNat, List.mem_range.2 (by omega), ?_⟩
    show ((c.toNat : Nat) : Int) = c
    omega
theorem cellsM_length {W H : Int} {L : List Int} (g : BoardM W H L) : (cellsM W H L).length ≤ 64 := by
  unfold cellsM
  refine Nat.le_trans (List.length_filter_le _ _) ?_
  have := g.area
  simp; omega
theorem has_range {W H : Int} {L : List Int} {c : Int} (h : hasB W H L c = true) : 0 ≤ c ∧ c < W * H := by
  simp only [hasB, Bool.and_eq_true, decide_eq_true_eq] at h
  exact h.1
theorem leapsM_length {W H : Int} {L : List Int} (g : BoardM W H L) (A B c : Int) : (leapsM W H L A B c).length ≤ 64 := Nat.le_trans (List.length_filter_le _ _) (cellsM_length g)

/-! ### What the reference's first functions tell -/
theorem l1In_eq (n lo hi : Int) : spec_l1In.f n lo hi = some (decide (lo ≤ n) && decide (n ≤ hi)) := by
  unfold spec_l1In.f
  split <;> rename_i h
  · have : lo ≤ n := h
    simp [this]
  · have : ¬ lo ≤ n := h
    simp [this]
theorem l1Has_loop (c : Int) (rest pre : List Int) (hl : (pre ++ rest).length ≤ 4611686018427387904) : Ev (fun k => spec_l1Has.l0 k c (pre ++ rest) ((pre ++ rest).length : Int) (pre.length : Int)) (rest.contains c) := by
  induction rest generalizing pre with
  | nil =>
    refine Ev.step (fun k => by rw [spec_l1Has.l0]) ?_
    simp only [List.append_nil, nlt_end, if_false]
    exact Ev.now _
  | cons x r ih =>
    refine Ev.step (fun k => by rw [spec_l1Has.l0]) ?_
    have h4 : (0 : Int) ≤ (pre.length : Int) := by omega
    have h5 : pre.length ≤ 4611686018427387904 := by simp at hl; omega
    simp only [lt_mid pre x r, h4, if_true, rd_mid, w_succ h5]
    by_cases hx : x = c
    · simp only [hx, if_true, List.contains_cons, beq_self_eq_true, Bool.true_or]
      exact Ev.now _
    · have := ih (pre ++ [x]) (by simpa using hl)
      have hx' : ¬ c = x := fun h => hx h.symm
      simp only [hx, if_false]
      simpa [hx'] using this
theorem l1Has_ev (l : List Int) (c : Int) (hl : l.length ≤ 4611686018427387904) : Ev (fun k => spec_l1Has.f k l c) (l.contains c) := by
  unfold spec_l1Has.f
  simpa using l1Has_loop c l [] (by simpa using hl)
theorem l1All_loop (lo hi : Int) (rest pre : List Int) (hl : (pre ++ rest).length ≤ 4611686018427387904) : Ev (fun k => spec_l1All.l0 k lo hi (pre ++ rest) ((pre ++ rest).length : Int) (pre.length : Int)) (rest.all fun n => decide (lo ≤ n) && decide (n ≤ hi)) := by
  induction rest generalizing pre with
  | nil =>
    refine Ev.step (fun k => by rw [spec_l1All.l0]) ?_
    simp only [List.append_nil, nlt_end, if_false]
    exact Ev.now _
  | cons x r ih =>
    refine Ev.step (fun k => by rw [spec_l1All.l0]) ?_
    have h4 : (0 : Int) ≤ (pre.length : Int) := by omega
    have h5 : pre.length ≤ 4611686018427387904 := by simp at hl; omega
    simp only [lt_mid pre x r, h4, if_true, rd_mid, w_succ h5, l1In_eq, Option.bind_some, List.all_cons]
    cases hx : (decide (lo ≤ x) && decide (x ≤ hi)) with
    | false => simp only [Bool.false_eq_true, if_false, Bool.false_and]; exact Ev.now _
    | true =>
      have := ih (pre ++ [x]) (by simpa using hl)
      simp only [if_true, Bool.true_and]
      simpa using this
theorem l1All_ev (l : List Int) (lo hi : Int) (hl : l.length ≤ 4611686018427387904) : Ev (fun k => spec_l1All.f k l lo hi) (l.all fun n => decide (lo ≤ n) && decide (n ≤ hi)) := by
  unfold spec_l1All.f
  simpa using l1All_loop lo hi l [] (by simpa using hl)
theorem boHas_ev {W H : Int} {L : List Int} (g : BoardM W H L) (c : Int) (hl : L.length ≤ 1048576) : Ev (fun k => spec_boHas.f k W H L c) (hasB W H L c) := by
  have ha := g.area
  have e : wrap64 (W * H - 1) = W * H - 1 := wrap64_in _ (by omega)
  simp only [spec_boHas.f, g.wrapArea, e, l1In_eq, Option.bind_some]
  by_cases h : 0 ≤ c ∧ c ≤ W * H - 1
  · have h1 : (decide (0 ≤ c) && decide (c ≤ W * H - 1)) = true := by simp [h]
    have h2 : c < W * H := by omega
    simp only [h1, if_true]
    refine Ev.bind (l1Has_ev L c (by omega)) ?_
    have : hasB W H L c = !L.contains c := by simp [hasB, h.1, h2]
    rw [this]
    exact Ev.now _
  · have h1 : (decide (0 ≤ c) && decide (c ≤ W * H - 1)) = false := by simp; omega
    have h2 : hasB W H L c = false := by
      simp only [hasB, Bool.and_eq_false_iff, decide_eq_false_iff_not]
      omega
    simp only [h1, Bool.false_eq_true, if_false, h2]
    exact Ev.now _
open Classical in
theorem rising_loop (W H : Int) (L : List Int) (hl : L.length ≤ 4611686018427387904) : ∀ (n i : Nat), n + i = L.length → 1 ≤ i → Ev (fun k => spec_boGood.l0 k (i : Int) W H L) (decide (∀ j, i ≤ j → ∀ h : j < L.length, L[j - 1] < L[j])) := by
  intro n
  induction n with
  | zero =>
    intro i h1 h2
    refine Ev.step (fun k => by rw [spec_boGood.l0]) ?_
    have h3 : ¬ ((i : Int) < (L.length : Int)) := by omega
    have h4 : (∀ j, i ≤ j → ∀ h : j < L.length, L[j - 1] < L[j]) = True := by
      refine eq_true (fun j hj h => ?_)
      omega
    simp only [h3, if_false, h4, decide_true]
    exact Ev.now _
  | succ n ih =>
    intro i h1 h2
    refine Ev.step (fun k => by rw [spec_boGood.l0]) ?_
    have h3 : (i : Int) < (L.length : Int) := by omega
    have h4 : wrap64 ((i : Int) - 1) = ((i - 1 : Nat) : Int) := by rw [wrap64_in _ (by omega)]; omega
    have h5 : (0 : Int) ≤ ((i - 1 : Nat) : Int) := by omega
    have h6 : ((i - 1 : Nat) : Int) < (L.length : Int) := by omega
    have h7 : (0 : Int) ≤ (i : Int) := by omega
    simp only [h3, h4, h5, h6, h7, if_true, rd_nat L (i - 1) (by omega), rd_nat L i (by omega), w_succ (show i ≤ 4611686018427387904 by omega)]
    by_cases hx : L[i - 1] ≥ L[i]
    · have h8 : decide (∀ j, i ≤ j → ∀ h : j < L.length, L[j - 1] < L[j]) = false := by
        rw [decide_eq_false_iff_not]
        intro h
        have := h i (by omega) (by omega)
        omega
      simp only [hx, if_true, h8]
      exact Ev.now _
    · have h8 : (∀ j, i ≤ j → ∀ h : j < L.length, L[j - 1] < L[j]) = (∀ j, i + 1 ≤ j → ∀ h : j < L.length, L[j - 1] < L[j]) := by
        rw [eq_iff_iff]
        constructor
        · intro h j hj; exact h j (by omega)
        · intro h j hj hjl
          rcases Nat.lt_or_ge i j with h9 | h9
          · exact h j (by omega) hjl
          · obtain rfl : j = i := by omega
            omega
      simp only [hx, if_false, h8]
      exact ih (i + 1) (by omega) (by omega)
theorem pairwise_iff (L : List Int) : L.Pairwise (· < ·) ↔ ∀ j, 1 ≤ j → ∀ h : j < L.length, L[j - 1] < L[j] := by
  constructor
  · intro h j hj hl
    exact List.pairwise_iff_getElem.1 h (j - 1) j (by omega) hl (by omega)
  · intro h
    rw [List.pairwise_iff_getElem]
    intro i j hi hj hij
    have : ∀ d, ∀ (hd : i + d + 1 < L.length), L[i] < L[i + d + 1] := by
      intro d
      induction d with
      | zero => intro hd; have := h (i + 0 + 1) (by omega) hd; simpa using this
      | succ d ih => intro hd; have h1 := ih (by omega); have h2 := h (i + (d + 1) + 1) (by omega) hd; simp at h2; exact Int.lt_trans h1 h2
    have := this (j - i - 1) (by omega)
    simpa [show i + (j - i - 1) + 1 = j by omega] using this
theorem boSize_eq (W H : Int) : spec_boSize.f W H = some (decide (1 ≤ W ∧ W ≤ 8 ∧ 1 ≤ H ∧ H ≤ 8)) := by
  simp only [spec_boSize.f, l1In_eq, Option.bind_some]
  by_cases h1 : 1 ≤ W <;> by_cases h2 : W ≤ 8 <;> by_cases h3 : 1 ≤ H <;> by_cases h4 : H ≤ 8 <;> simp [h1, h2, h3, h4]
theorem boGood_j0_true {W H : Int} {L : List Int} : Ev (fun k => spec_boGood.j0 k true W H L) false := by
  refine Ev.step (fun k => by rw [spec_boGood.j0]) ?_
  simp only [if_true]
  exact Ev.now _
open Classical in
theorem boGood_ev (W H : Int) (L : List Int) (hl : L.length ≤ 1048576) : Ev (fun k => spec_boGood.f k W H L) (decide (BoardM W H L)) := by
  simp only [spec_boGood.f, boSize_eq, Option.bind_some]
  by_cases h1 : 1 ≤ W ∧ W ≤ 8 ∧ 1 ≤ H ∧ H ≤ 8
  · obtain ⟨a1, a2, a3, a4⟩ := h1
    have ar1 : 1 ≤ W * H := by have := Int.mul_le_mul a1 a3 (by omega) (by omega); omega
    have ar2 : W * H ≤ 64 := by have := Int.mul_le_mul a2 a4 (by omega) (by omega); omega
    have e1 : wrap64 (W * H) = W * H := wrap64_in _ (by omega)
    have e2 : wrap64 (W * H - 1) = W * H - 1 := wrap64_in _ (by omega)
    simp only [a1, a2, a3, a4, and_self, decide_true, if_true, e1, e2]
    by_cases h2 : (L.length : Int) ≥ W * H
    · have : decide (BoardM W H L) = false := by
        rw [decide_eq_false_iff_not]; rintro ⟨_, _, _, _, h, _⟩; omega
      simp only [h2, if_true, this]
      exact boGood_j0_true
    · simp only [h2, if_false]
      refine Ev.bind (l1All_ev L 0 (W * H - 1) (by omega)) ?_
      cases h3 : (L.all fun n => decide (0 ≤ n) && decide (n ≤ W * H - 1)) with
      | false =>
        have : decide (BoardM W H L) = false := by
          rw [decide_eq_false_iff_not]; rintro ⟨_, _, _, _, _, h, _⟩
          have : (L.all fun n => decide (0 ≤ n) && decide (n ≤ W * H - 1)) = true := by
            rw [List.all_eq_true]
            intro x hx
            have := h x hx
            simp; omega
          rw [this] at h3; cases h3
        simp only [Bool.not_false, this]
        exact boGood_j0_true
      | true =>
        simp only [Bool.not_true]
        refine Ev.step (fun k => by rw [spec_boGood.j0]) ?_
        simp only [Bool.false_eq_true, if_false]
        have hr : Ev (fun k => spec_boGood.l0 k 1 W H L) (decide (∀ j, 1 ≤ j → ∀ h : j < L.length, L[j - 1] < L[j])) := by
          rcases Nat.eq_zero_or_pos L.length with h0 | h0
          · have h4 : (∀ j, 1 ≤ j → ∀ h : j < L.length, L[j - 1] < L[j]) = True := by
              exact eq_true (fun j hj h => by omega)
            refine Ev.step (fun k => by rw [spec_boGood.l0]) ?_
            have h3 : ¬ ((1 : Int) < (L.length : Int)) := by omega
            simp only [h3, if_false, h4, decide_true]
            exact Ev.now _
          · exact rising_loop W H L (by omega) (L.length - 1) 1 (by omega) (by omega)
        have h5 : (∀ j, 1 ≤ j → ∀ h : j < L.length, L[j - 1] < L[j]) = BoardM W H L := by
          rw [eq_iff_iff]
          constructor
          · intro h
            refine ⟨a1, a2, a3, a4, by omega, ?_, (pairwise_iff L).2 h⟩
            intro x hx
            have := List.all_eq_true.1 h3 x hx
            simp at this; omega
          · rintro ⟨_, _, _, _, _, _, h⟩; exact (pairwise_iff L).1 h
        simp only [h5] at hr
        exact hr
  · have : decide (BoardM W H L) = false := by
      rw [decide_eq_false_iff_not]; rintro ⟨b1, b2, b3, b4, _⟩; exact h1 ⟨b1, b2, b3, b4⟩
    simp only [h1, decide_false, Bool.false_eq_true, if_false, this]
    exact boGood_j0_true
open Classical in
theorem boLeaper_eq (A B : Int) : spec_boLeaper.f A B = some (decide (Leap A B)) := by
  simp only [spec_boLeaper.f, l1In_eq, Option.bind_some]
  unfold Leap
  by_cases h1 : 1 ≤ B <;> by_cases h2 : B ≤ 5 <;> by_cases h3 : 0 ≤ A <;> by_cases h4 : A ≤ B <;> simp [h1, h2, h3, h4]
open Classical in
theorem boTwo_ev (W H : Int) (L : List Int) (A B : Int) (hl : L.length ≤ 1048576) : Ev (fun k => spec_boTwo.f k W H L A B) (decide (Two W H L A B)) := by
  unfold spec_boTwo.f
  refine Ev.bind (boGood_ev W H L hl) ?_
  by_cases g : BoardM W H L
  · simp only [g, decide_true, if_true, boLeaper_eq, Option.bind_some]
    have : decide (Two W H L A B) = decide (Leap A B) := by simp [Two, g]
    rw [this]
    exact Ev.now _
  · have : decide (Two W H L A B) = false := by simp [Two, g]
    simp only [g, decide_false, Bool.false_eq_true, if_false, this]
    exact Ev.now _
theorem two_yes {W H : Int} {L : List Int} {A B : Int} (t : Two W H L A B) (hl : L.length ≤ 1048576) : Ev (fun k => spec_boTwo.f k W H L A B) true := by
  have := boTwo_ev W H L A B hl
  simpa [t] using this
theorem two_no {W H : Int} {L : List Int} {A B : Int} (t : ¬ Two W H L A B) (hl : L.length ≤ 1048576) : Ev (fun k => spec_boTwo.f k W H L A B) false := by
  have := boTwo_ev W H L A B hl
  simpa [t] using this
theorem l1Abs_eq (n : Int) (h : -100 ≤ n ∧ n ≤ 100) : spec_l1Abs.f n = some (n.natAbs : Int) := by
  have e : wrap64 (-n) = -n := wrap64_in _ (by omega)
  simp only [spec_l1Abs.f, spec_l1Most.f, e]
  by_cases hn : n > -n
  · simp only [hn, if_true, Option.bind_some]; congr 1; omega
  · simp only [hn, if_false, Option.bind_some]; congr 1; omega
theorem cell_bounds {W H : Int} {L : List Int} (g : BoardM W H L) {c : Int} (h : 0 ≤ c ∧ c < W * H) : 0 ≤ c % W ∧ c % W < W ∧ 0 ≤ c / W ∧ c / W < H ∧ c % W + c / W * W = c := by
  have hW : 0 < W := by have := g.1; omega
  have h1 := Int.emod_nonneg c (show W ≠ 0 by omega)
  have h2 := Int.emod_lt_of_pos c hW
  have h3 : 0 ≤ c / W := Int.ediv_nonneg h.1 (by omega)
  have h4 : c / W < H := by
    rw [Int.ediv_lt_iff_lt_mul hW]
    have := Int.mul_comm W H; omega
  have h5 := Int.emod_add_mul_ediv c W
  have h6 := Int.mul_comm W (c / W)
  exact ⟨h1, h2, h3, h4, by omega⟩
theorem tmod_of {W c : Int} (h : 0 ≤ c) : Int.tmod c W = c % W := by rw [Int.tmod_eq_emod_of_nonneg h]
theorem tdiv_of {W c : Int} (h : 0 ≤ c) : Int.tdiv c W = c / W := by rw [Int.tdiv_eq_ediv_of_nonneg h]
theorem boIs_eq {W H : Int} {L : List Int} (g : BoardM W H L) (A B x y : Int) (hx : 0 ≤ x ∧ x < W * H) (hy : 0 ≤ y ∧ y < W * H) : spec_boIs.f W H L A B x y = some (isB W A B x y) := by
  obtain ⟨p1, p2, p3, p4, _⟩ := cell_bounds g hx
  obtain ⟨q1, q2, q3, q4, _⟩ := cell_bounds g hy
  have b1 := g.1
  have b2 := g.2.1
  have b3 := g.2.2.2.1
  have n0 : ¬ W = 0 := by omega
  have e1 : wrap64 (x % W - y % W) = x % W - y % W := wrap64_in _ (by omega)
  have e2 : wrap64 (x / W) = x / W := wrap64_in _ (by omega)
  have e3 : wrap64 (y / W) = y / W := wrap64_in _ (by omega)
  have e4 : wrap64 (x / W - y / W) = x / W - y / W := wrap64_in _ (by omega)
  unfold spec_boIs.f isB
  simp only [n0, if_false, tmod_of hx.1, tmod_of hy.1, tdiv_of hx.1, tdiv_of hy.1, e1, e2, e3, e4, l1Abs_eq _ (show -100 ≤ x % W - y % W ∧ x % W - y % W ≤ 100 by omega), l1Abs_eq _ (show -100 ≤ x / W - y / W ∧ x / W - y / W ≤ 100 by omega), Option.bind_some]
  generalize ((x % W - y % W).natAbs : Int) = u
  generalize ((x / W - y / W).natAbs : Int) = v
  by_cases h1 : u = A <;> by_cases h2 : v = B <;> by_cases h3 : u = B <;> by_cases h4 : v = A <;> simp [h1, h2, h3, h4] <;> simp_all
/-! ### Marks -/
end Go.Proofs.Ytemaokhlolimhaa.H

namespace Go.Proofs.Ytemaokhlolimhaa.H
open Go.RowKit Go.IntWalk Go.Proofs.Ytemaokhlolimhaa.Q Go.Proofs.YtemaokhlolimhaaW.PrintWords Go.Proofs.YtemaokhlolimhaaW.PrintMore
set_option linter.unusedVariables false
set_option linter.unusedSimpArgs false

theorem index_loop (c : Int) (rest pre : List Int) (hl : (pre ++ rest).length ≤ 4611686018427387904) : ∃ i, Ev (fun k => slices_Index_int_int.l0 k (pre ++ rest) c ((pre ++ rest).length : Int) (pre.length : Int)) i ∧ (decide (i ≥ 0) = rest.contains c) := by
  induction rest generalizing pre with
  | nil =>
    refine ⟨-1, Ev.step (fun k => by rw [slices_Index_int_int.l0]) ?_, by simp⟩
    simp only [List.append_nil, nlt_end, if_false]
    exact Ev.now _
  | cons x r ih =>
    have h4 : (0 : Int) ≤ (pre.length : Int) := by omega
    have h5 : pre.length ≤ 4611686018427387904 := by simp at hl; omega
    by_cases hx : c = x
    · refine ⟨(pre.length : Int), Ev.step (fun k => by rw [slices_Index_int_int.l0]) ?_, by simp [hx]⟩
      simp only [lt_mid pre x r, h4, if_true, rd_mid, w_succ h5, hx]
      exact Ev.now _
    · obtain ⟨i, hi, he⟩ := ih (pre ++ [x]) (by simpa using hl)
      refine ⟨i, Ev.step (fun k => by rw [slices_Index_int_int.l0]) ?_, by simpa [hx] using he⟩
      simp only [lt_mid pre x r, h4, if_true, rd_mid, w_succ h5, hx, if_false]
      simpa using hi
theorem contains_ev (l : List Int) (c : Int) (hl : l.length ≤ 4611686018427387904) : Ev (fun k => slices_Contains_int_int.f k l c) (l.contains c) := by
  obtain ⟨i, hi, he⟩ := index_loop c l [] (by simpa using hl)
  unfold slices_Contains_int_int.f slices_Index_int_int.f
  rw [← he]
  refine Ev.bind (by simpa using hi) (Ev.now _)
open Classical in
theorem isLeaper_eq (A B : Int) : impl_IsLeaper.f A B = some (decide (Leap A B)) := by
  unfold impl_IsLeaper.f Leap
  by_cases h1 : A ≥ 0 <;> by_cases h2 : A ≤ B <;> by_cases h3 : B ≥ 1 <;> simp [h1, h2, h3] <;> omega
/-! ### Steps -/
theorem mx_max (a b : Int) : mx a b = max a b := by unfold mx; split <;> omega
theorem mn_min (a b : Int) : mn a b = min a b := by unfold mn; split <;> omega
theorem mx_abs (a : Int) : mx a (-a) = (a.natAbs : Int) := by rw [mx_max]; omega
def ys (y : Int) : Nat → List Int
  | 0 => []
  | n + 1 => y :: ys (y + 1) n
def stepOk (A B : Int) (s : List Int) : Bool := decide (mn (mx (rd s 0) (-rd s 0)) (mx (rd s 1) (-rd s 1)) = A) && decide (mx (mx (rd s 0) (-rd s 0)) (mx (rd s 1) (-rd s 1)) = B)
def allSteps : List (List Int) := (ys (-5) 11).flatMap fun x => (ys (-5) 11).map fun y => [x, y]
def stepsM (A B : Int) : List (List Int) := allSteps.filter (stepOk A B)
theorem steps_l1 (A B x : Int) (hx : -5 ≤ x ∧ x ≤ 5) (R : List (List Int)) : ∀ (n : Nat) (y : Int), y + n = 6 → -5 ≤ y → ∀ acc : List (List Int), (acc.length : Int) ≤ 20 * (x + 5) + (y + 5) →
    Ev (fun k => impl_Leaper_steps.l0 k (acc ++ ((ys y n).map fun y => [x, y]).filter (stepOk A B)) (x + 1) A B) R → Ev (fun k => impl_Leaper_steps.l1 k acc x y A B) R := by
  intro n
  induction n with
  | zero =>
    intro y h1 h2 acc h3 hR
    refine Ev.step (fun k => by rw [impl_Leaper_steps.l1]) ?_
    have h4 : ¬ y ≤ 5 := by omega
    have e : wrap64 (x + 1) = x + 1 := wrap64_in _ (by omega)
    simp only [h4, if_false, e]
    simpa [ys] using hR
  | succ n ih =>
    intro y h1 h2 acc h3 hR
    refine Ev.step (fun k => by rw [impl_Leaper_steps.l1]) ?_
    have h4 : y ≤ 5 := by omega
    have e1 : wrap64 (y + 1) = y + 1 := wrap64_in _ (by omega)
    have e2 : wrap64 (-x) = -x := wrap64_in _ (by omega)
    have e3 : wrap64 (-y) = -y := wrap64_in _ (by omega)
    have h5 : acc.length < 5864062014805 := by omega
    simp only [h4, if_true, e1, e2, e3, h5]
    have hs : stepOk A B [x, y] = (decide (mn (mx x (-x)) (mx y (-y)) = A) && decide (mx (mx x (-x)) (mx y (-y)) = B)) := rfl
    by_cases c1 : mn (mx x (-x)) (mx y (-y)) = A
    · by_cases c2 : mx (mx x (-x)) (mx y (-y)) = B
      · have hs' : stepOk A B [x, y] = true := by rw [hs]; simp [c1, c2]
        simp only [c1, c2, if_true]
        refine ih (y + 1) (by omega) (by omega) (acc ++ [[x, y]]) (by simp; omega) ?_
        simpa [ys, List.filter_cons, hs'] using hR
      · have hs' : stepOk A B [x, y] = false := by rw [hs]; simp [c2]
        simp only [c1, c2, if_true, if_false]
        refine ih (y + 1) (by omega) (by omega) acc (by omega) ?_
        simpa [ys, List.filter_cons, hs'] using hR
    · have hs' : stepOk A B [x, y] = false := by rw [hs]; simp [c1]
      simp only [c1, if_false]
      refine ih (y + 1) (by omega) (by omega) acc (by omega) ?_
      simpa [ys, List.filter_cons, hs'] using hR
theorem ys_length (n : Nat) : ∀ y, (ys y n).length = n := by
  induction n with
  | zero => intro y; rfl
  | succ n ih => intro y; simp [ys, ih]
theorem steps_l0 (A B : Int) : ∀ (n : Nat) (x : Int), x + n = 6 → -5 ≤ x → ∀ acc : List (List Int), (acc.length : Int) ≤ 20 * (x + 5) →
    Ev (fun k => impl_Leaper_steps.l0 k acc x A B) (acc ++ ((ys x n).flatMap fun x => (ys (-5) 11).map fun y => [x, y]).filter (stepOk A B)) := by
  intro n
  induction n with
  | zero =>
    intro x h1 h2 acc h3
    refine Ev.step (fun k => by rw [impl_Leaper_steps.l0]) ?_
    have h4 : ¬ x ≤ 5 := by omega
    simp only [h4, if_false, ys, List.flatMap_nil, List.filter_nil, List.append_nil]
    exact Ev.now _
  | succ n ih =>
    intro x h1 h2 acc h3
    refine Ev.step (fun k => by rw [impl_Leaper_steps.l0]) ?_
    have h4 : x ≤ 5 := by omega
    simp only [h4, if_true]
    refine steps_l1 A B x ⟨h2, h4⟩ _ 11 (-5) (by omega) (by omega) acc (by omega) ?_
    have hlen : (((ys (-5) 11).map fun y => [x, y]).filter (stepOk A B)).length ≤ 11 := Nat.le_trans (List.length_filter_le _ _) (by simp [ys_length])
    have := ih (x + 1) (by omega) (by omega) (acc ++ ((ys (-5) 11).map fun y => [x, y]).filter (stepOk A B)) (by rw [List.length_append]; omega)
    have e : (ys x (n + 1)).flatMap (fun x => (ys (-5) 11).map fun y => [x, y]) = ((ys (-5) 11).map fun y => [x, y]) ++ (ys (x + 1) n).flatMap (fun x => (ys (-5) 11).map fun y => [x, y]) := by
      show (x :: ys (x + 1) n).flatMap _ = _
      rw [List.flatMap_cons]
    rw [e, List.filter_append, ← List.append_assoc]
    exact this
theorem steps_ev (A B : Int) : Ev (fun k => impl_Leaper_steps.f k A B) (stepsM A B) := by
  unfold impl_Leaper_steps.f
  have := steps_l0 A B 11 (-5) (by omega) (by omega) [] (by simp)
  simpa [stepsM, allSteps] using this
theorem mem_ys (n : Nat) : ∀ (y z : Int), z ∈ ys y n ↔ y ≤ z ∧ z < y + n := by
  induction n with
  | zero => intro y z; simp [ys]
  | succ n ih => intro y z; simp only [ys, List.mem_cons, ih]; omega
theorem mem_allSteps (s : List Int) : s ∈ allSteps ↔ ∃ x y : Int, (-5 ≤ x ∧ x ≤ 5) ∧ (-5 ≤ y ∧ y ≤ 5) ∧ s = [x, y] := by
  unfold allSteps
  simp only [List.mem_flatMap, List.mem_map, mem_ys]
  constructor
  · rintro ⟨x, hx, y, hy, rfl⟩; exact ⟨x, y, by omega, by omega, rfl⟩
  · rintro ⟨x, y, hx, hy, rfl⟩; exact ⟨x, by omega, y, by omega, rfl⟩
theorem mem_stepsM (A B : Int) (s : List Int) : s ∈ stepsM A B ↔ ∃ x y : Int, (-5 ≤ x ∧ x ≤ 5) ∧ (-5 ≤ y ∧ y ≤ 5) ∧ s = [x, y] ∧ mn (mx x (-x)) (mx y (-y)) = A ∧ mx (mx x (-x)) (mx y (-y)) = B := by
  unfold stepsM
  rw [List.mem_filter, mem_allSteps]
  constructor
  · rintro ⟨⟨x, y, hx, hy, rfl⟩, h⟩
    simp only [stepOk, Bool.and_eq_true, decide_eq_true_eq] at h
    exact ⟨x, y, hx, hy, rfl, h.1, h.2⟩
  · rintro ⟨x, y, hx, hy, rfl, h1, h2⟩
    refine ⟨⟨x, y, hx, hy, rfl⟩, ?_⟩
    simp only [stepOk, Bool.and_eq_true, decide_eq_true_eq]
    exact ⟨h1, h2⟩
theorem allSteps_apart : allSteps.Pairwise fun a b => ¬ (rd a 0 = rd b 0 ∧ rd a 1 = rd b 1) := by decide +kernel
theorem stepsM_apart (A B : Int) : (stepsM A B).Pairwise fun a b => ¬ (rd a 0 = rd b 0 ∧ rd a 1 = rd b 1) := allSteps_apart.filter _
theorem stepsM_length (A B : Int) : (stepsM A B).length ≤ 121 := Nat.le_trans (List.length_filter_le _ _) (by decide +kernel)

theorem sort_key {l m : List Int} (hl : l.Nodup) (hm : m.Pairwise (· < ·)) (h : ∀ x, x ∈ l ↔ x ∈ m) : sortL l = m := by
  unfold sortL
  have hmn : m.Nodup := hm.imp (fun h => by omega)
  refine List.Perm.eq_of_pairwise (le := fun x y => x ≤ y) (fun a b _ _ h1 h2 => by omega) ?_ (hm.imp (fun h => by omega)) ?_
  · refine (List.pairwise_mergeSort (le := fun x y => decide (x ≤ y)) (fun a b c => ?_) (fun a b => ?_) l).imp (fun h => by simpa using h)
    · simp; omega
    · simp; omega
  · exact (List.mergeSort_perm l _).trans ((List.perm_ext_iff_of_nodup hl hmn).2 h)
theorem rd_L1_set (N : List (List Int)) (c : Int) (r : List Int) (h : 0 ≤ c ∧ c < (N.length : Int)) : rd_L1 (N.set c.toNat r) c = r := by
  unfold rd_L1
  rw [List.getD_eq_getElem?_getD, List.getElem?_set_self (by omega)]
  rfl
end Go.Proofs.Ytemaokhlolimhaa.H

namespace Go.Proofs.Ytemaokhlolimhaa.H
open Go.RowKit Go.IntWalk Go.Proofs.Ytemaokhlolimhaa.Q Go.Proofs.YtemaokhlolimhaaW.PrintWords Go.Proofs.YtemaokhlolimhaaW.PrintMore
set_option linter.unusedVariables false
set_option linter.unusedSimpArgs false

theorem has_ev {W H : Int} {L : List Int} (g : BoardM W H L) (c : Int) (hl : L.length ≤ 1048576) : Ev (fun k => impl_Board_has.f k W H L c) (hasB W H L c) := by
  have ha := g.area
  simp only [impl_Board_has.f, g.wrapArea]
  by_cases h1 : c ≥ 0
  · by_cases h2 : c < W * H
    · simp only [h1, h2, if_true]
      refine Ev.bind (contains_ev L c (by omega)) ?_
      have h3 : (0 : Int) ≤ c := h1
      have : hasB W H L c = !L.contains c := by simp [hasB, h3, h2]
      rw [this]
      exact Ev.now _
    · have : hasB W H L c = false := by simp [hasB, h2]
      simp only [h1, h2, if_true, if_false, this]
      exact Ev.now _
  · have h3 : ¬ (0 : Int) ≤ c := h1
    have : hasB W H L c = false := by simp [hasB, h3]
    simp only [h1, if_false, this]
    exact Ev.now _
open Classical in
theorem isBoard_loop (W H : Int) (L : List Int) (ha : wrap64 (W * H) = W * H) (hl : L.length ≤ 4611686018427387904) : ∀ (n i : Nat), n + i = L.length → Ev (fun k => impl_IsBoard.l0 k L (L.length : Int) (i : Int) W H L) (decide (∀ j, i ≤ j → ∀ h : j < L.length, (0 ≤ L[j] ∧ L[j] < W * H) ∧ (1 ≤ j → L[j - 1] < L[j]))) := by
  intro n
  induction n with
  | zero =>
    intro i h1
    refine Ev.step (fun k => by rw [impl_IsBoard.l0]) ?_
    have h3 : ¬ ((i : Int) < (L.length : Int)) := by omega
    have h4 : (∀ j, i ≤ j → ∀ h : j < L.length, (0 ≤ L[j] ∧ L[j] < W * H) ∧ (1 ≤ j → L[j - 1] < L[j])) = True := eq_true (fun j hj h => by omega)
    simp only [h3, if_false, h4, decide_true]
    exact Ev.now _
  | succ n ih =>
    intro i h1
    refine Ev.step (fun k => by rw [impl_IsBoard.l0]) ?_
    have h3 : (i : Int) < (L.length : Int) := by omega
    have hi : i < L.length := by omega
    have h7 : (0 : Int) ≤ (i : Int) := by omega
    have no : ((0 ≤ L[i] ∧ L[i] < W * H) ∧ (1 ≤ i → L[i - 1] < L[i])) ∨ ¬ ((0 ≤ L[i] ∧ L[i] < W * H) ∧ (1 ≤ i → L[i - 1] < L[i])) := Classical.em _
    have bad : ¬ ((0 ≤ L[i] ∧ L[i] < W * H) ∧ (1 ≤ i → L[i - 1] < L[i])) → decide (∀ j, i ≤ j → ∀ h : j < L.length, (0 ≤ L[j] ∧ L[j] < W * H) ∧ (1 ≤ j → L[j - 1] < L[j])) = false := fun hb => by
      rw [decide_eq_false_iff_not]
      exact fun h => hb (h i (by omega) hi)
    have good : ((0 ≤ L[i] ∧ L[i] < W * H) ∧ (1 ≤ i → L[i - 1] < L[i])) → (∀ j, i ≤ j → ∀ h : j < L.length, (0 ≤ L[j] ∧ L[j] < W * H) ∧ (1 ≤ j → L[j - 1] < L[j])) = (∀ j, i + 1 ≤ j → ∀ h : j < L.length, (0 ≤ L[j] ∧ L[j] < W * H) ∧ (1 ≤ j → L[j - 1] < L[j])) := fun hg => by
      rw [eq_iff_iff]
      constructor
      · intro h j hj; exact h j (by omega)
      · intro h j hj hjl
        rcases Nat.lt_or_ge i j with h9 | h9
        · exact h j (by omega) hjl
        · obtain rfl : j = i := by omega
          exact hg
    simp only [h3, h7, if_true, rd_nat L i hi, ha, w_succ (show i ≤ 4611686018427387904 by omega)]
    by_cases c1 : L[i] < 0
    · rw [bad (fun h => by omega)]
      simp only [c1, if_true]
      exact Ev.now _
    simp only [c1, if_false]
    by_cases c2 : L[i] ≥ W * H
    · rw [bad (fun h => by omega)]
      simp only [c2, if_true]
      exact Ev.now _
    simp only [c2, if_false]
    by_cases c3 : (i : Int) > 0
    · have h4 : wrap64 ((i : Int) - 1) = ((i - 1 : Nat) : Int) := by rw [wrap64_in _ (by omega)]; omega
      have h5 : (0 : Int) ≤ ((i - 1 : Nat) : Int) := by omega
      have h6 : ((i - 1 : Nat) : Int) < (L.length : Int) := by omega
      simp only [c3, if_true, h4, h5, h6, rd_nat L (i - 1) (by omega)]
      by_cases c4 : L[i - 1] ≥ L[i]
      · rw [bad (fun h => by have := h.2 (by omega); omega)]
        simp only [c4, if_true]
        exact Ev.now _
      · simp only [c4, if_false, good ⟨⟨by omega, by omega⟩, fun _ => by omega⟩]
        exact ih (i + 1) (by omega)
    · simp only [c3, if_false, good ⟨⟨by omega, by omega⟩, fun h => absurd h (by omega)⟩]
      exact ih (i + 1) (by omega)
theorem sized_eq (n : Int) : impl_sized.f n = some (decide (1 ≤ n ∧ n ≤ 8)) := by
  unfold impl_sized.f
  by_cases h1 : n ≥ 1
  · have h2 : (1 : Int) ≤ n := h1
    simp [h1, h2]
  · have h2 : ¬ (1 : Int) ≤ n := h1
    simp [h1, h2]
theorem isBoard_no {W H : Int} {L : List Int} : Ev (fun k => impl_IsBoard.j0 k true W H L) false := by
  refine Ev.step (fun k => by rw [impl_IsBoard.j0]) ?_
  simp only [if_true]
  exact Ev.now _
open Classical in
theorem isBoard_ev (W H : Int) (L : List Int) (hl : L.length ≤ 1048576) : Ev (fun k => impl_IsBoard.f k W H L) (decide (BoardM W H L)) := by
  simp only [impl_IsBoard.f, sized_eq, Option.bind_some]
  by_cases h1 : 1 ≤ W ∧ W ≤ 8
  · by_cases h2 : 1 ≤ H ∧ H ≤ 8
    · have ar1 : 1 ≤ W * H := by have := Int.mul_le_mul h1.1 h2.1 (by omega) (by omega); omega
      have ar2 : W * H ≤ 64 := by have := Int.mul_le_mul h1.2 h2.2 (by omega) (by omega); omega
      have e1 : wrap64 (W * H) = W * H := wrap64_in _ (by omega)
      simp only [h1, h2, and_self, decide_true, if_true, e1]
      by_cases h3 : (L.length : Int) ≥ W * H
      · have : decide (BoardM W H L) = false := by
          rw [decide_eq_false_iff_not]; rintro ⟨_, _, _, _, h, _⟩; omega
        simp only [h3, decide_true, this]
        exact isBoard_no
      · simp only [h3, decide_false]
        refine Ev.step (fun k => by rw [impl_IsBoard.j0]) ?_
        simp only [Bool.false_eq_true, if_false]
        have h4 := isBoard_loop W H L e1 (by omega) L.length 0 rfl
        have h5 : (∀ j, 0 ≤ j → ∀ h : j < L.length, (0 ≤ L[j] ∧ L[j] < W * H) ∧ (1 ≤ j → L[j - 1] < L[j])) = BoardM W H L := by
          rw [eq_iff_iff]
          constructor
          · intro h
            refine ⟨h1.1, h1.2, h2.1, h2.2, by omega, ?_, (pairwise_iff L).2 fun j hj hjl => (h j (by omega) hjl).2 hj⟩
            intro x hx
            obtain ⟨j, hj, rfl⟩ := List.getElem_of_mem hx
            exact (h j (by omega) hj).1
          · rintro ⟨_, _, _, _, _, h, p⟩ j _ hj
            exact ⟨h _ (List.getElem_mem hj), fun h1 => (pairwise_iff L).1 p j h1 hj⟩
        simp only [h5] at h4
        simpa using h4
    · have : decide (BoardM W H L) = false := by
        rw [decide_eq_false_iff_not]; rintro ⟨_, _, a, b, _⟩; exact h2 ⟨a, b⟩
      simp only [h1, h2, and_self, decide_true, decide_false, if_true, Bool.false_eq_true, if_false, this]
      exact isBoard_no
  · have : decide (BoardM W H L) = false := by
      rw [decide_eq_false_iff_not]; rintro ⟨a, b, _⟩; exact h1 ⟨a, b⟩
    simp only [h1, decide_false, Bool.false_eq_true, if_false, this]
    exact isBoard_no
theorem present_loop {W H : Int} {L : List Int} (g : BoardM W H L) (hl : L.length ≤ 1048576) : ∀ (n i : Nat), (n + i : Int) = W * H → ∀ acc : List Int, acc.length ≤ i → Ev (fun k => impl_Board_present.l0 k acc (W * H) (i : Int) W H L) (acc ++ ((List.range' i n).map Int.ofNat).filter (hasB W H L)) := by
  have ha := g.area
  intro n
  induction n with
  | zero =>
    intro i h1 acc h2
    refine Ev.step (fun k => by rw [impl_Board_present.l0]) ?_
    have h3 : ¬ ((i : Int) < W * H) := by omega
    simp only [h3, if_false, List.range'_zero, List.map_nil, List.filter_nil, List.append_nil]
    exact Ev.now _
  | succ n ih =>
    intro i h1 acc h2
    refine Ev.step (fun k => by rw [impl_Board_present.l0]) ?_
    have h3 : ((i : Int) < W * H) := by omega
    have h0 : (0 : Int) ≤ (i : Int) := by omega
    simp only [h3, if_true, w_succ (show i ≤ 4611686018427387904 by omega)]
    refine Ev.bind (contains_ev L (i : Int) (by omega)) ?_
    have h4 : acc.length < 17592186044416 := by omega
    have hb : hasB W H L (i : Int) = !L.contains (i : Int) := by simp [hasB, h0, h3]
    cases hx : L.contains (i : Int) with
    | false =>
      rw [hx] at hb
      simp only [Bool.false_eq_true, if_false, h4, if_true]
      have := ih (i + 1) (by omega) (acc ++ [(i : Int)]) (by simp; omega)
      simpa [List.range'_succ, List.filter_cons, hb] using this
    | true =>
      rw [hx] at hb
      simp only [if_true]
      have := ih (i + 1) (by omega) acc (by omega)
      simpa [List.range'_succ, List.filter_cons, hb] using this
theorem present_ev {W H : Int} {L : List Int} (g : BoardM W H L) (hl : L.length ≤ 1048576) : Ev (fun k => impl_Board_present.f k W H L) (cellsM W H L) := by
  have ha := g.area
  have := present_loop g hl (W * H).toNat 0 (by omega) [] (by simp)
  unfold impl_Board_present.f cellsM
  rw [List.range_eq_range', g.wrapArea]
  simpa using this

/-! ### The neighbours of a cell -/
def stepTo (W H : Int) (L : List Int) (c : Int) (s : List Int) : Option Int :=
  if 0 ≤ c % W + rd s 0 ∧ c % W + rd s 0 < W ∧ 0 ≤ c / W + rd s 1 ∧ c / W + rd s 1 < H ∧ hasB W H L ((c / W + rd s 1) * W + (c % W + rd s 0)) = true then some ((c / W + rd s 1) * W + (c % W + rd s 0)) else none
theorem cellsM_sorted (W H : Int) (L : List Int) : (cellsM W H L).Pairwise (· < ·) := by
  unfold cellsM
  refine List.Pairwise.filter _ ?_
  rw [List.pairwise_map]
  refine List.pairwise_lt_range.imp (fun h => ?_)
  simp; omega
theorem leapsM_sorted (W H : Int) (L : List Int) (A B c : Int) : (leapsM W H L A B c).Pairwise (· < ·) := (cellsM_sorted W H L).filter _
theorem place_mod {W p q : Int} (h : 0 ≤ p ∧ p < W) : (q * W + p) % W = p ∧ (q * W + p) / W = q := by
  have hW : W ≠ 0 := by omega
  constructor
  · rw [Int.add_comm, Int.add_mul_emod_self_right]; exact Int.emod_eq_of_lt h.1 h.2
  · rw [Int.add_comm, Int.add_mul_ediv_right _ _ hW, Int.ediv_eq_zero_of_lt h.1 h.2]; omega
theorem near_key {W H : Int} {L : List Int} {A B : Int} (t : Two W H L A B) (c : Int) (hc : 0 ≤ c ∧ c < W * H) : sortL ((stepsM A B).filterMap (stepTo W H L c)) = leapsM W H L A B c := by
  obtain ⟨g, l⟩ := t
  obtain ⟨p1, p2, p3, p4, p5⟩ := cell_bounds g hc
  have b1 := g.1
  refine sort_key ?_ (leapsM_sorted _ _ _ _ _ _) ?_
  · unfold List.Nodup
    rw [List.pairwise_filterMap]
    refine (stepsM_apart A B).imp fun {s s'} hne b hb b' hb' he => hne ?_
    unfold stepTo at hb hb'
    split at hb
    · split at hb'
      · rename_i h1 h2
        simp only [Option.some.injEq] at hb hb'
        obtain ⟨m1, m2⟩ := place_mod (W := W) (q := c / W + rd s 1) ⟨h1.1, h1.2.1⟩
        obtain ⟨m3, m4⟩ := place_mod (W := W) (q := c / W + rd s' 1) ⟨h2.1, h2.2.1⟩
        rw [hb] at m1 m2
        rw [hb', ← he] at m3 m4
        omega
      · cases hb'
    · cases hb
  · intro d
    simp only [List.mem_filterMap, mem_stepsM, leapsM, List.mem_filter, mem_cellsM]
    constructor
    · rintro ⟨s, ⟨x, y, hx, hy, rfl, h1, h2⟩, hs⟩
      unfold stepTo at hs
      split at hs
      · rename_i h
        simp only [Option.some.injEq] at hs
        have e0 : rd [x, y] 0 = x := rfl
        have e1 : rd [x, y] 1 = y := rfl
        rw [e0, e1] at h hs
        obtain ⟨m1, m2⟩ := place_mod (W := W) (q := c / W + y) ⟨h.1, h.2.1⟩
        rw [hs] at m1 m2 h
        refine ⟨h.2.2.2.2, ?_⟩
        unfold isB
        rw [m1, m2]
        simp only [Bool.or_eq_true, Bool.and_eq_true, decide_eq_true_eq]
        rw [mn_min, mx_abs, mx_abs] at h1
        rw [mx_max, mx_abs, mx_abs] at h2
        omega
      · cases hs
    · rintro ⟨h1, h2⟩
      obtain ⟨q1, q2, q3, q4, q5⟩ := cell_bounds g (has_range h1)
      have l1 := l.1
      have l2 := l.2.1
      have l3 := l.2.2.1
      have l4 := l.2.2.2
      unfold isB at h2
      simp only [Bool.or_eq_true, Bool.and_eq_true, decide_eq_true_eq] at h2
      refine ⟨[d % W - c % W, d / W - c / W], ⟨_, _, by omega, by omega, rfl, ?_, ?_⟩, ?_⟩
      · rw [mn_min, mx_abs, mx_abs]; omega
      · rw [mx_max, mx_abs, mx_abs]; omega
      · unfold stepTo
        have e0 : rd [d % W - c % W, d / W - c / W] 0 = d % W - c % W := rfl
        have e1 : rd [d % W - c % W, d / W - c / W] 1 = d / W - c / W := rfl
        rw [e0, e1]
        have e2 : c % W + (d % W - c % W) = d % W := by omega
        have e3 : c / W + (d / W - c / W) = d / W := by omega
        have e4 : d / W * W + d % W = d := by omega
        rw [e2, e3, e4]
        simp only [q1, q2, q3, q4, h1, and_self, if_true]
/-! ### The graph -/
def rowM (W H : Int) (L : List Int) (A B c : Int) : List Int := (stepsM A B).filterMap (stepTo W H L c)
def nearF (W H : Int) (L : List Int) (A B : Int) (N : List (List Int)) (cs : List Int) : List (List Int) := cs.foldl (fun N c => N.set c.toNat (sortL (rd_L1 N c ++ rowM W H L A B c))) N
theorem graphOf_l1 {W H : Int} {L : List Int} {A B : Int} (t : Two W H L A B) (hl : L.length ≤ 1048576) (c : Int) (hc : 0 ≤ c ∧ c < W * H) (cs : List Int) (i : Nat) (hi : i ≤ 100) (xs : List Int) (R : List Int × List (List Int) × Bool) (rest pre : List (List Int)) (hr : ∀ s ∈ rest, ∃ x y : Int, (-5 ≤ x ∧ x ≤ 5) ∧ (-5 ≤ y ∧ y ≤ 5) ∧ s = [x, y]) (hp : (pre ++ rest).length ≤ 121) (N : List (List Int)) (hN : (N.length : Int) = W * H) (hrow : (rd_L1 N c).length ≤ 1000 + pre.length)
    (hR : Ev (fun k => impl_graphOf.l0 k cs (cs.length : Int) ((i + 1 : Nat) : Int) W H L A B W H L A B xs (N.set c.toNat (sortL (rd_L1 N c ++ rest.filterMap (stepTo W H L c))))) R) :
    Ev (fun k => impl_graphOf.l1 k c cs (cs.length : Int) (i : Int) (pre ++ rest) ((pre ++ rest).length : Int) (pre.length : Int) W H L A B W H L A B xs N) R := by
  obtain ⟨g, l⟩ := t
  obtain ⟨p1, p2, p3, p4, p5⟩ := cell_bounds g hc
  have b1 := g.1
  have b2 := g.2.1
  have b3 := g.2.2.2.1
  have hcN : 0 ≤ c ∧ c < (N.length : Int) := by omega
  induction rest generalizing pre N with
  | nil =>
    refine Ev.step (fun k => by rw [impl_graphOf.l1]) ?_
    have h1 : (rd_L1 N c).length < 4611686018427387904 := by simp at hp; omega
    simp only [List.append_nil, nlt_end, if_false, hcN, hc.1, if_true, h1, w_succ (show i ≤ 4611686018427387904 by omega)]
    simpa using hR
  | cons s r ih =>
    refine Ev.step (fun k => by rw [impl_graphOf.l1]) ?_
    obtain ⟨x, y, hx, hy, rfl⟩ := hr s (by simp)
    have h0 : (0 : Int) ≤ (pre.length : Int) := by omega
    have h5 : pre.length ≤ 121 := by simp at hp; omega
    have e0 : rd_L1 (pre ++ [x, y] :: r) (pre.length : Int) = [x, y] := by simp [rd_L1]
    have e1 : rd [x, y] 0 = x := rfl
    have e2 : rd [x, y] 1 = y := rfl
    have n0 : ¬ W = 0 := by omega
    have w1 : wrap64 (c % W + x) = c % W + x := wrap64_in _ (by omega)
    have w2 : wrap64 (c / W) = c / W := wrap64_in _ (by omega)
    have w3 : wrap64 (c / W + y) = c / W + y := wrap64_in _ (by omega)
    have hlen0 : (0 : Int) < (([x, y] : List Int).length : Int) := by simp
    have hlen1 : (1 : Int) < (([x, y] : List Int).length : Int) := by simp
    have back : ∀ N' : List (List Int), (N'.length : Int) = W * H → (rd_L1 N' c).length ≤ 1000 + (pre.length + 1) →
        Ev (fun k => impl_graphOf.l0 k cs (cs.length : Int) ((i + 1 : Nat) : Int) W H L A B W H L A B xs (N'.set c.toNat (sortL (rd_L1 N' c ++ r.filterMap (stepTo W H L c))))) R →
        Ev (fun k => impl_graphOf.l1 k c cs (cs.length : Int) (i : Int) (pre ++ [x, y] :: r) ((pre ++ [x, y] :: r).length : Int) ((pre.length + 1 : Nat) : Int) W H L A B W H L A B xs N') R := by
      intro N' hN' hrow' hR'
      have := ih (pre ++ [[x, y]]) (fun s hs => hr s (by simp [hs])) (by simpa using hp) N' hN' (by simpa using hrow') hR' (by omega)
      simpa using this
    simp only [lt_mid pre [x, y] r, h0, if_true, e0, e1, e2, n0, if_false, tmod_of hc.1, tdiv_of hc.1, w1, w2, w3, hlen0, hlen1, w_succ (show pre.length ≤ 4611686018427387904 by omega)]
    have skip : stepTo W H L c [x, y] = none → Ev (fun k => impl_graphOf.l1 k c cs (cs.length : Int) (i : Int) (pre ++ [x, y] :: r) ((pre ++ [x, y] :: r).length : Int) ((pre.length + 1 : Nat) : Int) W H L A B W H L A B xs N) R := by
      intro hs
      refine back N hN (by omega) ?_
      simpa [List.filterMap_cons, hs] using hR
    have se : stepTo W H L c [x, y] = if 0 ≤ c % W + x ∧ c % W + x < W ∧ 0 ≤ c / W + y ∧ c / W + y < H ∧ hasB W H L ((c / W + y) * W + (c % W + x)) = true then some ((c / W + y) * W + (c % W + x)) else none := rfl
    by_cases c1 : c % W + x ≥ 0
    case neg => simp only [c1, if_false]; exact skip (by rw [se, if_neg]; rintro ⟨h, _⟩; omega)
    simp only [c1, if_true]
    by_cases c2 : c % W + x < W
    case neg => simp only [c2, if_false]; exact skip (by rw [se, if_neg]; rintro ⟨_, h, _⟩; omega)
    simp only [c2, if_true]
    by_cases c3 : c / W + y ≥ 0
    case neg => simp only [c3, if_false]; exact skip (by rw [se, if_neg]; rintro ⟨_, _, h, _⟩; omega)
    simp only [c3, if_true]
    by_cases c4 : c / W + y < H
    case neg => simp only [c4, if_false]; exact skip (by rw [se, if_neg]; rintro ⟨_, _, _, h, _⟩; omega)
    simp only [c4, if_true]
    have m1 : 0 ≤ (c / W + y) * W := Int.mul_nonneg c3 (by omega)
    have m2 : (c / W + y) * W ≤ 8 * 8 := Int.mul_le_mul (by omega) b2 (by omega) (by omega)
    have w4 : wrap64 ((c / W + y) * W) = (c / W + y) * W := wrap64_in _ (by omega)
    have w5 : wrap64 ((c / W + y) * W + (c % W + x)) = (c / W + y) * W + (c % W + x) := wrap64_in _ (by omega)
    simp only [w4, w5]
    refine Ev.bind (has_ev g _ hl) ?_
    cases hh : hasB W H L ((c / W + y) * W + (c % W + x)) with
    | false =>
      simp only [Bool.false_eq_true, if_false]
      exact skip (by rw [se, if_neg]; rintro ⟨_, _, _, _, h⟩; rw [hh] at h; cases h)
    | true =>
      have h9 : (rd_L1 N c).length < 17592186044416 := by omega
      simp only [if_true, hc.1, hcN, h9]
      have hs : stepTo W H L c [x, y] = some ((c / W + y) * W + (c % W + x)) := by
        rw [se, if_pos]; exact ⟨c1, c2, c3, c4, hh⟩
      refine back _ (by simpa using hN) (by rw [rd_L1_set N c _ hcN]; simp; omega) ?_
      rw [rd_L1_set N c _ hcN, List.set_set]
      simpa [List.filterMap_cons, hs] using hR
theorem graphOf_l0 {W H : Int} {L : List Int} {A B : Int} (t : Two W H L A B) (hl : L.length ≤ 1048576) (xs rest pre : List Int) (hr : ∀ c ∈ rest, 0 ≤ c ∧ c < W * H) (hp : (pre ++ rest).length ≤ 64) (N : List (List Int)) (hN : (N.length : Int) = W * H) (hrow : ∀ c ∈ rest, rd_L1 N c = []) (hnd : rest.Nodup) :
    Ev (fun k => impl_graphOf.l0 k (pre ++ rest) ((pre ++ rest).length : Int) (pre.length : Int) W H L A B W H L A B xs N) (xs, nearF W H L A B N rest, true) := by
  induction rest generalizing pre N with
  | nil =>
    refine Ev.step (fun k => by rw [impl_graphOf.l0]) ?_
    simp only [List.append_nil, nlt_end, if_false, nearF, List.foldl_nil]
    exact Ev.now _
  | cons c r ih =>
    refine Ev.step (fun k => by rw [impl_graphOf.l0]) ?_
    have h0 : (0 : Int) ≤ (pre.length : Int) := by omega
    have h5 : pre.length ≤ 64 := by simp at hp; omega
    simp only [lt_mid pre c r, h0, if_true, rd_mid]
    refine Ev.bind (steps_ev A B) ?_
    have hc := hr c (by simp)
    have := graphOf_l1 t hl c hc (pre ++ c :: r) pre.length (by omega) xs (xs, nearF W H L A B N (c :: r), true) (stepsM A B) [] (fun s hs => by
      obtain ⟨x, y, hx, hy, e, _⟩ := (mem_stepsM A B s).1 hs
      exact ⟨x, y, hx, hy, e⟩) (by simpa using stepsM_length A B) N hN (by rw [hrow c (by simp)]; simp) ?_
    · simpa using this
    · have h1 : (N.set c.toNat (sortL (rd_L1 N c ++ rowM W H L A B c))).length = N.length := by simp
      have := ih (pre ++ [c]) (fun d hd => hr d (by simp [hd])) (by simpa using hp) (N.set c.toNat (sortL (rd_L1 N c ++ rowM W H L A B c))) (by omega) (fun d hd => by
        have hdc : d ≠ c := fun e => by subst e; exact (List.nodup_cons.1 hnd).1 hd
        have hd0 := hr d (by simp [hd])
        have := hrow d (by simp [hd])
        unfold rd_L1 at this ⊢
        rw [List.getD_eq_getElem?_getD, List.getElem?_set_ne (by omega)]
        rwa [List.getD_eq_getElem?_getD] at this) (List.nodup_cons.1 hnd).2
      simpa [nearF, rowM] using this
def nearM (W H : Int) (L : List Int) (A B : Int) : List (List Int) := (List.range (W * H).toNat).map fun (i : Nat) => if hasB W H L (i : Int) then leapsM W H L A B (i : Int) else []
theorem nearF_length (W H : Int) (L : List Int) (A B : Int) (cs : List Int) : ∀ N, (nearF W H L A B N cs).length = N.length := by
  induction cs with
  | nil => intro N; rfl
  | cons c r ih => intro N; show (nearF W H L A B _ r).length = _; rw [ih]; simp
theorem nearF_get (W H : Int) (L : List Int) (A B : Int) (cs : List Int) (hn : cs.Nodup) : ∀ N, (∀ c ∈ cs, rd_L1 N c = [] ∧ 0 ≤ c ∧ c < (N.length : Int)) → ∀ i : Nat, i < N.length → rd_L1 (nearF W H L A B N cs) (i : Int) = if (i : Int) ∈ cs then sortL (rowM W H L A B (i : Int)) else rd_L1 N (i : Int) := by
  induction cs with
  | nil => intro N h i hi; simp [nearF]
  | cons c r ih =>
    intro N h i hi
    show rd_L1 (nearF W H L A B (N.set c.toNat (sortL (rd_L1 N c ++ rowM W H L A B c))) r) (i : Int) = _
    obtain ⟨hc0, hc⟩ := h c (by simp)
    obtain ⟨hcr, hr⟩ := List.nodup_cons.1 hn
    have hset : ∀ d : Int, 0 ≤ d → d ≠ c → rd_L1 (N.set c.toNat (sortL (rd_L1 N c ++ rowM W H L A B c))) d = rd_L1 N d := by
      intro d hd0 hdc
      unfold rd_L1
      rw [List.getD_eq_getElem?_getD, List.getElem?_set_ne (by omega), ← List.getD_eq_getElem?_getD]
    rw [ih hr _ (fun d hd => by
      have hd' := h d (by simp [hd])
      refine ⟨?_, hd'.2.1, by simpa using hd'.2.2⟩
      rw [hset d hd'.2.1 (fun e => by subst e; exact hcr hd)]
      exact hd'.1) i (by simpa using hi)]
    by_cases hic : (i : Int) = c
    · have : ¬ (i : Int) ∈ r := by rw [hic]; exact hcr
      rw [if_neg this, hic, rd_L1_set N c _ hc, if_pos (by simp), hc0]
      simp
    · rw [hset _ (by omega) hic]
      have : ((i : Int) ∈ c :: r) ↔ (i : Int) ∈ r := by simp [hic]
      by_cases h2 : (i : Int) ∈ r
      · rw [if_pos h2, if_pos (this.2 h2)]
      · rw [if_neg h2, if_neg (fun h3 => h2 (this.1 h3))]
theorem nearM_get (W H : Int) (L : List Int) (A B c : Int) (h : 0 ≤ c ∧ c < W * H) : rd_L1 (nearM W H L A B) c = if hasB W H L c then leapsM W H L A B c else [] := by
  unfold rd_L1 nearM
  rw [List.getD_eq_getElem?_getD, List.getElem?_map, List.getElem?_range (by omega)]
  have : ((c.toNat : Nat) : Int) = c := by omega
  simp [this]
theorem nearM_length (W H : Int) (L : List Int) (A B : Int) : (nearM W H L A B).length = (W * H).toNat := by simp [nearM]
theorem nearF_eq {W H : Int} {L : List Int} {A B : Int} (t : Two W H L A B) : nearF W H L A B (List.replicate (W * H).toNat []) (cellsM W H L) = nearM W H L A B := by
  have g := t.1
  have ha := g.area
  have hrep : ∀ d : Int, rd_L1 (List.replicate (W * H).toNat ([] : List Int)) d = [] := by
    intro d
    unfold rd_L1
    rw [List.getD_eq_getElem?_getD, List.getElem?_replicate]
    split <;> rfl
  have hnd : (cellsM W H L).Nodup := (cellsM_sorted W H L).imp (fun h => by omega)
  refine List.ext_getElem (by rw [nearF_length, nearM_length]; simp) fun i h1 h2 => ?_
  have hi : i < (W * H).toNat := by rw [nearM_length] at h2; exact h2
  have k1 := nearF_get W H L A B (cellsM W H L) hnd (List.replicate (W * H).toNat []) (fun c hc => ⟨hrep c, (has_range (mem_cellsM.1 hc)).1, by have := (has_range (mem_cellsM.1 hc)).2; simp; omega⟩) i (by simpa using hi)
  have k2 := nearM_get W H L A B (i : Int) (by omega)
  have r1 : rd_L1 (nearF W H L A B (List.replicate (W * H).toNat []) (cellsM W H L)) (i : Int) = (nearF W H L A B (List.replicate (W * H).toNat []) (cellsM W H L))[i] := by
    unfold rd_L1; rw [List.getD_eq_getElem?_getD, Int.toNat_natCast, List.getElem?_eq_getElem h1]; rfl
  have r2 : rd_L1 (nearM W H L A B) (i : Int) = (nearM W H L A B)[i] := by
    unfold rd_L1; rw [List.getD_eq_getElem?_getD, Int.toNat_natCast, List.getElem?_eq_getElem h2]; rfl
  rw [← r1, ← r2, k1, k2]
  by_cases hh : hasB W H L (i : Int) = true
  · rw [if_pos (mem_cellsM.2 hh), if_pos hh]
    exact near_key t (i : Int) (by omega)
  · rw [if_neg (fun h => hh (mem_cellsM.1 h)), if_neg hh]
    exact hrep _
theorem graphOf_no {W H : Int} {L : List Int} {A B : Int} : Ev (fun k => impl_graphOf.j0 k true W H L A B) (([] : List Int), ([] : List (List Int)), false) := by
  refine Ev.step (fun k => by rw [impl_graphOf.j0]) ?_
  simp only [if_true]
  exact Ev.now _
theorem graphOf_two {W H : Int} {L : List Int} {A B : Int} (t : Two W H L A B) (hl : L.length ≤ 1048576) : Ev (fun k => impl_graphOf.f k W H L A B) (cellsM W H L, nearM W H L A B, true) := by
  have ha := t.1.area
  unfold impl_graphOf.f
  refine Ev.bind (isBoard_ev W H L hl) ?_
  have g := t.1
  have l := t.2
  simp only [g, l, decide_true, if_true, isLeaper_eq, Option.bind_some, Bool.not_true]
  refine Ev.step (fun k => by rw [impl_graphOf.j0]) ?_
  simp only [Bool.false_eq_true, if_false]
  refine Ev.bind (present_ev g hl) ?_
  have h1 : 0 ≤ W * H := by omega
  have h2 : (W * H).toNat ≤ 11728124029610 := by omega
  simp only [g.wrapArea, h1, h2, if_true]
  have := graphOf_l0 t hl (cellsM W H L) (cellsM W H L) [] (fun c hc => has_range (mem_cellsM.1 hc)) (by simpa using cellsM_length g) (List.replicate (W * H).toNat []) (by simp; omega) (fun d hd => by
    unfold rd_L1
    rw [List.getD_eq_getElem?_getD, List.getElem?_replicate]
    split <;> rfl) ((cellsM_sorted W H L).imp (fun h => by omega))
  rw [nearF_eq t] at this
  simpa using this
theorem graphOf_not {W H : Int} {L : List Int} {A B : Int} (t : ¬ Two W H L A B) (hl : L.length ≤ 1048576) : Ev (fun k => impl_graphOf.f k W H L A B) (([] : List Int), ([] : List (List Int)), false) := by
  unfold impl_graphOf.f
  refine Ev.bind (isBoard_ev W H L hl) ?_
  by_cases g : BoardM W H L
  · have l : ¬ Leap A B := fun l => t ⟨g, l⟩
    simp only [g, l, decide_true, decide_false, if_true, isLeaper_eq, Option.bind_some, Bool.not_false]
    exact graphOf_no
  · simp only [g, decide_false, Bool.false_eq_true, if_false]
    exact graphOf_no
end Go.Proofs.Ytemaokhlolimhaa.H

namespace Go.Proofs.Ytemaokhlolimhaa.H
open Go.RowKit Go.IntWalk Go.Proofs.Ytemaokhlolimhaa.Q Go.Proofs.YtemaokhlolimhaaW.PrintWords Go.Proofs.YtemaokhlolimhaaW.PrintMore
set_option linter.unusedVariables false
set_option linter.unusedSimpArgs false
theorem near_at {W H : Int} {L : List Int} {A B c : Int} (h : hasB W H L c = true) : rd_L1 (nearM W H L A B) c = leapsM W H L A B c := by
  rw [nearM_get W H L A B c (has_range h), if_pos h]
theorem near_in {W H : Int} {L : List Int} {A B c : Int} (g : BoardM W H L) (h : hasB W H L c = true) : 0 ≤ c ∧ c < ((nearM W H L A B).length : Int) := by
  have := has_range h
  have := g.area
  rw [nearM_length]; omega
theorem leaps_contains {W H : Int} {L : List Int} {A B c d : Int} : (leapsM W H L A B c).contains d = (hasB W H L d && isB W A B c d) := by
  rw [Bool.eq_iff_iff]
  simp [leapsM, List.mem_filter, mem_cellsM]
theorem leaps_ev {W H : Int} {L : List Int} {A B : Int} (g : BoardM W H L) (c d : Int) (hc : hasB W H L c = true) (hd : hasB W H L d = true) : Ev (fun k => impl_graph_leaps.f k W H L A B (cellsM W H L) (nearM W H L A B) c d) (isB W A B c d) := by
  have hn := near_in (A := A) (B := B) g hc
  have hl := leapsM_length g A B c
  simp only [impl_graph_leaps.f, hn.1, hn.2, if_true, near_at hc]
  refine Ev.bind (contains_ev _ d (by omega)) ?_
  rw [leaps_contains, hd, Bool.true_and]
  exact Ev.now _
end Go.Proofs.Ytemaokhlolimhaa.H

namespace Go.Proofs.Ytemaokhlolimhaa.H
open Go.RowKit Go.IntWalk Go.Proofs.Ytemaokhlolimhaa.Q Go.Proofs.YtemaokhlolimhaaW.PrintWords Go.Proofs.YtemaokhlolimhaaW.PrintMore
set_option linter.unusedVariables false
set_option linter.unusedSimpArgs false
def trn (ax ay bx by_ cx cy : Int) : Int := (bx - ax) * (cy - ay) - (by_ - ay) * (cx - ax)
def sgn (n : Int) : Int := if n > 0 then 1 else if n < 0 then -1 else 0
theorem mul_le_zero_iff {m n : Int} : m * n ≤ 0 ↔ (m ≤ 0 ∧ 0 ≤ n) ∨ (0 ≤ m ∧ n ≤ 0) := by
  constructor
  · intro h
    rcases Int.lt_trichotomy m 0 with h1 | h1 | h1
    · left; refine ⟨by omega, ?_⟩
      rcases Int.lt_or_le n 0 with h2 | h2
      · have := Int.mul_pos_of_neg_of_neg h1 h2; omega
      · exact h2
    · subst h1; omega
    · right; refine ⟨by omega, ?_⟩
      rcases Int.lt_or_le 0 n with h2 | h2
      · have := Int.mul_pos h1 h2; omega
      · exact h2
  · rintro (⟨h1, h2⟩ | ⟨h1, h2⟩)
    · exact Int.mul_nonpos_of_nonpos_of_nonneg h1 h2
    · exact Int.mul_nonpos_of_nonneg_of_nonpos h1 h2
/-- A point lies in the box of two others. -/
def Box (ax ay bx by_ cx cy : Int) : Prop := (ax - cx) * (bx - cx) ≤ 0 ∧ (ay - cy) * (by_ - cy) ≤ 0
/-- What the reference asks. -/
def SpecP (ax ay bx by_ cx cy dx dy : Int) : Prop :=
  ((ax = cx ∧ ay = cy) ∧ (bx = dx ∧ by_ = dy)) ∨ ((ax = dx ∧ ay = dy) ∧ (bx = cx ∧ by_ = cy)) ∨
  ((trn ax ay bx by_ cx cy = 0 ∧ Box ax ay bx by_ cx cy) ∧ ¬ (cx = ax ∧ cy = ay) ∧ ¬ (cx = bx ∧ cy = by_)) ∨
  ((trn ax ay bx by_ dx dy = 0 ∧ Box ax ay bx by_ dx dy) ∧ ¬ (dx = ax ∧ dy = ay) ∧ ¬ (dx = bx ∧ dy = by_)) ∨
  ((trn cx cy dx dy ax ay = 0 ∧ Box cx cy dx dy ax ay) ∧ ¬ (ax = cx ∧ ay = cy) ∧ ¬ (ax = dx ∧ ay = dy)) ∨
  ((trn cx cy dx dy bx by_ = 0 ∧ Box cx cy dx dy bx by_) ∧ ¬ (bx = cx ∧ by_ = cy) ∧ ¬ (bx = dx ∧ by_ = dy)) ∨
  (sgn (trn ax ay bx by_ cx cy) * sgn (trn ax ay bx by_ dx dy) < 0 ∧ sgn (trn cx cy dx dy ax ay) * sgn (trn cx cy dx dy bx by_) < 0)
def Shared (ax ay bx by_ cx cy dx dy : Int) : Prop := (ax = cx ∧ ay = cy) ∨ (ax = dx ∧ ay = dy) ∨ (bx = cx ∧ by_ = cy) ∨ (bx = dx ∧ by_ = dy)
/-- What the program asks where the four ends do not lie on one straight line. -/
def ProgP (ax ay bx by_ cx cy dx dy : Int) : Prop := ¬ Shared ax ay bx by_ cx cy dx dy ∧
  ((sgn (trn ax ay bx by_ cx cy) * sgn (trn ax ay bx by_ dx dy) < 0 ∧ sgn (trn cx cy dx dy ax ay) * sgn (trn cx cy dx dy bx by_) < 0) ∨
   (trn ax ay bx by_ cx cy = 0 ∧ Box ax ay bx by_ cx cy) ∨ (trn ax ay bx by_ dx dy = 0 ∧ Box ax ay bx by_ dx dy) ∨ (trn cx cy dx dy ax ay = 0 ∧ Box cx cy dx dy ax ay) ∨ (trn cx cy dx dy bx by_ = 0 ∧ Box cx cy dx dy bx by_))
theorem trn_a (ax ay bx by_ : Int) : trn ax ay bx by_ ax ay = 0 := by unfold trn; grind
theorem trn_b (ax ay bx by_ : Int) : trn ax ay bx by_ bx by_ = 0 := by unfold trn; grind
theorem trn_swap (ax ay bx by_ cx cy : Int) : trn ax ay cx cy bx by_ = - trn ax ay bx by_ cx cy := by unfold trn; grind
theorem trn_turn (ax ay bx by_ cx cy : Int) : trn bx by_ cx cy ax ay = trn ax ay bx by_ cx cy := by unfold trn; grind
theorem case_off {ax ay bx by_ cx cy dx dy : Int} (h : ¬ (trn ax ay bx by_ cx cy = 0 ∧ trn ax ay bx by_ dx dy = 0)) : ProgP ax ay bx by_ cx cy dx dy ↔ SpecP ax ay bx by_ cx cy dx dy := by
  by_cases hs : Shared ax ay bx by_ cx cy dx dy
  · constructor
    · intro hp; exact absurd hs hp.1
    · intro hp
      exfalso
      rcases hs with ⟨rfl, rfl⟩ | ⟨rfl, rfl⟩ | ⟨rfl, rfl⟩ | ⟨rfl, rfl⟩
      · have e1 := trn_a ax ay bx by_
        have e2 := trn_a ax ay dx dy
        have e3 := trn_swap ax ay bx by_ dx dy
        have e4 := trn_b ax ay bx by_
        have e5 : sgn 0 = 0 := rfl
        unfold SpecP at hp
        grind
      · have e1 := trn_a ax ay bx by_
        have e2 := trn_b cx cy ax ay
        have e3 := trn_turn bx by_ cx cy ax ay
        have e3' := trn_turn cx cy ax ay bx by_
        have e4 := trn_b ax ay bx by_
        have e5 : sgn 0 = 0 := rfl
        unfold SpecP at hp
        grind
      · have e1 := trn_b ax ay bx by_
        have e2 := trn_a bx by_ dx dy
        have e3 := trn_turn ax ay bx by_ dx dy
        have e4 := trn_a ax ay bx by_
        have e5 : sgn 0 = 0 := rfl
        unfold SpecP at hp
        grind
      · have e1 := trn_b ax ay bx by_
        have e2 := trn_b cx cy bx by_
        have e3 := trn_swap cx cy bx by_ ax ay
        have e3' := trn_turn ax ay bx by_ cx cy
        have e3'' := trn_turn bx by_ cx cy ax ay
        have e4 := trn_a ax ay bx by_
        have e5 : sgn 0 = 0 := rfl
        unfold SpecP at hp
        grind
  · have hs' := hs
    unfold Shared at hs'
    unfold ProgP SpecP
    grind

/-- What the program asks of four ends on one straight line: places along it. -/
def LineP (ax ay bx by_ cx cy dx dy : Int) : Prop :=
  (((cx - ax) * (bx - ax) + (cy - ay) * (by_ - ay) < (dx - ax) * (bx - ax) + (dy - ay) * (by_ - ay)) ∨ ((dx - ax) * (bx - ax) + (dy - ay) * (by_ - ay) < (cx - ax) * (bx - ax) + (cy - ay) * (by_ - ay))) ∧
  (((cx - ax) * (bx - ax) + (cy - ay) * (by_ - ay) < (bx - ax) * (bx - ax) + (by_ - ay) * (by_ - ay)) ∨ ((dx - ax) * (bx - ax) + (dy - ay) * (by_ - ay) < (bx - ax) * (bx - ax) + (by_ - ay) * (by_ - ay))) ∧
  ((0 < (cx - ax) * (bx - ax) + (cy - ay) * (by_ - ay)) ∨ (0 < (dx - ax) * (bx - ax) + (dy - ay) * (by_ - ay))) ∧ 0 < (bx - ax) * (bx - ax) + (by_ - ay) * (by_ - ay)
/-- Points of a line of whole steps: a, a + g e, a + k e, a + l e. -/
theorem case_on (ax ay ex ey g k l : Int) (he : 0 < ex * ex + ey * ey) (hg : 0 < g) (hkl : k ≠ l) :
    LineP ax ay (ax + g * ex) (ay + g * ey) (ax + k * ex) (ay + k * ey) (ax + l * ex) (ay + l * ey) ↔ SpecP ax ay (ax + g * ex) (ay + g * ey) (ax + k * ex) (ay + k * ey) (ax + l * ex) (ay + l * ey) := by
  have hne : ex ≠ 0 ∨ ey ≠ 0 := by
    by_cases h1 : ex = 0
    · by_cases h2 : ey = 0
      · subst h1 h2; omega
      · exact .inr h2
    · exact .inl h1
  -- points are the same just where their numbers are
  have same : ∀ s t : Int, (ax + s * ex = ax + t * ex ∧ ay + s * ey = ay + t * ey) ↔ s = t := fun s t => by
    constructor
    · rintro ⟨h1, h2⟩
      have h3 : (s - t) * ex = 0 := by grind
      have h4 : (s - t) * ey = 0 := by grind
      rcases hne with h | h
      · rcases Int.mul_eq_zero.1 h3 with h5 | h5
        · omega
        · exact absurd h5 h
      · rcases Int.mul_eq_zero.1 h4 with h5 | h5
        · omega
        · exact absurd h5 h
    · rintro rfl; exact ⟨rfl, rfl⟩
  -- between, in coordinates, is between in numbers
  have box : ∀ s t r : Int, Box (ax + s * ex) (ay + s * ey) (ax + t * ex) (ay + t * ey) (ax + r * ex) (ay + r * ey) ↔ (s - r) * (t - r) ≤ 0 := fun s t r => by
    have e1 : (ax + s * ex - (ax + r * ex)) * (ax + t * ex - (ax + r * ex)) = ((s - r) * (t - r)) * (ex * ex) := by grind
    have e2 : (ay + s * ey - (ay + r * ey)) * (ay + t * ey - (ay + r * ey)) = ((s - r) * (t - r)) * (ey * ey) := by grind
    have x0 : 0 ≤ ex * ex := by rcases Int.le_total 0 ex with h | h; exact Int.mul_nonneg h h; exact Int.mul_nonneg_of_nonpos_of_nonpos h h
    have y0 : 0 ≤ ey * ey := by rcases Int.le_total 0 ey with h | h; exact Int.mul_nonneg h h; exact Int.mul_nonneg_of_nonpos_of_nonpos h h
    unfold Box
    rw [e1, e2]
    constructor
    · rintro ⟨h1, h2⟩
      rcases Int.lt_or_le 0 ((s - r) * (t - r)) with h | h
      · have h3 := Int.mul_pos h he
        have h4 : ((s - r) * (t - r)) * (ex * ex + ey * ey) = ((s - r) * (t - r)) * (ex * ex) + ((s - r) * (t - r)) * (ey * ey) := by grind
        omega
      · exact h
    · intro h
      exact ⟨Int.mul_nonpos_of_nonpos_of_nonneg h x0, Int.mul_nonpos_of_nonpos_of_nonneg h y0⟩
  have line : ∀ s t r : Int, trn (ax + s * ex) (ay + s * ey) (ax + t * ex) (ay + t * ey) (ax + r * ex) (ay + r * ey) = 0 := fun s t r => by unfold trn; grind
  have z0 : ax = ax + 0 * ex := by omega
  have z1 : ay = ay + 0 * ey := by omega
  have M : 0 < g * (ex * ex + ey * ey) := Int.mul_pos hg he
  have dot : ∀ s : Int, (ax + s * ex - ax) * (ax + g * ex - ax) + (ay + s * ey - ay) * (ay + g * ey - ay) = s * (g * (ex * ex + ey * ey)) := fun s => by grind
  have lt : ∀ s t : Int, s * (g * (ex * ex + ey * ey)) < t * (g * (ex * ex + ey * ey)) ↔ s < t := fun s t => Int.mul_lt_mul_right M
  have pos : ∀ s : Int, 0 < s * (g * (ex * ex + ey * ey)) ↔ 0 < s := fun s => by have := lt 0 s; rwa [Int.zero_mul] at this
  have hl : LineP ax ay (ax + g * ex) (ay + g * ey) (ax + k * ex) (ay + k * ey) (ax + l * ex) (ay + l * ey) ↔ ((k < l ∨ l < k) ∧ (k < g ∨ l < g) ∧ (0 < k ∨ 0 < l) ∧ 0 < g) := by
    unfold LineP
    rw [dot k, dot l, dot g, lt, lt, lt, lt, pos, pos, pos]
  rw [hl]
  have hs : SpecP (ax + 0 * ex) (ay + 0 * ey) (ax + g * ex) (ay + g * ey) (ax + k * ex) (ay + k * ey) (ax + l * ex) (ay + l * ey) ↔
      ((0 = k ∧ g = l) ∨ (0 = l ∧ g = k) ∨ ((0 - k) * (g - k) ≤ 0 ∧ ¬ k = 0 ∧ ¬ k = g) ∨ ((0 - l) * (g - l) ≤ 0 ∧ ¬ l = 0 ∧ ¬ l = g) ∨ ((k - 0) * (l - 0) ≤ 0 ∧ ¬ 0 = k ∧ ¬ 0 = l) ∨ ((k - g) * (l - g) ≤ 0 ∧ ¬ g = k ∧ ¬ g = l)) := by
    unfold SpecP
    simp only [same, box, line, true_and]
    have : ¬ (sgn 0 * sgn 0 < 0 ∧ sgn 0 * sgn 0 < 0) := by decide
    simp only [this, or_false]
  rw [← z0, ← z1] at hs
  rw [hs]
  simp only [mul_le_zero_iff]
  omega
/-- A leap's way is a whole number of steps of a first one. -/
theorem prim_fin : ∀ i j : Fin 11, ¬ (i.val = 5 ∧ j.val = 5) → ∃ g : Fin 6, ∃ x y : Fin 5, 0 < g.val ∧ (i.val : Int) - 5 = (g.val : Int) * (((i.val : Int) - 5) / (g.val : Int)) ∧ (j.val : Int) - 5 = (g.val : Int) * (((j.val : Int) - 5) / (g.val : Int)) ∧
    (((i.val : Int) - 5) / (g.val : Int)) * ((x.val : Int) - 2) + (((j.val : Int) - 5) / (g.val : Int)) * ((y.val : Int) - 2) = 1 := by decide +kernel
theorem prim {u v : Int} (hu : -5 ≤ u ∧ u ≤ 5) (hv : -5 ≤ v ∧ v ≤ 5) (h : ¬ (u = 0 ∧ v = 0)) : ∃ g ex ey x y : Int, 0 < g ∧ u = g * ex ∧ v = g * ey ∧ ex * x + ey * y = 1 := by
  obtain ⟨g, x, y, h1, h2, h3, h4⟩ := prim_fin ⟨(u + 5).toNat, by omega⟩ ⟨(v + 5).toNat, by omega⟩ (by simp only; omega)
  have eu : (((u + 5).toNat : Nat) : Int) - 5 = u := by omega
  have ev : (((v + 5).toNat : Nat) : Int) - 5 = v := by omega
  simp only [eu, ev] at h2 h3 h4
  exact ⟨(g.val : Int), u / (g.val : Int), v / (g.val : Int), (x.val : Int) - 2, (y.val : Int) - 2, by omega, h2, h3, h4⟩
theorem cross_same {ax ay bx by_ cx cy dx dy : Int} (hu : -5 ≤ bx - ax ∧ bx - ax ≤ 5) (hv : -5 ≤ by_ - ay ∧ by_ - ay ≤ 5) (h : ¬ (bx - ax = 0 ∧ by_ - ay = 0)) (hw : ¬ (cx = dx ∧ cy = dy)) :
    (((trn ax ay bx by_ cx cy = 0 ∧ trn ax ay bx by_ dx dy = 0) ∧ LineP ax ay bx by_ cx cy dx dy) ∨ (¬ (trn ax ay bx by_ cx cy = 0 ∧ trn ax ay bx by_ dx dy = 0) ∧ ProgP ax ay bx by_ cx cy dx dy)) ↔ SpecP ax ay bx by_ cx cy dx dy := by
  by_cases hc : trn ax ay bx by_ cx cy = 0 ∧ trn ax ay bx by_ dx dy = 0
  · obtain ⟨g, ex, ey, x, y, hg, e1, e2, e3⟩ := prim hu hv h
    have b1 : bx = ax + g * ex := by omega
    have b2 : by_ = ay + g * ey := by omega
    have step : ∀ px py : Int, trn ax ay bx by_ px py = 0 → px = ax + ((px - ax) * x + (py - ay) * y) * ex ∧ py = ay + ((px - ax) * x + (py - ay) * y) * ey := fun px py hp => by
      unfold trn at hp
      rw [e1, e2] at hp
      have h1 : g * (ex * (py - ay)) = g * (ey * (px - ax)) := by grind
      have h2 : ex * (py - ay) = ey * (px - ax) := Int.eq_of_mul_eq_mul_left (by omega) h1
      constructor <;> grind
    obtain ⟨c1, c2⟩ := step cx cy hc.1
    obtain ⟨d1, d2⟩ := step dx dy hc.2
    generalize (cx - ax) * x + (cy - ay) * y = k at c1 c2
    generalize (dx - ax) * x + (dy - ay) * y = l at d1 d2
    have he : 0 < ex * ex + ey * ey := by
      have x0 : 0 ≤ ex * ex := by rcases Int.le_total 0 ex with h | h; exact Int.mul_nonneg h h; exact Int.mul_nonneg_of_nonpos_of_nonpos h h
      have y0 : 0 ≤ ey * ey := by rcases Int.le_total 0 ey with h | h; exact Int.mul_nonneg h h; exact Int.mul_nonneg_of_nonpos_of_nonpos h h
      rcases Int.lt_or_le 0 (ex * ex + ey * ey) with h9 | h9
      · exact h9
      · have z1 : ex = 0 := by rcases Int.mul_eq_zero.1 (show ex * ex = 0 by omega) with h | h <;> exact h
        have z2 : ey = 0 := by rcases Int.mul_eq_zero.1 (show ey * ey = 0 by omega) with h | h <;> exact h
        rw [z1, z2] at e3
        omega
    have hkl : k ≠ l := fun e => hw (by rw [c1, c2, d1, d2, e]; exact ⟨rfl, rfl⟩)
    have main := case_on ax ay ex ey g k l he hg hkl
    rw [← b1, ← b2, ← c1, ← c2, ← d1, ← d2] at main
    rw [← main]
    constructor
    · rintro (⟨_, h⟩ | ⟨h, _⟩)
      · exact h
      · exact absurd hc h
    · intro h; exact .inl ⟨hc, h⟩
  · rw [← case_off hc]
    constructor
    · rintro (⟨h, _⟩ | ⟨_, h⟩)
      · exact absurd h hc
      · exact h
    · intro h; exact .inr ⟨hc, h⟩
/-! ### Both functions tell it -/
instance (ax ay bx by_ cx cy : Int) : Decidable (Box ax ay bx by_ cx cy) := by unfold Box; infer_instance
instance (ax ay bx by_ cx cy dx dy : Int) : Decidable (SpecP ax ay bx by_ cx cy dx dy) := by unfold SpecP; infer_instance
theorem mul_small {x y : Int} (hx : -7 ≤ x ∧ x ≤ 7) (hy : -7 ≤ y ∧ y ≤ 7) : -49 ≤ x * y ∧ x * y ≤ 49 := by
  have h1 := Int.mul_nonneg (show 0 ≤ 7 - x by omega) (show 0 ≤ 7 + y by omega)
  have h2 := Int.mul_nonneg (show 0 ≤ 7 + x by omega) (show 0 ≤ 7 - y by omega)
  have h3 := Int.mul_nonneg (show 0 ≤ 7 - x by omega) (show 0 ≤ 7 - y by omega)
  have h4 := Int.mul_nonneg (show 0 ≤ 7 + x by omega) (show 0 ≤ 7 + y by omega)
  have e1 : (7 - x) * (7 + y) = 49 + 7 * y - 7 * x - x * y := by grind
  have e2 : (7 + x) * (7 - y) = 49 - 7 * y + 7 * x - x * y := by grind
  have e3 : (7 - x) * (7 - y) = 49 - 7 * y - 7 * x + x * y := by grind
  have e4 : (7 + x) * (7 + y) = 49 + 7 * y + 7 * x + x * y := by grind
  omega
/-- A coordinate. -/
def Co (x : Int) : Prop := 0 ≤ x ∧ x ≤ 7
theorem wr {x : Int} (h : -1000 ≤ x ∧ x ≤ 1000) : wrap64 x = x := wrap64_in _ (by omega)
theorem trn_wrap {ax ay bx by_ cx cy : Int} (h1 : Co ax) (h2 : Co ay) (h3 : Co bx) (h4 : Co by_) (h5 : Co cx) (h6 : Co cy) :
    wrap64 (wrap64 (wrap64 (bx - ax) * wrap64 (cy - ay)) - wrap64 (wrap64 (by_ - ay) * wrap64 (cx - ax))) = trn ax ay bx by_ cx cy := by
  unfold Co at *
  have m1 := mul_small (x := bx - ax) (y := cy - ay) (by omega) (by omega)
  have m2 := mul_small (x := by_ - ay) (y := cx - ax) (by omega) (by omega)
  rw [wr (x := bx - ax) (by omega), wr (x := cy - ay) (by omega), wr (x := by_ - ay) (by omega), wr (x := cx - ax) (by omega), wr (x := (bx - ax) * (cy - ay)) (by omega), wr (x := (by_ - ay) * (cx - ax)) (by omega), wr (by omega)]
  rfl
theorem turn_eq {ax ay bx by_ cx cy : Int} (h1 : Co ax) (h2 : Co ay) (h3 : Co bx) (h4 : Co by_) (h5 : Co cx) (h6 : Co cy) : impl_turn.f ax ay bx by_ cx cy = some (trn ax ay bx by_ cx cy) := by
  unfold impl_turn.f
  rw [trn_wrap h1 h2 h3 h4 h5 h6]
theorem sign_eq (n : Int) : impl_sign.f n = some (sgn n) := by
  unfold impl_sign.f sgn
  (repeat' split) <;> rfl
theorem l1Sign_eq (n : Int) : spec_l1Sign.f n = some (sgn n) := by
  unfold spec_l1Sign.f sgn
  (repeat' split) <;> rfl
theorem sgn_small (n : Int) : sgn n = 0 ∨ sgn n = 1 ∨ sgn n = -1 := by
  unfold sgn
  (repeat' split) <;> omega
theorem sgn_wrap (m n : Int) : wrap64 (sgn m * sgn n) = sgn m * sgn n := by
  rcases sgn_small m with h | h | h <;> rcases sgn_small n with h' | h' | h' <;> rw [h, h'] <;> exact wr (by omega)
theorem sgn_zero {n : Int} : sgn n = 0 ↔ n = 0 := by
  unfold sgn
  (repeat' split) <;> omega
theorem between_eq (ax ay bx by_ cx cy : Int) : impl_between.f ax ay bx by_ cx cy = some (decide (Box ax ay bx by_ cx cy)) := by
  have key : Box ax ay bx by_ cx cy ↔ (mn ax bx ≤ cx ∧ cx ≤ mx ax bx) ∧ mn ay by_ ≤ cy ∧ cy ≤ mx ay by_ := by
    unfold Box
    rw [mul_le_zero_iff, mul_le_zero_iff, mn_min, mx_max, mn_min, mx_max]
    omega
  unfold impl_between.f
  (repeat' split) <;> first | exact congrArg some (decide_eq_false (by rw [key]; omega)).symm | exact congrArg some (decide_eq_decide.2 (by rw [key]; omega))
theorem place_eq {px py ax ay ux uy : Int} (h1 : -7 ≤ px - ax ∧ px - ax ≤ 7) (h2 : -7 ≤ py - ay ∧ py - ay ≤ 7) (h3 : -7 ≤ ux ∧ ux ≤ 7) (h4 : -7 ≤ uy ∧ uy ≤ 7) : placeF px py ax ay ux uy = (px - ax) * ux + (py - ay) * uy := by
  have m1 := mul_small h1 h3
  have m2 := mul_small h2 h4
  unfold placeF
  rw [wr (x := px - ax) (by omega), wr (x := py - ay) (by omega), wr (x := (px - ax) * ux) (by omega), wr (x := (py - ay) * uy) (by omega), wr (by omega)]
theorem inLine_eq {ax ay bx by_ cx cy dx dy : Int} (h1 : Co ax) (h2 : Co ay) (h3 : Co bx) (h4 : Co by_) (h5 : Co cx) (h6 : Co cy) (h7 : Co dx) (h8 : Co dy) {b : Bool} (hb : b = true ↔ LineP ax ay bx by_ cx cy dx dy) :
    impl_inLine.f ax ay bx by_ cx cy dx dy = some b := by
  unfold Co at *
  unfold impl_inLine.f
  rw [wr (x := bx - ax) (by omega), wr (x := by_ - ay) (by omega)]
  rw [place_eq (px := bx) (by omega) (by omega) (by omega) (by omega), place_eq (px := cx) (by omega) (by omega) (by omega) (by omega), place_eq (px := dx) (by omega) (by omega) (by omega) (by omega)]
  congr 1
  rw [Bool.eq_iff_iff, hb]
  unfold inLineB LineP
  rw [decide_eq_true_eq]
/-- Four 'and's, or'ed, as the program's last statement asks them. -/
theorem crosses_ev {ax ay bx by_ cx cy dx dy : Int} (h1 : Co ax) (h2 : Co ay) (h3 : Co bx) (h4 : Co by_) (h5 : Co cx) (h6 : Co cy) (h7 : Co dx) (h8 : Co dy) (hu : -5 ≤ bx - ax ∧ bx - ax ≤ 5) (hv : -5 ≤ by_ - ay ∧ by_ - ay ≤ 5) (h : ¬ (bx - ax = 0 ∧ by_ - ay = 0)) (hw : ¬ (cx = dx ∧ cy = dy)) :
    Ev (fun k => impl_crosses.f k ax ay bx by_ cx cy dx dy) (decide (SpecP ax ay bx by_ cx cy dx dy)) := by
  have same := cross_same hu hv h hw
  generalize hS : decide (SpecP ax ay bx by_ cx cy dx dy) = S
  have hS2 : S = true ↔ SpecP ax ay bx by_ cx cy dx dy := by rw [← hS, decide_eq_true_eq]
  rw [← same] at hS2
  unfold impl_crosses.f
  simp only [turn_eq h1 h2 h3 h4 h5 h6, turn_eq h1 h2 h3 h4 h7 h8, sign_eq, Option.bind_some, sgn_zero]
  by_cases hc : trn ax ay bx by_ cx cy = 0 ∧ trn ax ay bx by_ dx dy = 0
  · have e2 : (sgn (trn ax ay bx by_ dx dy) == 0) = true := by rw [hc.2]; rfl
    simp only [hc.1, if_true, e2]
    refine Ev.step (fun k => by rw [impl_crosses.j0]) ?_
    have hb : S = true ↔ LineP ax ay bx by_ cx cy dx dy := by
      rw [hS2]
      constructor
      · rintro (⟨_, q⟩ | ⟨q, _⟩)
        · exact q
        · exact absurd hc q
      · intro q; exact .inl ⟨hc, q⟩
    simp only [if_true, inLine_eq h1 h2 h3 h4 h5 h6 h7 h8 hb, Option.bind_some]
    exact Ev.now _
  · have hb : S = true ↔ ProgP ax ay bx by_ cx cy dx dy := by
      rw [hS2]
      constructor
      · rintro (⟨q, _⟩ | ⟨_, q⟩)
        · exact absurd q hc
        · exact q
      · intro q; exact .inr ⟨hc, q⟩
    -- the ends that are shared
    have j2 : ∀ x71 : Bool, (¬ Shared ax ay bx by_ cx cy dx dy) → (x71 = true ↔ (sgn (trn ax ay bx by_ cx cy) * sgn (trn ax ay bx by_ dx dy) < 0 ∧ sgn (trn cx cy dx dy ax ay) * sgn (trn cx cy dx dy bx by_) < 0)) →
        Ev (fun k => impl_crosses.j2 k (sgn (trn ax ay bx by_ cx cy)) (sgn (trn ax ay bx by_ dx dy)) (sgn (trn cx cy dx dy ax ay)) (sgn (trn cx cy dx dy bx by_)) x71 ax ay bx by_ cx cy dx dy) S := fun x71 hns hx => by
      refine Ev.step (fun k => by rw [impl_crosses.j2]) ?_
      have hb2 : S = true ↔ (x71 = true ∨ (trn ax ay bx by_ cx cy = 0 ∧ Box ax ay bx by_ cx cy) ∨ (trn ax ay bx by_ dx dy = 0 ∧ Box ax ay bx by_ dx dy) ∨ (trn cx cy dx dy ax ay = 0 ∧ Box cx cy dx dy ax ay) ∨ (trn cx cy dx dy bx by_ = 0 ∧ Box cx cy dx dy bx by_)) := by
        rw [hb, hx]
        unfold ProgP
        simp only [hns, not_false_eq_true, true_and]
      clear hb hS2 same hx
      simp only [between_eq, Option.bind_some, sgn_zero, decide_eq_true_eq]
      generalize trn ax ay bx by_ cx cy = T1 at *
      generalize trn ax ay bx by_ dx dy = T2 at *
      generalize trn cx cy dx dy ax ay = T3 at *
      generalize trn cx cy dx dy bx by_ = T4 at *
      have fin : ∀ (b : Bool) {α : Type} , (S = b) → Ev (fun k : Nat => some b) S := fun b _ e => by rw [e]; exact Ev.now _
      (repeat' split) <;> (refine fin _ (α := Unit) ?_; cases S <;> simp_all)
    have j1 : ∀ x61 : Bool, (x61 = true ↔ Shared ax ay bx by_ cx cy dx dy) →
        Ev (fun k => impl_crosses.j1 k (sgn (trn ax ay bx by_ cx cy)) (sgn (trn ax ay bx by_ dx dy)) (sgn (trn cx cy dx dy ax ay)) (sgn (trn cx cy dx dy bx by_)) x61 ax ay bx by_ cx cy dx dy) S := fun x61 hx => by
      refine Ev.step (fun k => by rw [impl_crosses.j1]) ?_
      simp only [sgn_wrap]
      by_cases hx1 : x61 = true
      · have : S = false := by
          cases S with
          | false => rfl
          | true => exact absurd (hx.1 hx1) ((hb.1 rfl).1)
        simp only [hx1, if_true, this]
        exact Ev.now _
      · have hns := fun q => hx1 (hx.2 q)
        simp only [hx1, if_false]
        by_cases hn : sgn (trn ax ay bx by_ cx cy) * sgn (trn ax ay bx by_ dx dy) < 0
        · simp only [hn, if_true]
          exact j2 _ hns (by rw [decide_eq_true_eq]; exact ⟨fun q => ⟨hn, q⟩, fun q => q.2⟩)
        · simp only [hn, if_false]
          exact j2 _ hns ⟨fun q => (by cases q), fun q => absurd q.1 hn⟩
    have j0 : Ev (fun k => impl_crosses.j0 k (sgn (trn ax ay bx by_ cx cy)) (sgn (trn ax ay bx by_ dx dy)) false ax ay bx by_ cx cy dx dy) S := by
      refine Ev.step (fun k => by rw [impl_crosses.j0]) ?_
      simp only [Bool.false_eq_true, if_false, turn_eq h5 h6 h7 h8 h1 h2, turn_eq h5 h6 h7 h8 h3 h4, sign_eq, Option.bind_some, Bool.and_eq_true, beq_iff_eq]
      by_cases q1 : ax = cx ∧ ay = cy
      · simp only [q1, and_self, if_true]
        have := j1 true ⟨fun _ => .inl q1, fun _ => rfl⟩
        rw [q1.1, q1.2] at this
        exact this
      · simp only [q1, if_false]
        by_cases q2 : ax = dx ∧ ay = dy
        · simp only [q2, and_self, if_true]
          have := j1 true ⟨fun _ => .inr (.inl q2), fun _ => rfl⟩
          rw [q2.1, q2.2] at this
          exact this
        · simp only [q2, if_false]
          by_cases q3 : bx = cx ∧ by_ = cy
          · simp only [q3, and_self, if_true]
            have := j1 true ⟨fun _ => .inr (.inr (.inl q3)), fun _ => rfl⟩
            rw [q3.1, q3.2] at this
            exact this
          · simp only [q3, if_false]
            refine j1 _ ?_
            rw [Bool.and_eq_true, beq_iff_eq, beq_iff_eq]
            unfold Shared
            constructor
            · intro q; exact .inr (.inr (.inr q))
            · rintro (q | q | q | q)
              · exact absurd q q1
              · exact absurd q q2
              · exact absurd q q3
              · exact q
    by_cases q : trn ax ay bx by_ cx cy = 0
    · have e2 : (sgn (trn ax ay bx by_ dx dy) == 0) = false := by
        rw [beq_eq_false_iff_ne]
        intro e
        exact hc ⟨q, sgn_zero.1 e⟩
      simp only [q, if_true, e2]
      rw [q] at j0
      exact j0
    · simp only [q, if_false]
      exact j0
end Go.Proofs.Ytemaokhlolimhaa.H

namespace Go.Proofs.Ytemaokhlolimhaa.H
open Go.RowKit Go.IntWalk Go.Proofs.Ytemaokhlolimhaa.Q Go.Proofs.YtemaokhlolimhaaW.PrintWords Go.Proofs.YtemaokhlolimhaaW.PrintMore
set_option linter.unusedVariables false
set_option linter.unusedSimpArgs false
/-- Whether the leaps p q and r s cross. -/
def crB (W p q r s : Int) : Bool := decide (SpecP (p % W) (p / W) (q % W) (q / W) (r % W) (r / W) (s % W) (s / W))
section
variable {W H : Int} {L : List Int} {A B : Int}
theorem co_x (g : BoardM W H L) {c : Int} (h : hasB W H L c = true) : Co (c % W) := by
  have := cell_bounds g (has_range h)
  have := g.2.1
  unfold Co
  omega
theorem co_y (g : BoardM W H L) {c : Int} (h : hasB W H L c = true) : Co (c / W) := by
  have := cell_bounds g (has_range h)
  have := g.2.2.2.1
  unfold Co
  omega
theorem wide (g : BoardM W H L) : W ≠ 0 := by
  have := g.1
  omega
theorem cell_eq (g : BoardM W H L) {c d : Int} (h : hasB W H L c = true) (k : hasB W H L d = true) : (c = d) ↔ (c % W = d % W ∧ c / W = d / W) := by
  have h1 := cell_bounds g (has_range h)
  have h2 := cell_bounds g (has_range k)
  constructor
  · rintro rfl; exact ⟨rfl, rfl⟩
  · rintro ⟨e1, e2⟩
    have e3 := h1.2.2.2.2
    have e4 := h2.2.2.2.2
    rw [e1, e2] at e3
    omega
theorem div_wrap (g : BoardM W H L) {c : Int} (h : hasB W H L c = true) : wrap64 (Int.tdiv c W) = c / W := by
  have := co_y g h
  unfold Co at this
  rw [tdiv_of (has_range h).1, wr (by omega)]
theorem at_eq (g : BoardM W H L) {c : Int} (h : hasB W H L c = true) : impl_Board_at.f W H L c = some (c % W, c / W) := by
  unfold impl_Board_at.f
  rw [if_neg (wide g), div_wrap g h, tmod_of (has_range h).1]
theorem leap_small (t : Two W H L A B) {p q : Int} (h : isB W A B p q = true) : (-5 ≤ q % W - p % W ∧ q % W - p % W ≤ 5) ∧ (-5 ≤ q / W - p / W ∧ q / W - p / W ≤ 5) ∧ ¬ (q % W - p % W = 0 ∧ q / W - p / W = 0) := by
  have hl := t.2
  unfold Leap at hl
  unfold isB at h
  simp only [Bool.or_eq_true, Bool.and_eq_true, decide_eq_true_eq] at h
  omega
theorem cross_ev (t : Two W H L A B) {p q r s : Int} (hp : hasB W H L p = true) (hq : hasB W H L q = true) (hr : hasB W H L r = true) (hs : hasB W H L s = true) (h1 : isB W A B p q = true) (h2 : isB W A B r s = true) (cs : List Int) (nr : List (List Int)) :
    Ev (fun k => impl_graph_cross.f k W H L A B cs nr p q r s) (crB W p q r s) := by
  have g := t.1
  obtain ⟨l1, l2, l3⟩ := leap_small t h1
  obtain ⟨m1, m2, m3⟩ := leap_small t h2
  unfold impl_graph_cross.f
  simp only [at_eq g hp, at_eq g hq, at_eq g hr, at_eq g hs, Option.bind_some]
  have := crosses_ev (co_x g hp) (co_y g hp) (co_x g hq) (co_y g hq) (co_x g hr) (co_y g hr) (co_x g hs) (co_y g hs) l1 l2 l3 (fun e => m3 (by omega))
  refine Ev.bind this ?_
  exact Ev.now _
theorem crCross_eq (g : BoardM W H L) {p q r : Int} (hp : hasB W H L p = true) (hq : hasB W H L q = true) (hr : hasB W H L r = true) : spec_crCross.f W H L p q r = some (trn (p % W) (p / W) (q % W) (q / W) (r % W) (r / W)) := by
  unfold spec_crCross.f
  rw [if_neg (wide g), div_wrap g hp, div_wrap g hq, div_wrap g hr, tmod_of (has_range hp).1, tmod_of (has_range hq).1, tmod_of (has_range hr).1]
  rw [trn_wrap (co_x g hp) (co_y g hp) (co_x g hq) (co_y g hq) (co_x g hr) (co_y g hr)]
theorem crOn_eq (g : BoardM W H L) {p q r : Int} (hp : hasB W H L p = true) (hq : hasB W H L q = true) (hr : hasB W H L r = true) :
    spec_crOn.f W H L p q r = some (decide (trn (p % W) (p / W) (q % W) (q / W) (r % W) (r / W) = 0 ∧ Box (p % W) (p / W) (q % W) (q / W) (r % W) (r / W))) := by
  have a1 := co_x g hp
  have a2 := co_y g hp
  have a3 := co_x g hq
  have a4 := co_y g hq
  have a5 := co_x g hr
  have a6 := co_y g hr
  unfold spec_crOn.f
  rw [crCross_eq g hp hq hr, Option.bind_some]
  rw [div_wrap g hp, div_wrap g hq, div_wrap g hr, tmod_of (has_range hp).1, tmod_of (has_range hq).1, tmod_of (has_range hr).1, if_neg (wide g)]
  unfold Co at *
  have m1 := mul_small (x := p % W - r % W) (y := q % W - r % W) (by omega) (by omega)
  have m2 := mul_small (x := p / W - r / W) (y := q / W - r / W) (by omega) (by omega)
  rw [wr (x := p % W - r % W) (by omega), wr (x := q % W - r % W) (by omega), wr (x := p / W - r / W) (by omega), wr (x := q / W - r / W) (by omega), wr (x := (p % W - r % W) * (q % W - r % W)) (by omega), wr (x := (p / W - r / W) * (q / W - r / W)) (by omega)]
  unfold Box
  by_cases z : trn (p % W) (p / W) (q % W) (q / W) (r % W) (r / W) = 0
  · rw [if_pos z]
    by_cases x : (p % W - r % W) * (q % W - r % W) ≤ 0
    · rw [if_pos x]
      simp only [z, x, true_and]
    · rw [if_neg x]
      simp only [z, x, true_and, false_and, decide_false]
  · rw [if_neg z]
    simp only [z, false_and, decide_false]
theorem crDo_ev (g : BoardM W H L) {p q r s : Int} (hp : hasB W H L p = true) (hq : hasB W H L q = true) (hr : hasB W H L r = true) (hs : hasB W H L s = true) : Ev (fun k => spec_crDo.f k W H L p q r s) (crB W p q r s) := by
  generalize hS : crB W p q r s = S
  have hS2 : S = true ↔ SpecP (p % W) (p / W) (q % W) (q / W) (r % W) (r / W) (s % W) (s / W) := by rw [← hS]; unfold crB; rw [decide_eq_true_eq]
  unfold SpecP at hS2
  rw [← cell_eq g hp hr, ← cell_eq g hq hs, ← cell_eq g hp hs, ← cell_eq g hq hr, ← cell_eq g hr hp, ← cell_eq g hr hq, ← cell_eq g hs hp, ← cell_eq g hs hq] at hS2
  have o1 := crOn_eq g hp hq hr
  have o2 := crOn_eq g hp hq hs
  have o3 := crOn_eq g hr hs hp
  have o4 := crOn_eq g hr hs hq
  have c1 := crCross_eq g hp hq hr
  have c2 := crCross_eq g hp hq hs
  have c3 := crCross_eq g hr hs hp
  have c4 := crCross_eq g hr hs hq
  generalize trn (p % W) (p / W) (q % W) (q / W) (r % W) (r / W) = T1 at *
  generalize trn (p % W) (p / W) (q % W) (q / W) (s % W) (s / W) = T2 at *
  generalize trn (r % W) (r / W) (s % W) (s / W) (p % W) (p / W) = T3 at *
  generalize trn (r % W) (r / W) (s % W) (s / W) (q % W) (q / W) = T4 at *
  have e0 : wrap64 (0 + 1) = 1 := wr (by omega)
  have e1 : wrap64 (1 + 1) = 2 := wr (by omega)
  have e2 : (0 : Int) < 2 := by omega
  have e3 : (1 : Int) < 2 := by omega
  have e4 : ¬ (2 : Int) < 2 := by omega
  have e5 : (0 : Int) ≤ 0 := by omega
  have e6 : (0 : Int) ≤ 1 := by omega
  have lp : ((([p, q] : List Int).length : Nat) : Int) = 2 := rfl
  have lr : ((([r, s] : List Int).length : Nat) : Int) = 2 := rfl
  have p0 : rd [p, q] 0 = p := rfl
  have p1 : rd [p, q] 1 = q := rfl
  have r0 : rd [r, s] 0 = r := rfl
  have r1 : rd [r, s] 1 = s := rfl
  have yes : ∀ b : Bool, S = b → Ev (fun k : Nat => some b) S := fun b e => by rw [e]; exact Ev.now _
  -- the last statement
  have l12 : ¬ ((p = r ∧ q = s) ∨ (p = s ∧ q = r)) → ¬ ((T1 = 0 ∧ Box (p % W) (p / W) (q % W) (q / W) (r % W) (r / W)) ∧ ¬ r = p ∧ ¬ r = q) → ¬ ((T2 = 0 ∧ Box (p % W) (p / W) (q % W) (q / W) (s % W) (s / W)) ∧ ¬ s = p ∧ ¬ s = q) →
      ¬ ((T3 = 0 ∧ Box (r % W) (r / W) (s % W) (s / W) (p % W) (p / W)) ∧ ¬ p = r ∧ ¬ p = s) → ¬ ((T4 = 0 ∧ Box (r % W) (r / W) (s % W) (s / W) (q % W) (q / W)) ∧ ¬ q = r ∧ ¬ q = s) →
      Ev (fun k => spec_crDo.l1 k p q r s [p, q] 2 2 W H L) S := fun n0 n1 n2 n3 n4 => by
    refine Ev.step (fun k => by rw [spec_crDo.l1]) ?_
    simp only [e4, if_false, c1, c2, c3, c4, l1Sign_eq, Option.bind_some, sgn_wrap]
    have hfin : S = true ↔ (sgn T1 * sgn T2 < 0 ∧ sgn T3 * sgn T4 < 0) := by
      rw [hS2]
      constructor
      · rintro (h | h | h | h | h | h | h)
        · exact absurd (.inl h) n0
        · exact absurd (.inr h) n0
        · exact absurd h n1
        · exact absurd h n2
        · exact absurd h n3
        · exact absurd h n4
        · exact h
      · intro h; exact .inr (.inr (.inr (.inr (.inr (.inr h)))))
    by_cases h : sgn T1 * sgn T2 < 0
    · simp only [h, if_true]
      refine yes _ ?_
      rw [Bool.eq_iff_iff, hfin, decide_eq_true_eq]
      exact ⟨fun q => q.2, fun q => ⟨h, q⟩⟩
    · simp only [h, if_false]
      refine yes _ ?_
      cases S with
      | false => rfl
      | true => exact absurd (hfin.1 rfl).1 h
  have l11 : ¬ ((p = r ∧ q = s) ∨ (p = s ∧ q = r)) → ¬ ((T1 = 0 ∧ Box (p % W) (p / W) (q % W) (q / W) (r % W) (r / W)) ∧ ¬ r = p ∧ ¬ r = q) → ¬ ((T2 = 0 ∧ Box (p % W) (p / W) (q % W) (q / W) (s % W) (s / W)) ∧ ¬ s = p ∧ ¬ s = q) →
      ¬ ((T3 = 0 ∧ Box (r % W) (r / W) (s % W) (s / W) (p % W) (p / W)) ∧ ¬ p = r ∧ ¬ p = s) →
      Ev (fun k => spec_crDo.l1 k p q r s [p, q] 2 1 W H L) S := fun n0 n1 n2 n3 => by
    refine Ev.step (fun k => by rw [spec_crDo.l1]) ?_
    simp only [e3, e6, lp, if_true, p1, o4, Option.bind_some, decide_eq_true_eq, e1]
    by_cases h : T4 = 0 ∧ Box (r % W) (r / W) (s % W) (s / W) (q % W) (q / W)
    · by_cases h1 : q = r
      · simp only [if_pos h, if_pos h1]
        exact l12 n0 n1 n2 n3 (fun z => z.2.1 h1)
      · by_cases h2 : q = s
        · simp only [if_pos h, if_neg h1, if_pos h2]
          exact l12 n0 n1 n2 n3 (fun z => z.2.2 h2)
        · simp only [if_pos h, if_neg h1, if_neg h2]
          exact yes _ (hS2.2 (.inr (.inr (.inr (.inr (.inr (.inl ⟨h, h1, h2⟩)))))))
    · simp only [if_neg h]
      exact l12 n0 n1 n2 n3 (fun z => h z.1)
  have l10 : ¬ ((p = r ∧ q = s) ∨ (p = s ∧ q = r)) → ¬ ((T1 = 0 ∧ Box (p % W) (p / W) (q % W) (q / W) (r % W) (r / W)) ∧ ¬ r = p ∧ ¬ r = q) → ¬ ((T2 = 0 ∧ Box (p % W) (p / W) (q % W) (q / W) (s % W) (s / W)) ∧ ¬ s = p ∧ ¬ s = q) →
      Ev (fun k => spec_crDo.l1 k p q r s [p, q] 2 0 W H L) S := fun n0 n1 n2 => by
    refine Ev.step (fun k => by rw [spec_crDo.l1]) ?_
    simp only [e2, e5, lp, if_true, p0, o3, Option.bind_some, decide_eq_true_eq, e0]
    by_cases h : T3 = 0 ∧ Box (r % W) (r / W) (s % W) (s / W) (p % W) (p / W)
    · by_cases h1 : p = r
      · simp only [if_pos h, if_pos h1]
        exact l11 n0 n1 n2 (fun z => z.2.1 h1)
      · by_cases h2 : p = s
        · simp only [if_pos h, if_neg h1, if_pos h2]
          exact l11 n0 n1 n2 (fun z => z.2.2 h2)
        · simp only [if_pos h, if_neg h1, if_neg h2]
          exact yes _ (hS2.2 (.inr (.inr (.inr (.inr (.inl ⟨h, h1, h2⟩))))))
    · simp only [if_neg h]
      exact l11 n0 n1 n2 (fun z => h z.1)
  have l02 : ¬ ((p = r ∧ q = s) ∨ (p = s ∧ q = r)) → ¬ ((T1 = 0 ∧ Box (p % W) (p / W) (q % W) (q / W) (r % W) (r / W)) ∧ ¬ r = p ∧ ¬ r = q) → ¬ ((T2 = 0 ∧ Box (p % W) (p / W) (q % W) (q / W) (s % W) (s / W)) ∧ ¬ s = p ∧ ¬ s = q) →
      Ev (fun k => spec_crDo.l0 k p q r s [r, s] 2 2 W H L) S := fun n0 n1 n2 => by
    refine Ev.step (fun k => by rw [spec_crDo.l0]) ?_
    simp only [e4, if_false, Option.bind_some, lp]
    exact l10 n0 n1 n2
  have l01 : ¬ ((p = r ∧ q = s) ∨ (p = s ∧ q = r)) → ¬ ((T1 = 0 ∧ Box (p % W) (p / W) (q % W) (q / W) (r % W) (r / W)) ∧ ¬ r = p ∧ ¬ r = q) →
      Ev (fun k => spec_crDo.l0 k p q r s [r, s] 2 1 W H L) S := fun n0 n1 => by
    refine Ev.step (fun k => by rw [spec_crDo.l0]) ?_
    simp only [e3, e6, lr, if_true, r1, o2, Option.bind_some, decide_eq_true_eq, e1]
    by_cases h : T2 = 0 ∧ Box (p % W) (p / W) (q % W) (q / W) (s % W) (s / W)
    · by_cases h1 : s = p
      · simp only [if_pos h, if_pos h1]
        exact l02 n0 n1 (fun z => z.2.1 h1)
      · by_cases h2 : s = q
        · simp only [if_pos h, if_neg h1, if_pos h2]
          exact l02 n0 n1 (fun z => z.2.2 h2)
        · simp only [if_pos h, if_neg h1, if_neg h2]
          exact yes _ (hS2.2 (.inr (.inr (.inr (.inl ⟨h, h1, h2⟩)))))
    · simp only [if_neg h]
      exact l02 n0 n1 (fun z => h z.1)
  have l00 : ¬ ((p = r ∧ q = s) ∨ (p = s ∧ q = r)) → Ev (fun k => spec_crDo.l0 k p q r s [r, s] 2 0 W H L) S := fun n0 => by
    refine Ev.step (fun k => by rw [spec_crDo.l0]) ?_
    simp only [e2, e5, lr, if_true, r0, o1, Option.bind_some, decide_eq_true_eq, e0]
    by_cases h : T1 = 0 ∧ Box (p % W) (p / W) (q % W) (q / W) (r % W) (r / W)
    · by_cases h1 : r = p
      · simp only [if_pos h, if_pos h1]
        exact l01 n0 (fun z => z.2.1 h1)
      · by_cases h2 : r = q
        · simp only [if_pos h, if_neg h1, if_pos h2]
          exact l01 n0 (fun z => z.2.2 h2)
        · simp only [if_pos h, if_neg h1, if_neg h2]
          exact yes _ (hS2.2 (.inr (.inr (.inl ⟨h, h1, h2⟩))))
    · simp only [if_neg h]
      exact l01 n0 (fun z => h z.1)
  have j0 : ∀ b : Bool, (b = true ↔ ((p = r ∧ q = s) ∨ (p = s ∧ q = r))) → Ev (fun k => spec_crDo.j0 k p q r s b W H L) S := fun b hb => by
    refine Ev.step (fun k => by rw [spec_crDo.j0]) ?_
    by_cases h : b = true
    · simp only [if_pos h]
      refine yes _ (hS2.2 ?_)
      rcases hb.1 h with z | z
      · exact .inl z
      · exact .inr (.inl z)
    · simp only [if_neg h]
      simp only [Option.bind_some, lr]
      exact l00 (fun z => h (hb.2 z))
  unfold spec_crDo.f
  by_cases h1 : p = r
  · by_cases h2 : q = s
    · simp only [h1, h2, if_true]
      have := j0 true ⟨fun _ => .inl ⟨h1, h2⟩, fun _ => rfl⟩
      rw [h1, h2] at this
      exact this
    · by_cases h3 : p = s
      · simp only [if_pos h1, if_neg h2, if_pos h3]
        refine j0 _ ?_
        rw [beq_iff_eq]
        exact ⟨fun z => .inr ⟨h3, z⟩, fun z => z.elim (fun z => absurd z.2 h2) (fun z => z.2)⟩
      · simp only [if_pos h1, if_neg h2, if_neg h3]
        exact j0 _ ⟨fun z => (by cases z), fun z => z.elim (fun z => absurd z.2 h2) (fun z => absurd z.1 h3)⟩
  · by_cases h3 : p = s
    · simp only [if_neg h1, if_pos h3]
      refine j0 _ ?_
      rw [beq_iff_eq]
      exact ⟨fun z => .inr ⟨h3, z⟩, fun z => z.elim (fun z => absurd z.1 h1) (fun z => z.2)⟩
    · simp only [if_neg h1, if_neg h3]
      exact j0 _ ⟨fun z => (by cases z), fun z => z.elim (fun z => absurd z.1 h1) (fun z => absurd z.1 h3)⟩
end
end Go.Proofs.Ytemaokhlolimhaa.H

namespace Go.Proofs.Ytemaokhlolimhaa.H
open Go.RowKit Go.IntWalk Go.Proofs.Ytemaokhlolimhaa.Q Go.Proofs.YtemaokhlolimhaaW.PrintWords Go.Proofs.YtemaokhlolimhaaW.PrintMore
set_option linter.unusedVariables false
set_option linter.unusedSimpArgs false
def pathR (W H : Int) (L : List Int) (A B : Int) : Int → List Int → Bool
  | _, [] => true
  | y, x :: r => hasB W H L x && isB W A B y x && pathR W H L A B x r
def pathB (W H : Int) (L : List Int) (A B : Int) : List Int → Bool
  | [] => false
  | x :: r => decide (r.length ≤ 63) && hasB W H L x && pathR W H L A B x r
theorem pathR_has {W H : Int} {L : List Int} {A B : Int} (r : List Int) : ∀ y, pathR W H L A B y r = true → ∀ x ∈ r, hasB W H L x = true := by
  induction r with
  | nil => intro y _ x hx; cases hx
  | cons z r ih =>
    intro y h x hx
    simp only [pathR, Bool.and_eq_true] at h
    rcases List.mem_cons.1 hx with rfl | hx
    · exact h.1.1
    · exact ih z h.2 x hx
theorem pathB_has {W H : Int} {L : List Int} {A B : Int} {s : List Int} (h : pathB W H L A B s = true) : 1 ≤ s.length ∧ s.length ≤ 64 ∧ ∀ x ∈ s, hasB W H L x = true := by
  cases s with
  | nil => simp [pathB] at h
  | cons x r =>
    simp only [pathB, Bool.and_eq_true, decide_eq_true_eq] at h
    refine ⟨by simp, by simp; omega, ?_⟩
    intro z hz
    rcases List.mem_cons.1 hz with rfl | hz
    · exact h.1.2
    · exact pathR_has r x h.2 z hz
theorem boPath_loop {W H : Int} {L : List Int} (g : BoardM W H L) (hl : L.length ≤ 1048576) (A B : Int) (rest q : List Int) (y : Int) (hy : hasB W H L y = true) (hp : (q ++ y :: rest).length ≤ 64) :
    Ev (fun k => spec_boPath.l0 k (q ++ y :: rest) (q ++ y :: rest) ((q ++ y :: rest).length : Int) ((q.length + 1 : Nat) : Int) W H L A B) (pathR W H L A B y rest) := by
  induction rest generalizing q y with
  | nil =>
    refine Ev.step (fun k => by rw [spec_boPath.l0]) ?_
    have h1 : ¬ (((q.length + 1 : Nat) : Int) < ((q ++ [y]).length : Int)) := by simp
    simp only [h1, if_false, pathR]
    exact Ev.now _
  | cons x r ih =>
    refine Ev.step (fun k => by rw [spec_boPath.l0]) ?_
    have hq : q.length + 1 ≤ 63 := by simp at hp; omega
    have h1 : (((q.length + 1 : Nat) : Int) < ((q ++ y :: x :: r).length : Int)) := by simp; omega
    have h2 : (0 : Int) ≤ ((q.length + 1 : Nat) : Int) := by omega
    have h3 : ((q.length + 1 : Nat) : Int) > 0 := by omega
    have h4 : wrap64 (((q.length + 1 : Nat) : Int) - 1) = (q.length : Int) := by rw [wrap64_in _ (by omega)]; omega
    have h5 : (0 : Int) ≤ (q.length : Int) := by omega
    have e : q ++ y :: x :: r = (q ++ [y]) ++ x :: r := by simp
    have e2 : rd (q ++ y :: x :: r) ((q.length + 1 : Nat) : Int) = x := by
      have := rd_mid (q ++ [y]) x r
      rw [e]; simpa using this
    simp only [h1, h2, h3, h4, h5, e2, if_true, lt_mid q y (x :: r), rd_mid q y (x :: r), w_succ (show q.length + 1 ≤ 4611686018427387904 by omega), pathR]
    refine Ev.bind (boHas_ev g x hl) ?_
    rcases Bool.eq_false_or_eq_true (hasB W H L x) with hx | hx
    · simp only [hx, if_true, boIs_eq g A B y x (has_range hy) (has_range hx), Option.bind_some, Bool.true_and]
      rcases Bool.eq_false_or_eq_true (isB W A B y x) with hi | hi
      · simp only [hi, if_true, Bool.true_and]
        have := ih (q ++ [y]) x hx (by simpa using hp)
        simpa using this
      · simp only [hi, Bool.false_eq_true, if_false, Bool.false_and]
        exact Ev.now _
    · simp only [hx, Bool.false_eq_true, if_false, Bool.false_and]
      exact Ev.now _
theorem boPath_ev {W H : Int} {L : List Int} (g : BoardM W H L) (hl : L.length ≤ 1048576) (A B : Int) (s : List Int) : Ev (fun k => spec_boPath.f k W H L A B s) (pathB W H L A B s) := by
  simp only [spec_boPath.f, l1In_eq, Option.bind_some]
  cases s with
  | nil =>
    have : (decide ((1 : Int) ≤ (([] : List Int).length : Int)) && decide ((([] : List Int).length : Int) ≤ 64)) = false := by simp
    simp only [this, Bool.false_eq_true, if_false, pathB]
    exact Ev.now _
  | cons x r =>
    by_cases h : r.length ≤ 63
    · have h1 : (decide ((1 : Int) ≤ ((x :: r).length : Int)) && decide (((x :: r).length : Int) ≤ 64)) = true := by simp; omega
      simp only [h1, if_true, pathB, h, decide_true, Bool.true_and]
      refine Ev.step (fun k => by rw [spec_boPath.l0]) ?_
      have h2 : (0 : Int) < ((x :: r).length : Int) := by simp only [List.length_cons]; omega
      have h3 : (0 : Int) ≤ 0 := by omega
      have h4 : ¬ ((0 : Int) > 0) := by omega
      have e : rd (x :: r) 0 = x := rfl
      have e1 : wrap64 (0 + 1) = 1 := wrap64_in _ (by omega)
      simp only [h2, h3, h4, e, e1, if_true, if_false]
      refine Ev.bind (boHas_ev g x hl) ?_
      rcases Bool.eq_false_or_eq_true (hasB W H L x) with hx | hx
      · simp only [hx, if_true, Bool.true_and]
        have := boPath_loop g hl A B r [] x hx (by simp; omega)
        simpa using this
      · simp only [hx, Bool.false_eq_true, if_false, Bool.false_and]
        exact Ev.now _
    · have h1 : (decide ((1 : Int) ≤ ((x :: r).length : Int)) && decide (((x :: r).length : Int) ≤ 64)) = false := by simp; omega
      simp only [h1, Bool.false_eq_true, if_false, pathB, h, decide_false, Bool.false_and]
      exact Ev.now _
theorem isPath_loop {W H : Int} {L : List Int} (g : BoardM W H L) (hl : L.length ≤ 1048576) (A B : Int) (rest q : List Int) (y : Int) (hy : hasB W H L y = true) (hp : (q ++ y :: rest).length ≤ 64) :
    Ev (fun k => impl_graph_isPath.l0 k (q ++ y :: rest) (q ++ y :: rest) ((q ++ y :: rest).length : Int) ((q.length + 1 : Nat) : Int) W H L A B (cellsM W H L) (nearM W H L A B)) (pathR W H L A B y rest) := by
  induction rest generalizing q y with
  | nil =>
    refine Ev.step (fun k => by rw [impl_graph_isPath.l0]) ?_
    have h1 : ¬ (((q.length + 1 : Nat) : Int) < ((q ++ [y]).length : Int)) := by simp
    simp only [h1, if_false, pathR]
    exact Ev.now _
  | cons x r ih =>
    refine Ev.step (fun k => by rw [impl_graph_isPath.l0]) ?_
    have hq : q.length + 1 ≤ 63 := by simp at hp; omega
    have h1 : (((q.length + 1 : Nat) : Int) < ((q ++ y :: x :: r).length : Int)) := by simp; omega
    have h2 : (0 : Int) ≤ ((q.length + 1 : Nat) : Int) := by omega
    have h3 : ((q.length + 1 : Nat) : Int) > 0 := by omega
    have h4 : wrap64 (((q.length + 1 : Nat) : Int) - 1) = (q.length : Int) := by rw [wrap64_in _ (by omega)]; omega
    have h5 : (0 : Int) ≤ (q.length : Int) := by omega
    have e : q ++ y :: x :: r = (q ++ [y]) ++ x :: r := by simp
    have e2 : rd (q ++ y :: x :: r) ((q.length + 1 : Nat) : Int) = x := by
      have := rd_mid (q ++ [y]) x r
      rw [e]; simpa using this
    simp only [h1, h2, h3, h4, h5, e2, if_true, lt_mid q y (x :: r), rd_mid q y (x :: r), w_succ (show q.length + 1 ≤ 4611686018427387904 by omega), pathR]
    refine Ev.bind (has_ev g x hl) ?_
    rcases Bool.eq_false_or_eq_true (hasB W H L x) with hx | hx
    · simp only [hx, if_true, Bool.true_and]
      refine Ev.bind (leaps_ev g y x hy hx) ?_
      rcases Bool.eq_false_or_eq_true (isB W A B y x) with hi | hi
      · simp only [hi, if_true, Bool.true_and]
        have := ih (q ++ [y]) x hx (by simpa using hp)
        simpa using this
      · simp only [hi, Bool.false_eq_true, if_false, Bool.false_and]
        exact Ev.now _
    · simp only [hx, Bool.false_eq_true, if_false, Bool.false_and]
      exact Ev.now _
theorem isPath_no {W H : Int} {L : List Int} {A B : Int} {s : List Int} {cs : List Int} {nr : List (List Int)} : Ev (fun k => impl_graph_isPath.j0 k s true W H L A B cs nr) false := by
  refine Ev.step (fun k => by rw [impl_graph_isPath.j0]) ?_
  simp only [if_true]
  exact Ev.now _
theorem isPath_ev {W H : Int} {L : List Int} (g : BoardM W H L) (hl : L.length ≤ 1048576) (A B : Int) (s : List Int) : Ev (fun k => impl_graph_isPath.f k W H L A B (cellsM W H L) (nearM W H L A B) s) (pathB W H L A B s) := by
  unfold impl_graph_isPath.f
  cases s with
  | nil =>
    have : ((([] : List Int).length : Int) < 1) := by simp
    simp only [this, if_true, pathB]
    exact isPath_no
  | cons x r =>
    have h0 : ¬ (((x :: r).length : Int) < 1) := by simp; omega
    simp only [h0, if_false]
    by_cases h : r.length ≤ 63
    · have h1 : decide (((x :: r).length : Int) > 64) = false := by simp; omega
      simp only [h1, pathB, h, decide_true, Bool.true_and]
      refine Ev.step (fun k => by rw [impl_graph_isPath.j0]) ?_
      simp only [Bool.false_eq_true, if_false]
      refine Ev.step (fun k => by rw [impl_graph_isPath.l0]) ?_
      have h2 : (0 : Int) < ((x :: r).length : Int) := by simp only [List.length_cons]; omega
      have h3 : (0 : Int) ≤ 0 := by omega
      have h4 : ¬ ((0 : Int) > 0) := by omega
      have e : rd (x :: r) 0 = x := rfl
      have e1 : wrap64 (0 + 1) = 1 := wrap64_in _ (by omega)
      simp only [h2, h3, h4, e, e1, if_true, if_false]
      refine Ev.bind (has_ev g x hl) ?_
      rcases Bool.eq_false_or_eq_true (hasB W H L x) with hx | hx
      · simp only [hx, if_true, Bool.true_and]
        have := isPath_loop g hl A B r [] x hx (by simp; omega)
        simpa using this
      · simp only [hx, Bool.false_eq_true, if_false, Bool.false_and]
        exact Ev.now _
    · have h1 : decide (((x :: r).length : Int) > 64) = true := by simp; omega
      simp only [h1, pathB, h, decide_false, Bool.false_and]
      exact isPath_no
end Go.Proofs.Ytemaokhlolimhaa.H

namespace Go.Proofs.Ytemaokhlolimhaa.Pure
open Go.RowKit Go.IntWalk Go.Proofs.Ytemaokhlolimhaa.Q Go.Proofs.Ytemaokhlolimhaa.H Go.Proofs.YtemaokhlolimhaaW.PrintWords Go.Proofs.YtemaokhlolimhaaW.PrintMore
set_option linter.unusedVariables false
set_option linter.unusedSimpArgs false
/-- One more, or not, as the program counts. -/
def cIn (W : Int) (s : List Int) (i : Nat) : Nat → Nat → Int → Int
  | 0, _, c => c
  | n + 1, j, c => cIn W s i n (j + 1) (if crB W (rd s ((i - 1 : Nat) : Int)) (rd s (i : Int)) (rd s ((j - 1 : Nat) : Int)) (rd s (j : Int)) = true then wrap64 (c + 1) else c)
def cOut (W : Int) (s : List Int) : Nat → Nat → Int → Int
  | 0, _, c => c
  | n + 1, i, c => cOut W s n (i + 1) (cIn W s i (i - 1) 1 c)
section
variable {W H : Int} {L : List Int} {A B : Int}
/-- A path: its cells are the board's, each leap is one. -/
def PathOk (W H : Int) (L : List Int) (A B : Int) (s : List Int) : Prop := s.length ≤ 64 ∧ (∀ i : Nat, i < s.length → hasB W H L (rd s (i : Int)) = true) ∧ ∀ i : Nat, 1 ≤ i → i < s.length → isB W A B (rd s ((i - 1 : Nat) : Int)) (rd s (i : Int)) = true
theorem pathR_leaps (r : List Int) : ∀ y, pathR W H L A B y r = true → ∀ i : Nat, i < r.length → isB W A B (rd (y :: r) (i : Int)) (rd (y :: r) ((i + 1 : Nat) : Int)) = true := by
  induction r with
  | nil => intro y _ i hi; cases hi
  | cons z r ih =>
    intro y h i hi
    simp only [pathR, Bool.and_eq_true] at h
    cases i with
    | zero => exact h.1.2
    | succ i =>
      have := ih z h.2 i (by simpa using hi)
      exact this
theorem path_ok {s : List Int} (h : pathB W H L A B s = true) : PathOk W H L A B s := by
  obtain ⟨h1, h2, h3⟩ := pathB_has h
  refine ⟨h2, fun i hi => ?_, fun i hi1 hi => ?_⟩
  · rw [rd_nat s i hi]
    exact h3 _ (List.getElem_mem _)
  · cases s with
    | nil => cases hi
    | cons x r =>
      simp only [pathB, Bool.and_eq_true] at h
      have := pathR_leaps r x h.2 (i - 1) (by simp at hi; omega)
      rw [show i - 1 + 1 = i by omega] at this
      exact this
theorem spec_l1 (g : BoardM W H L) {s : List Int} (ok : PathOk W H L A B s) (R : Int) (i : Nat) (hi : i < s.length) : ∀ (n j : Nat) (c : Int), n + j = i → 1 ≤ j →
    Ev (fun k => spec_crCount.l0 k s (cIn W s i n j c) ((i + 1 : Nat) : Int) W H L) R → Ev (fun k => spec_crCount.l1 k s c (i : Int) (j : Int) W H L) R := by
  obtain ⟨o1, o2, o3⟩ := ok
  intro n
  induction n with
  | zero =>
    intro j c hj h1 hR
    refine Ev.step (fun k => by rw [spec_crCount.l1]) ?_
    have e : ¬ ((j : Int) < (i : Int)) := by omega
    simp only [e, if_false, w_succ (show i ≤ 4611686018427387904 by omega)]
    exact hR
  | succ n ih =>
    intro j c hj h1 hR
    refine Ev.step (fun k => by rw [spec_crCount.l1]) ?_
    have e : (j : Int) < (i : Int) := by omega
    have e1 : wrap64 ((i : Int) - 1) = ((i - 1 : Nat) : Int) := by rw [wrap64_in _ (by omega)]; omega
    have e2 : wrap64 ((j : Int) - 1) = ((j - 1 : Nat) : Int) := by rw [wrap64_in _ (by omega)]; omega
    have e3 : (0 : Int) ≤ ((i - 1 : Nat) : Int) := by omega
    have e4 : ((i - 1 : Nat) : Int) < (s.length : Int) := by omega
    have e5 : (0 : Int) ≤ (i : Int) := by omega
    have e6 : (i : Int) < (s.length : Int) := by omega
    have e7 : (0 : Int) ≤ ((j - 1 : Nat) : Int) := by omega
    have e8 : ((j - 1 : Nat) : Int) < (s.length : Int) := by omega
    have e9 : (0 : Int) ≤ (j : Int) := by omega
    have e10 : (j : Int) < (s.length : Int) := by omega
    simp only [e, e1, e2, e3, e4, e5, e6, e7, e8, e9, e10, if_true, w_succ (show j ≤ 4611686018427387904 by omega)]
    refine Ev.bind (crDo_ev g (o2 (i - 1) (by omega)) (o2 i (by omega)) (o2 (j - 1) (by omega)) (o2 j (by omega))) ?_
    rw [cIn] at hR
    by_cases h : crB W (rd s ((i - 1 : Nat) : Int)) (rd s (i : Int)) (rd s ((j - 1 : Nat) : Int)) (rd s (j : Int)) = true
    · simp only [if_pos h] at hR ⊢
      exact ih (j + 1) _ (by omega) (by omega) hR
    · simp only [if_neg h] at hR ⊢
      exact ih (j + 1) _ (by omega) (by omega) hR
theorem spec_l0 (g : BoardM W H L) {s : List Int} (ok : PathOk W H L A B s) : ∀ (n i : Nat) (c : Int), n + i = s.length → 1 ≤ i → Ev (fun k => spec_crCount.l0 k s c (i : Int) W H L) (cOut W s n i c) := by
  intro n
  induction n with
  | zero =>
    intro i c hi h1
    refine Ev.step (fun k => by rw [spec_crCount.l0]) ?_
    have e : ¬ ((i : Int) < (s.length : Int)) := by omega
    simp only [e, if_false]
    exact Ev.now _
  | succ n ih =>
    intro i c hi h1
    refine Ev.step (fun k => by rw [spec_crCount.l0]) ?_
    have e : (i : Int) < (s.length : Int) := by omega
    simp only [e, if_true]
    rw [cOut]
    exact spec_l1 g ok _ i (by omega) (i - 1) 1 c (by omega) (by omega) (ih (i + 1) _ (by omega) (by omega))
theorem impl_l1 (t : Two W H L A B) {s : List Int} (ok : PathOk W H L A B s) (cs : List Int) (nr : List (List Int)) (R : Int) (i : Nat) (hi : i < s.length) : ∀ (n j : Nat) (c : Int), n + j = i → 1 ≤ j →
    Ev (fun k => impl_graph_crossings.l0 k s (cIn W s i n j c) ((i + 1 : Nat) : Int) W H L A B cs nr) R → Ev (fun k => impl_graph_crossings.l1 k s c (i : Int) (j : Int) W H L A B cs nr) R := by
  obtain ⟨o1, o2, o3⟩ := ok
  intro n
  induction n with
  | zero =>
    intro j c hj h1 hR
    refine Ev.step (fun k => by rw [impl_graph_crossings.l1]) ?_
    have e : ¬ ((j : Int) < (i : Int)) := by omega
    simp only [e, if_false, w_succ (show i ≤ 4611686018427387904 by omega)]
    exact hR
  | succ n ih =>
    intro j c hj h1 hR
    refine Ev.step (fun k => by rw [impl_graph_crossings.l1]) ?_
    have e : (j : Int) < (i : Int) := by omega
    have e1 : wrap64 ((i : Int) - 1) = ((i - 1 : Nat) : Int) := by rw [wrap64_in _ (by omega)]; omega
    have e2 : wrap64 ((j : Int) - 1) = ((j - 1 : Nat) : Int) := by rw [wrap64_in _ (by omega)]; omega
    have e3 : (0 : Int) ≤ ((i - 1 : Nat) : Int) := by omega
    have e4 : ((i - 1 : Nat) : Int) < (s.length : Int) := by omega
    have e5 : (0 : Int) ≤ (i : Int) := by omega
    have e6 : (i : Int) < (s.length : Int) := by omega
    have e7 : (0 : Int) ≤ ((j - 1 : Nat) : Int) := by omega
    have e8 : ((j - 1 : Nat) : Int) < (s.length : Int) := by omega
    have e9 : (0 : Int) ≤ (j : Int) := by omega
    have e10 : (j : Int) < (s.length : Int) := by omega
    simp only [e, e1, e2, e3, e4, e5, e6, e7, e8, e9, e10, if_true, w_succ (show j ≤ 4611686018427387904 by omega)]
    refine Ev.bind (cross_ev t (o2 (i - 1) (by omega)) (o2 i (by omega)) (o2 (j - 1) (by omega)) (o2 j (by omega)) (o3 i (by omega) (by omega)) (o3 j (by omega) (by omega)) cs nr) ?_
    rw [cIn] at hR
    by_cases h : crB W (rd s ((i - 1 : Nat) : Int)) (rd s (i : Int)) (rd s ((j - 1 : Nat) : Int)) (rd s (j : Int)) = true
    · simp only [if_pos h] at hR ⊢
      exact ih (j + 1) _ (by omega) (by omega) hR
    · simp only [if_neg h] at hR ⊢
      exact ih (j + 1) _ (by omega) (by omega) hR
theorem impl_l0 (t : Two W H L A B) {s : List Int} (ok : PathOk W H L A B s) (cs : List Int) (nr : List (List Int)) : ∀ (n i : Nat) (c : Int), n + i = s.length → 1 ≤ i → Ev (fun k => impl_graph_crossings.l0 k s c (i : Int) W H L A B cs nr) (cOut W s n i c) := by
  intro n
  induction n with
  | zero =>
    intro i c hi h1
    refine Ev.step (fun k => by rw [impl_graph_crossings.l0]) ?_
    have e : ¬ ((i : Int) < (s.length : Int)) := by omega
    simp only [e, if_false]
    exact Ev.now _
  | succ n ih =>
    intro i c hi h1
    refine Ev.step (fun k => by rw [impl_graph_crossings.l0]) ?_
    have e : (i : Int) < (s.length : Int) := by omega
    simp only [e, if_true]
    rw [cOut]
    exact impl_l1 t ok cs nr _ i (by omega) (i - 1) 1 c (by omega) (by omega) (ih (i + 1) _ (by omega) (by omega))
end
theorem countCrossings_both (W H : Int) (L : List Int) (A B : Int) (s : List Int) (hl : L.length ≤ 1048576) (hs : s.length ≤ 1048576) : ∃ (r : Int) (b : Bool), Ev (fun k => spec_CountCrossings.f k W H L A B s) (r, b) ∧ Ev (fun k => impl_CountCrossings.f k W H L A B s) (r, b) := by
  by_cases t : Two W H L A B
  · have g := t.1
    have h1 := boPath_ev g hl A B s
    have h2 := isPath_ev g hl A B s
    cases hx : pathB W H L A B s with
    | true =>
      rw [hx] at h1 h2
      have ok := path_ok hx
      have hw := pathB_has hx
      refine ⟨cOut W s (s.length - 1) 1 0, true, ?_, ?_⟩
      · unfold spec_CountCrossings.f spec_crPath.f
        refine Ev.bind (a := true) (Ev.bind (two_yes t hl) ?_) ?_
        · simp only [if_true]
          refine Ev.bind h1 ?_
          exact Ev.now _
        · simp only [if_true]
          refine Ev.bind (a := cOut W s (s.length - 1) 1 0) ?_ (Ev.now _)
          unfold spec_crCount.f
          exact spec_l0 g ok (s.length - 1) 1 0 (by omega) (by omega)
      · unfold impl_CountCrossings.f
        refine Ev.bind (graphOf_two t hl) ?_
        simp only [if_true]
        refine Ev.bind h2 ?_
        simp only [if_true]
        refine Ev.bind (a := cOut W s (s.length - 1) 1 0) ?_ (Ev.now _)
        unfold impl_graph_crossings.f
        exact impl_l0 t ok _ _ (s.length - 1) 1 0 (by omega) (by omega)
    | false =>
      rw [hx] at h1 h2
      refine ⟨0, false, ?_, ?_⟩
      · unfold spec_CountCrossings.f spec_crPath.f
        refine Ev.bind (a := false) (Ev.bind (two_yes t hl) ?_) ?_
        · simp only [if_true]
          refine Ev.bind h1 ?_
          exact Ev.now _
        · simp only [Bool.false_eq_true, if_false]
          exact Ev.now _
      · unfold impl_CountCrossings.f
        refine Ev.bind (graphOf_two t hl) ?_
        simp only [if_true]
        refine Ev.bind h2 ?_
        simp only [Bool.false_eq_true, if_false]
        exact Ev.now _
  · refine ⟨0, false, ?_, ?_⟩
    · unfold spec_CountCrossings.f spec_crPath.f
      refine Ev.bind (a := false) (Ev.bind (two_no t hl) ?_) ?_
      · simp only [Bool.false_eq_true, if_false]
        exact Ev.now _
      · simp only [Bool.false_eq_true, if_false]
        exact Ev.now _
    · unfold impl_CountCrossings.f
      refine Ev.bind (graphOf_not t hl) ?_
      simp only [Bool.false_eq_true, if_false]
      exact Ev.now _
theorem FnExactCountCrossings : FnExactCountCrossingsSaid := by
  intro a0_0 a0_1 l0_2 a1_0 a1_1 l2 _ _ hlen_l0_2 _ _ _ hlen_l2 _
  by_cases hb_l2 : (l2.length : Int) > 1048576
  · refine ⟨0, ?_⟩
    simp [laws_FnExactCountCrossings.f, hb_l2]
  have hs_l2 : l2.length ≤ 1048576 := by omega
  by_cases hb_l0_2 : 1048576 < l0_2.length
  · refine ⟨0, ?_⟩
    simp [laws_FnExactCountCrossings.f, szBoard_big a0_0 a0_1 l0_2 hb_l0_2 hlen_l0_2, hb_l2]
  have hs_l0_2 : l0_2.length ≤ 1048576 := by omega
  obtain ⟨r, b, hs, hi⟩ := countCrossings_both a0_0 a0_1 l0_2 a1_0 a1_1 l2 hs_l0_2 hs_l2
  refine rounds_of ?_
  have n0 : ¬ (1048576 - (l0_2.length : Int) < 0) := by omega
  have n1 : ¬ (1 + (l0_2.length : Int) < 0) := by omega
  have n2 : ¬ (1 + (l2.length : Int) < 0) := by omega
  have n12 : ¬ (1 + (l0_2.length : Int) + (l2.length : Int) < 0) := by omega
  unfold laws_FnExactCountCrossings.f
  repeat (first
    | exact Ev.now _
    | refine Ev.bind (toBoard_ev _ _ _ (by assumption)) ?_
    | refine Ev.bind (eqBoard_ev _ _ _ (by assumption)) ?_
    | refine Ev.bind (markBoard_ev _ _ _ (by assumption)) ?_
    | refine Ev.bind (toIntS_ev _ (by assumption)) ?_
    | refine Ev.bind (eqIntS_ev _ (by assumption)) ?_
    | refine Ev.bind (markIntS_ev _ (by assumption)) ?_
    | refine Ev.bind (heldIntS_ev _ (by assumption)) ?_
    | refine Ev.bind (markIntS_any _ _ (by assumption) (by omega)) ?_
    | refine Ev.bind hs ?_
    | refine Ev.bind hi ?_
    | simp only [Option.bind_some, if_true, if_false, bne_self_eq_false, Bool.false_eq_true, ne_eq, not_true_eq_false, not_false_eq_true, hb_l2, szBoard_fit _ _ _ hs_l0_2, laws_toLeaper.f, n0, n1, n2, n12]
    | (refine Ev.step (fun k => by rw [laws_FnExactCountCrossings.j0]) ?_))
end Go.Proofs.Ytemaokhlolimhaa.Pure

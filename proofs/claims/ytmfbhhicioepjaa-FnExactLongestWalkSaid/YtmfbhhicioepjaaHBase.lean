/- Boards, leapers and cells as plain Lean, and that the reference's and the law's own first functions compute them; the conditions (lengths of lists, a board that is one) stand in each theorem. -/
import Derived.Test.YtmfbhhicioepjaaHLaw
import Derived.IntWalk
import Derived.Test.YtmfbhhicioepjaaQ1
import Derived.Test.YtmfbhhicioepjaaQ2
import Derived.Test.YtmfbhhicioepjaaQ4
import Derived.Test.YtmfbhhicioepjaaQ7
namespace Go.Proofs.Ytmfbhhicioepjaa.H
open Go.RowKit Go.IntWalk Go.Proofs.Ytmfbhhicioepjaa.Q Go.Proofs.YtmfbhhicioepjaaW.PrintWords Go.Proofs.YtmfbhhicioepjaaW.PrintMore
set_option linter.unusedVariables false
set_option linter.unusedSimpArgs false

/-! ### Words of lists and numbers -/
theorem rd_mid (pre : List Int) (x : Int) (r : List Int) : rd (pre ++ x :: r) (pre.length : Int) = x := by simp [rd]
theorem lt_mid {α : Type} (pre : List α) (x : α) (r : List α) : (pre.length : Int) < ((pre ++ x :: r).length : Int) := by simp; omega
theorem nlt_end {α : Type} (pre : List α) : ¬ ((pre.length : Int) < (pre.length : Int)) := by omega
theorem w_succ {n : Nat} (h : n ≤ 4611686018427387904) : wrap64 ((n : Int) + 1) = ((n + 1 : Nat) : Int) := by rw [wrap64_in _ (by omega)]; omega
theorem rd_nat (l : List Int) (i : Nat) (h : i < l.length) : rd l (i : Int) = l[i] := by simp [rd, List.getD_eq_getElem?_getD, List.getElem?_eq_getElem h]

/-! ### The law's own functions -/
theorem toIntS_loop (rest pre : List Int) (hl : (pre ++ rest).length ≤ 4611686018427387904) : Ev (fun k => laws_toIntS.l0 k (pre ++ rest) (pre ++ List.replicate rest.length 0) (pre.length : Int)) (pre ++ rest) := by
  induction rest generalizing pre with
  | nil =>
    refine Ev.step (fun k => by rw [laws_toIntS.l0]) ?_
    simp only [List.append_nil, List.length_nil, List.replicate_zero, nlt_end, if_false]
    exact Ev.now _
  | cons x r ih =>
    refine Ev.step (fun k => by rw [laws_toIntS.l0]) ?_
    have h3 : (pre.length : Int) < ((pre ++ List.replicate (x :: r).length 0).length : Int) := by simp; omega
    have h4 : (0 : Int) ≤ (pre.length : Int) := by omega
    have h5 : pre.length ≤ 4611686018427387904 := by simp at hl; omega
    simp only [lt_mid pre x r, h3, h4, if_true, rd_mid, w_succ h5]
    have h6 : (pre ++ List.replicate (x :: r).length 0).set ((pre.length : Int)).toNat x = (pre ++ [x]) ++ List.replicate r.length 0 := by simp [List.replicate_succ]
    rw [h6]
    have := ih (pre ++ [x]) (by simpa using hl)
    simpa using this
theorem toIntS_ev (l : List Int) (hl : l.length ≤ 1048576) : Ev (fun k => laws_toIntS.f k l) l := by
  have h1 : (0 : Int) ≤ (l.length : Int) := by omega
  have h2 : ((l.length : Int) : Int).toNat ≤ 35184372088832 := by omega
  simp only [laws_toIntS.f, h1, h2, if_true]
  simpa using toIntS_loop l [] (by simp; omega)
theorem toBoard_ev (W H : Int) (l : List Int) (hl : l.length ≤ 1048576) : Ev (fun k => laws_toBoard.f k W H l) (W, H, l) := by
  simp only [laws_toBoard.f]
  exact Ev.bind (toIntS_ev l hl) (Ev.now _)
theorem eqIntS_loop (rest pre : List Int) (hl : (pre ++ rest).length ≤ 4611686018427387904) : Ev (fun k => laws_eqIntS.l0 k (pre ++ rest) (pre ++ rest) (pre.length : Int)) true := by
  induction rest generalizing pre with
  | nil =>
    refine Ev.step (fun k => by rw [laws_eqIntS.l0]) ?_
    simp only [List.append_nil, nlt_end, if_false]
    exact Ev.now _
  | cons x r ih =>
    refine Ev.step (fun k => by rw [laws_eqIntS.l0]) ?_
    have h4 : (0 : Int) ≤ (pre.length : Int) := by omega
    have h5 : pre.length ≤ 4611686018427387904 := by simp at hl; omega
    simp only [lt_mid pre x r, h4, if_true, rd_mid, w_succ h5]
    have := ih (pre ++ [x]) (by simpa using hl)
    simpa using this
theorem eqIntS_ev (l : List Int) (hl : l.length ≤ 1048576) : Ev (fun k => laws_eqIntS.f k l l) true := by
  simp only [laws_eqIntS.f, if_true]
  simpa using eqIntS_loop l [] (by simp; omega)
theorem eqBoard_ev (W H : Int) (l : List Int) (hl : l.length ≤ 1048576) : Ev (fun k => laws_eqBoard.f k W H l W H l) true := by
  simp only [laws_eqBoard.f, if_true]
  refine Ev.bind (eqIntS_ev l hl) ?_
  simp only [if_true]
  exact Ev.now _
theorem szBoard_big (W H : Int) (l : List Int) (h : 1048576 < l.length) (h2 : l.length ≤ 9223372036854775807) : laws_szBoard.f W H l 1048576 = some (-1) := by
  have e : wrap64 (1048576 - (l.length : Int)) = 1048576 - (l.length : Int) := wrap64_in _ (by omega)
  have h3 : 1048576 - (l.length : Int) < 0 := by omega
  simp [laws_szBoard.f, laws_szIntS.f, e, h3]
theorem szBoard_fit (W H : Int) (l : List Int) (h : l.length ≤ 1048576) : laws_szBoard.f W H l 1048576 = some (1048576 - (l.length : Int)) := by
  have e : wrap64 (1048576 - (l.length : Int)) = 1048576 - (l.length : Int) := wrap64_in _ (by omega)
  have h3 : ¬ 1048576 - (l.length : Int) < 0 := by omega
  simp [laws_szBoard.f, laws_szIntS.f, e, h3]

/-! ### Boards, leapers, cells -/
def hasB (W H : Int) (L : List Int) (c : Int) : Bool := decide (0 ≤ c) && decide (c < W * H) && !L.contains c
def BoardM (W H : Int) (L : List Int) : Prop := 1 ≤ W ∧ W ≤ 8 ∧ 1 ≤ H ∧ H ≤ 8 ∧ (L.length : Int) < W * H ∧ (∀ x ∈ L, 0 ≤ x ∧ x < W * H) ∧ L.Pairwise (· < ·)
def Leap (A B : Int) : Prop := 0 ≤ A ∧ A ≤ B ∧ 1 ≤ B ∧ B ≤ 5
def Two (W H : Int) (L : List Int) (A B : Int) : Prop := BoardM W H L ∧ Leap A B
def isB (W A B x y : Int) : Bool :=
  let u := ((x % W - y % W).natAbs : Int)
  let v := ((x / W - y / W).natAbs : Int)
  (decide (u = A) && decide (v = B)) || (decide (u = B) && decide (v = A))
def cellsM (W H : Int) (L : List Int) : List Int := ((List.range (W * H).toNat).map Int.ofNat).filter (hasB W H L)
def leapsM (W H : Int) (L : List Int) (A B c : Int) : List Int := (cellsM W H L).filter (isB W A B c)
theorem BoardM.area {W H : Int} {L : List Int} (g : BoardM W H L) : 1 ≤ W * H ∧ W * H ≤ 64 := by
  obtain ⟨h1, h2, h3, h4, _⟩ := g
  constructor
  · have := Int.mul_le_mul h1 h3 (by omega) (by omega); omega
  · have := Int.mul_le_mul h2 h4 (by omega) (by omega); omega
theorem BoardM.wrapArea {W H : Int} {L : List Int} (g : BoardM W H L) : wrap64 (W * H) = W * H := wrap64_in _ (by have := g.area; omega)
theorem mem_cellsM {W H : Int} {L : List Int} {c : Int} : c ∈ cellsM W H L ↔ hasB W H L c = true := by
  unfold cellsM
  rw [List.mem_filter]
  constructor
  · exact fun h => h.2
  · intro h
    refine ⟨?_, h⟩
    have h' := h
    simp only [hasB, Bool.and_eq_true, decide_eq_true_eq] at h'
    refine List.mem_map.2 ⟨c.toNat, List.mem_range.2 (by omega), ?_⟩
    show ((c.toNat : Nat) : Int) = c
    omega
theorem cellsM_length {W H : Int} {L : List Int} (g : BoardM W H L) : (cellsM W H L).length ≤ 64 := by
  unfold cellsM
  refine Nat.le_trans (List.length_filter_le _ _) ?_
  have := g.area
  simp; omega
theorem has_range {W H : Int} {L : List Int} {c : Int} (h : hasB W H L c = true) : 0 ≤ c ∧ c < W * H := by
  simp only [hasB, Bool.and_eq_true, decide_eq_true_eq] at h
  exact h.1
theorem leapsM_length {W H : Int} {L : List Int} (g : BoardM W H L) (A B c : Int) : (leapsM W H L A B c).length ≤ 64 := Nat.le_trans (List.length_filter_le _ _) (cellsM_length g)

/-! ### What the reference's first functions tell -/
theorem l1In_eq (n lo hi : Int) : spec_l1In.f n lo hi = some (decide (lo ≤ n) && decide (n ≤ hi)) := by
  unfold spec_l1In.f
  split <;> rename_i h
  · have : lo ≤ n := h
    simp [this]
  · have : ¬ lo ≤ n := h
    simp [this]
theorem l1Has_loop (c : Int) (rest pre : List Int) (hl : (pre ++ rest).length ≤ 4611686018427387904) : Ev (fun k => spec_l1Has.l0 k c (pre ++ rest) ((pre ++ rest).length : Int) (pre.length : Int)) (rest.contains c) := by
  induction rest generalizing pre with
  | nil =>
    refine Ev.step (fun k => by rw [spec_l1Has.l0]) ?_
    simp only [List.append_nil, nlt_end, if_false]
    exact Ev.now _
  | cons x r ih =>
    refine Ev.step (fun k => by rw [spec_l1Has.l0]) ?_
    have h4 : (0 : Int) ≤ (pre.length : Int) := by omega
    have h5 : pre.length ≤ 4611686018427387904 := by simp at hl; omega
    simp only [lt_mid pre x r, h4, if_true, rd_mid, w_succ h5]
    by_cases hx : x = c
    · simp only [hx, if_true, List.contains_cons, beq_self_eq_true, Bool.true_or]
      exact Ev.now _
    · have := ih (pre ++ [x]) (by simpa using hl)
      have hx' : ¬ c = x := fun h => hx h.symm
      simp only [hx, if_false]
      simpa [hx'] using this
theorem l1Has_ev (l : List Int) (c : Int) (hl : l.length ≤ 4611686018427387904) : Ev (fun k => spec_l1Has.f k l c) (l.contains c) := by
  unfold spec_l1Has.f
  simpa using l1Has_loop c l [] (by simpa using hl)
theorem l1All_loop (lo hi : Int) (rest pre : List Int) (hl : (pre ++ rest).length ≤ 4611686018427387904) : Ev (fun k => spec_l1All.l0 k lo hi (pre ++ rest) ((pre ++ rest).length : Int) (pre.length : Int)) (rest.all fun n => decide (lo ≤ n) && decide (n ≤ hi)) := by
  induction rest generalizing pre with
  | nil =>
    refine Ev.step (fun k => by rw [spec_l1All.l0]) ?_
    simp only [List.append_nil, nlt_end, if_false]
    exact Ev.now _
  | cons x r ih =>
    refine Ev.step (fun k => by rw [spec_l1All.l0]) ?_
    have h4 : (0 : Int) ≤ (pre.length : Int) := by omega
    have h5 : pre.length ≤ 4611686018427387904 := by simp at hl; omega
    simp only [lt_mid pre x r, h4, if_true, rd_mid, w_succ h5, l1In_eq, Option.bind_some, List.all_cons]
    cases hx : (decide (lo ≤ x) && decide (x ≤ hi)) with
    | false => simp only [Bool.false_eq_true, if_false, Bool.false_and]; exact Ev.now _
    | true =>
      have := ih (pre ++ [x]) (by simpa using hl)
      simp only [if_true, Bool.true_and]
      simpa using this
theorem l1All_ev (l : List Int) (lo hi : Int) (hl : l.length ≤ 4611686018427387904) : Ev (fun k => spec_l1All.f k l lo hi) (l.all fun n => decide (lo ≤ n) && decide (n ≤ hi)) := by
  unfold spec_l1All.f
  simpa using l1All_loop lo hi l [] (by simpa using hl)
theorem boHas_ev {W H : Int} {L : List Int} (g : BoardM W H L) (c : Int) (hl : L.length ≤ 1048576) : Ev (fun k => spec_boHas.f k W H L c) (hasB W H L c) := by
  have ha := g.area
  have e : wrap64 (W * H - 1) = W * H - 1 := wrap64_in _ (by omega)
  simp only [spec_boHas.f, g.wrapArea, e, l1In_eq, Option.bind_some]
  by_cases h : 0 ≤ c ∧ c ≤ W * H - 1
  · have h1 : (decide (0 ≤ c) && decide (c ≤ W * H - 1)) = true := by simp [h]
    have h2 : c < W * H := by omega
    simp only [h1, if_true]
    refine Ev.bind (l1Has_ev L c (by omega)) ?_
    have : hasB W H L c = !L.contains c := by simp [hasB, h.1, h2]
    rw [this]
    exact Ev.now _
  · have h1 : (decide (0 ≤ c) && decide (c ≤ W * H - 1)) = false := by simp; omega
    have h2 : hasB W H L c = false := by
      simp only [hasB, Bool.and_eq_false_iff, decide_eq_false_iff_not]
      omega
    simp only [h1, Bool.false_eq_true, if_false, h2]
    exact Ev.now _
open Classical in
theorem rising_loop (W H : Int) (L : List Int) (hl : L.length ≤ 4611686018427387904) : ∀ (n i : Nat), n + i = L.length → 1 ≤ i → Ev (fun k => spec_boGood.l0 k (i : Int) W H L) (decide (∀ j, i ≤ j → ∀ h : j < L.length, L[j - 1] < L[j])) := by
  intro n
  induction n with
  | zero =>
    intro i h1 h2
    refine Ev.step (fun k => by rw [spec_boGood.l0]) ?_
    have h3 : ¬ ((i : Int) < (L.length : Int)) := by omega
    have h4 : (∀ j, i ≤ j → ∀ h : j < L.length, L[j - 1] < L[j]) = True := by
      refine eq_true (fun j hj h => ?_)
      omega
    simp only [h3, if_false, h4, decide_true]
    exact Ev.now _
  | succ n ih =>
    intro i h1 h2
    refine Ev.step (fun k => by rw [spec_boGood.l0]) ?_
    have h3 : (i : Int) < (L.length : Int) := by omega
    have h4 : wrap64 ((i : Int) - 1) = ((i - 1 : Nat) : Int) := by rw [wrap64_in _ (by omega)]; omega
    have h5 : (0 : Int) ≤ ((i - 1 : Nat) : Int) := by omega
    have h6 : ((i - 1 : Nat) : Int) < (L.length : Int) := by omega
    have h7 : (0 : Int) ≤ (i : Int) := by omega
    simp only [h3, h4, h5, h6, h7, if_true, rd_nat L (i - 1) (by omega), rd_nat L i (by omega), w_succ (show i ≤ 4611686018427387904 by omega)]
    by_cases hx : L[i - 1] ≥ L[i]
    · have h8 : decide (∀ j, i ≤ j → ∀ h : j < L.length, L[j - 1] < L[j]) = false := by
        rw [decide_eq_false_iff_not]
        intro h
        have := h i (by omega) (by omega)
        omega
      simp only [hx, if_true, h8]
      exact Ev.now _
    · have h8 : (∀ j, i ≤ j → ∀ h : j < L.length, L[j - 1] < L[j]) = (∀ j, i + 1 ≤ j → ∀ h : j < L.length, L[j - 1] < L[j]) := by
        rw [eq_iff_iff]
        constructor
        · intro h j hj; exact h j (by omega)
        · intro h j hj hjl
          rcases Nat.lt_or_ge i j with h9 | h9
          · exact h j (by omega) hjl
          · obtain rfl : j = i := by omega
            omega
      simp only [hx, if_false, h8]
      exact ih (i + 1) (by omega) (by omega)
theorem pairwise_iff (L : List Int) : L.Pairwise (· < ·) ↔ ∀ j, 1 ≤ j → ∀ h : j < L.length, L[j - 1] < L[j] := by
  constructor
  · intro h j hj hl
    exact List.pairwise_iff_getElem.1 h (j - 1) j (by omega) hl (by omega)
  · intro h
    rw [List.pairwise_iff_getElem]
    intro i j hi hj hij
    have : ∀ d, ∀ (hd : i + d + 1 < L.length), L[i] < L[i + d + 1] := by
      intro d
      induction d with
      | zero => intro hd; have := h (i + 0 + 1) (by omega) hd; simpa using this
      | succ d ih => intro hd; have h1 := ih (by omega); have h2 := h (i + (d + 1) + 1) (by omega) hd; simp at h2; exact Int.lt_trans h1 h2
    have := this (j - i - 1) (by omega)
    simpa [show i + (j - i - 1) + 1 = j by omega] using this
theorem boSize_eq (W H : Int) : spec_boSize.f W H = some (decide (1 ≤ W ∧ W ≤ 8 ∧ 1 ≤ H ∧ H ≤ 8)) := by
  simp only [spec_boSize.f, l1In_eq, Option.bind_some]
  by_cases h1 : 1 ≤ W <;> by_cases h2 : W ≤ 8 <;> by_cases h3 : 1 ≤ H <;> by_cases h4 : H ≤ 8 <;> simp [h1, h2, h3, h4]
theorem boGood_j0_true {W H : Int} {L : List Int} : Ev (fun k => spec_boGood.j0 k true W H L) false := by
  refine Ev.step (fun k => by rw [spec_boGood.j0]) ?_
  simp only [if_true]
  exact Ev.now _
open Classical in
theorem boGood_ev (W H : Int) (L : List Int) (hl : L.length ≤ 1048576) : Ev (fun k => spec_boGood.f k W H L) (decide (BoardM W H L)) := by
  simp only [spec_boGood.f, boSize_eq, Option.bind_some]
  by_cases h1 : 1 ≤ W ∧ W ≤ 8 ∧ 1 ≤ H ∧ H ≤ 8
  · obtain ⟨a1, a2, a3, a4⟩ := h1
    have ar1 : 1 ≤ W * H := by have := Int.mul_le_mul a1 a3 (by omega) (by omega); omega
    have ar2 : W * H ≤ 64 := by have := Int.mul_le_mul a2 a4 (by omega) (by omega); omega
    have e1 : wrap64 (W * H) = W * H := wrap64_in _ (by omega)
    have e2 : wrap64 (W * H - 1) = W * H - 1 := wrap64_in _ (by omega)
    simp only [a1, a2, a3, a4, and_self, decide_true, if_true, e1, e2]
    by_cases h2 : (L.length : Int) ≥ W * H
    · have : decide (BoardM W H L) = false := by
        rw [decide_eq_false_iff_not]; rintro ⟨_, _, _, _, h, _⟩; omega
      simp only [h2, if_true, this]
      exact boGood_j0_true
    · simp only [h2, if_false]
      refine Ev.bind (l1All_ev L 0 (W * H - 1) (by omega)) ?_
      cases h3 : (L.all fun n => decide (0 ≤ n) && decide (n ≤ W * H - 1)) with
      | false =>
        have : decide (BoardM W H L) = false := by
          rw [decide_eq_false_iff_not]; rintro ⟨_, _, _, _, _, h, _⟩
          have : (L.all fun n => decide (0 ≤ n) && decide (n ≤ W * H - 1)) = true := by
            rw [List.all_eq_true]
            intro x hx
            have := h x hx
            simp; omega
          rw [this] at h3; cases h3
        simp only [Bool.not_false, this]
        exact boGood_j0_true
      | true =>
        simp only [Bool.not_true]
        refine Ev.step (fun k => by rw [spec_boGood.j0]) ?_
        simp only [Bool.false_eq_true, if_false]
        have hr : Ev (fun k => spec_boGood.l0 k 1 W H L) (decide (∀ j, 1 ≤ j → ∀ h : j < L.length, L[j - 1] < L[j])) := by
          rcases Nat.eq_zero_or_pos L.length with h0 | h0
          · have h4 : (∀ j, 1 ≤ j → ∀ h : j < L.length, L[j - 1] < L[j]) = True := by
              exact eq_true (fun j hj h => by omega)
            refine Ev.step (fun k => by rw [spec_boGood.l0]) ?_
            have h3 : ¬ ((1 : Int) < (L.length : Int)) := by omega
            simp only [h3, if_false, h4, decide_true]
            exact Ev.now _
          · exact rising_loop W H L (by omega) (L.length - 1) 1 (by omega) (by omega)
        have h5 : (∀ j, 1 ≤ j → ∀ h : j < L.length, L[j - 1] < L[j]) = BoardM W H L := by
          rw [eq_iff_iff]
          constructor
          · intro h
            refine ⟨a1, a2, a3, a4, by omega, ?_, (pairwise_iff L).2 h⟩
            intro x hx
            have := List.all_eq_true.1 h3 x hx
            simp at this; omega
          · rintro ⟨_, _, _, _, _, _, h⟩; exact (pairwise_iff L).1 h
        simp only [h5] at hr
        exact hr
  · have : decide (BoardM W H L) = false := by
      rw [decide_eq_false_iff_not]; rintro ⟨b1, b2, b3, b4, _⟩; exact h1 ⟨b1, b2, b3, b4⟩
    simp only [h1, decide_false, Bool.false_eq_true, if_false, this]
    exact boGood_j0_true
open Classical in
theorem boLeaper_eq (A B : Int) : spec_boLeaper.f A B = some (decide (Leap A B)) := by
  simp only [spec_boLeaper.f, l1In_eq, Option.bind_some]
  unfold Leap
  by_cases h1 : 1 ≤ B <;> by_cases h2 : B ≤ 5 <;> by_cases h3 : 0 ≤ A <;> by_cases h4 : A ≤ B <;> simp [h1, h2, h3, h4]
open Classical in
theorem boTwo_ev (W H : Int) (L : List Int) (A B : Int) (hl : L.length ≤ 1048576) : Ev (fun k => spec_boTwo.f k W H L A B) (decide (Two W H L A B)) := by
  unfold spec_boTwo.f
  refine Ev.bind (boGood_ev W H L hl) ?_
  by_cases g : BoardM W H L
  · simp only [g, decide_true, if_true, boLeaper_eq, Option.bind_some]
    have : decide (Two W H L A B) = decide (Leap A B) := by simp [Two, g]
    rw [this]
    exact Ev.now _
  · have : decide (Two W H L A B) = false := by simp [Two, g]
    simp only [g, decide_false, Bool.false_eq_true, if_false, this]
    exact Ev.now _
theorem two_yes {W H : Int} {L : List Int} {A B : Int} (t : Two W H L A B) (hl : L.length ≤ 1048576) : Ev (fun k => spec_boTwo.f k W H L A B) true := by
  have := boTwo_ev W H L A B hl
  simpa [t] using this
theorem two_no {W H : Int} {L : List Int} {A B : Int} (t : ¬ Two W H L A B) (hl : L.length ≤ 1048576) : Ev (fun k => spec_boTwo.f k W H L A B) false := by
  have := boTwo_ev W H L A B hl
  simpa [t] using this
theorem l1Abs_eq (n : Int) (h : -100 ≤ n ∧ n ≤ 100) : spec_l1Abs.f n = some (n.natAbs : Int) := by
  have e : wrap64 (-n) = -n := wrap64_in _ (by omega)
  simp only [spec_l1Abs.f, spec_l1Most.f, e]
  by_cases hn : n > -n
  · simp only [hn, if_true, Option.bind_some]; congr 1; omega
  · simp only [hn, if_false, Option.bind_some]; congr 1; omega
theorem cell_bounds {W H : Int} {L : List Int} (g : BoardM W H L) {c : Int} (h : 0 ≤ c ∧ c < W * H) : 0 ≤ c % W ∧ c % W < W ∧ 0 ≤ c / W ∧ c / W < H ∧ c % W + c / W * W = c := by
  have hW : 0 < W := by have := g.1; omega
  have h1 := Int.emod_nonneg c (show W ≠ 0 by omega)
  have h2 := Int.emod_lt_of_pos c hW
  have h3 : 0 ≤ c / W := Int.ediv_nonneg h.1 (by omega)
  have h4 : c / W < H := by
    rw [Int.ediv_lt_iff_lt_mul hW]
    have := Int.mul_comm W H; omega
  have h5 := Int.emod_add_mul_ediv c W
  have h6 := Int.mul_comm W (c / W)
  exact ⟨h1, h2, h3, h4, by omega⟩
theorem tmod_of {W c : Int} (h : 0 ≤ c) : Int.tmod c W = c % W := by rw [Int.tmod_eq_emod_of_nonneg h]
theorem tdiv_of {W c : Int} (h : 0 ≤ c) : Int.tdiv c W = c / W := by rw [Int.tdiv_eq_ediv_of_nonneg h]
theorem boIs_eq {W H : Int} {L : List Int} (g : BoardM W H L) (A B x y : Int) (hx : 0 ≤ x ∧ x < W * H) (hy : 0 ≤ y ∧ y < W * H) : spec_boIs.f W H L A B x y = some (isB W A B x y) := by
  obtain ⟨p1, p2, p3, p4, _⟩ := cell_bounds g hx
  obtain ⟨q1, q2, q3, q4, _⟩ := cell_bounds g hy
  have b1 := g.1
  have b2 := g.2.1
  have b3 := g.2.2.2.1
  have n0 : ¬ W = 0 := by omega
  have e1 : wrap64 (x % W - y % W) = x % W - y % W := wrap64_in _ (by omega)
  have e2 : wrap64 (x / W) = x / W := wrap64_in _ (by omega)
  have e3 : wrap64 (y / W) = y / W := wrap64_in _ (by omega)
  have e4 : wrap64 (x / W - y / W) = x / W - y / W := wrap64_in _ (by omega)
  unfold spec_boIs.f isB
  simp only [n0, if_false, tmod_of hx.1, tmod_of hy.1, tdiv_of hx.1, tdiv_of hy.1, e1, e2, e3, e4, l1Abs_eq _ (show -100 ≤ x % W - y % W ∧ x % W - y % W ≤ 100 by omega), l1Abs_eq _ (show -100 ≤ x / W - y / W ∧ x / W - y / W ≤ 100 by omega), Option.bind_some]
  generalize ((x % W - y % W).natAbs : Int) = u
  generalize ((x / W - y / W).natAbs : Int) = v
  by_cases h1 : u = A <;> by_cases h2 : v = B <;> by_cases h3 : u = B <;> by_cases h4 : v = A <;> simp [h1, h2, h3, h4] <;> simp_all
theorem range_split (n m : Nat) (h : n = m) : (List.range n).map Int.ofNat = (List.range m).map Int.ofNat := by rw [h]
theorem boCells_loop {W H : Int} {L : List Int} (g : BoardM W H L) (hl : L.length ≤ 1048576) : ∀ (n i : Nat), (n + i : Int) = W * H → ∀ acc : List Int, acc.length ≤ i → Ev (fun k => spec_boCells.l0 k acc (i : Int) W H L) (acc ++ ((List.range' i n).map Int.ofNat).filter (hasB W H L)) := by
  have ha := g.area
  intro n
  induction n with
  | zero =>
    intro i h1 acc h2
    refine Ev.step (fun k => by rw [spec_boCells.l0]) ?_
    have h3 : ¬ ((i : Int) < W * H) := by omega
    simp only [g.wrapArea, h3, if_false, List.range'_zero, List.map_nil, List.filter_nil, List.append_nil]
    exact Ev.now _
  | succ n ih =>
    intro i h1 acc h2
    refine Ev.step (fun k => by rw [spec_boCells.l0]) ?_
    have h3 : ((i : Int) < W * H) := by omega
    simp only [g.wrapArea, h3, if_true, w_succ (show i ≤ 4611686018427387904 by omega)]
    refine Ev.bind (boHas_ev g (i : Int) hl) ?_
    have h4 : acc.length < 17592186044416 := by omega
    cases hx : hasB W H L (i : Int) with
    | true =>
      simp only [h4, if_true]
      have := ih (i + 1) (by omega) (acc ++ [(i : Int)]) (by simp; omega)
      simpa [List.range'_succ, List.filter_cons, hx] using this
    | false =>
      simp only [Bool.false_eq_true, if_false]
      have := ih (i + 1) (by omega) acc (by omega)
      simpa [List.range'_succ, List.filter_cons, hx] using this
theorem boCells_ev {W H : Int} {L : List Int} (g : BoardM W H L) (hl : L.length ≤ 1048576) : Ev (fun k => spec_boCells.f k W H L) (cellsM W H L) := by
  have ha := g.area
  have := boCells_loop g hl (W * H).toNat 0 (by omega) [] (by simp)
  unfold spec_boCells.f cellsM
  rw [List.range_eq_range']
  simpa using this
theorem boLeaps_loop {W H : Int} {L : List Int} (g : BoardM W H L) (A B c : Int) (hc : 0 ≤ c ∧ c < W * H) (rest pre acc : List Int) (hm : ∀ x ∈ rest, 0 ≤ x ∧ x < W * H) (hl : (pre ++ rest).length ≤ 64) (ha : acc.length ≤ pre.length) :
    Ev (fun k => spec_boLeaps.l0 k c acc (pre ++ rest) ((pre ++ rest).length : Int) (pre.length : Int) W H L A B) (acc ++ rest.filter (isB W A B c)) := by
  induction rest generalizing pre acc with
  | nil =>
    refine Ev.step (fun k => by rw [spec_boLeaps.l0]) ?_
    simp only [List.append_nil, nlt_end, if_false, List.filter_nil]
    exact Ev.now _
  | cons x r ih =>
    refine Ev.step (fun k => by rw [spec_boLeaps.l0]) ?_
    have h4 : (0 : Int) ≤ (pre.length : Int) := by omega
    have h5 : pre.length ≤ 63 := by simp at hl; omega
    have h6 : acc.length < 17592186044416 := by omega
    simp only [lt_mid pre x r, h4, if_true, rd_mid, w_succ (show pre.length ≤ 4611686018427387904 by omega), boIs_eq g A B c x hc (hm x (by simp)), Option.bind_some]
    cases hx : isB W A B c x with
    | true =>
      simp only [h6, if_true]
      have := ih (pre ++ [x]) (acc ++ [x]) (fun y hy => hm y (by simp [hy])) (by simpa using hl) (by simp; omega)
      simpa [List.filter_cons, hx] using this
    | false =>
      simp only [Bool.false_eq_true, if_false]
      have := ih (pre ++ [x]) acc (fun y hy => hm y (by simp [hy])) (by simpa using hl) (by simp; omega)
      simpa [List.filter_cons, hx] using this
theorem boLeaps_ev {W H : Int} {L : List Int} (g : BoardM W H L) (hl : L.length ≤ 1048576) (A B c : Int) (hc : 0 ≤ c ∧ c < W * H) : Ev (fun k => spec_boLeaps.f k W H L A B c) (leapsM W H L A B c) := by
  unfold spec_boLeaps.f
  refine Ev.bind (boCells_ev g hl) ?_
  have := boLeaps_loop g A B c hc (cellsM W H L) [] [] (fun x hx => has_range (mem_cellsM.1 hx)) (by simpa using cellsM_length g) (by simp)
  simpa [leapsM] using this
/-! ### Marks -/
def marks : Int → List Int → List Int
  | _, [] => []
  | n, _ :: r => n :: marks (n + 1) r
theorem marks_length (l : List Int) : ∀ n, (marks n l).length = l.length := by
  induction l with
  | nil => intro n; rfl
  | cons x r ih => intro n; simp [marks, ih]
theorem markIntS_loop (rest pre : List Int) (n : Int) (hn : -9000000000000000000 ≤ n ∧ n + (rest.length : Int) ≤ 9000000000000000000) (hl : (pre ++ rest).length ≤ 4611686018427387904) : Ev (fun k => laws_markIntS.l0 k (pre ++ rest) n (pre.length : Int)) (n + (rest.length : Int), pre ++ marks n rest) := by
  induction rest generalizing pre n with
  | nil =>
    refine Ev.step (fun k => by rw [laws_markIntS.l0]) ?_
    simp only [List.append_nil, nlt_end, if_false, marks, List.length_nil]
    simpa using Ev.now _
  | cons x r ih =>
    refine Ev.step (fun k => by rw [laws_markIntS.l0]) ?_
    have h4 : (0 : Int) ≤ (pre.length : Int) := by omega
    have h5 : pre.length ≤ 4611686018427387904 := by simp at hl; omega
    have e : wrap64 (n + 1) = n + 1 := wrap64_in _ (by simp at hn; omega)
    have e2 : (pre ++ x :: r).set ((pre.length : Int)).toNat n = (pre ++ [n]) ++ r := by simp
    simp only [lt_mid pre x r, h4, if_true, e, e2, w_succ h5]
    have := ih (pre ++ [n]) (n + 1) (by simp at hn; omega) (by simpa using hl)
    have e3 : n + ((x :: r).length : Int) = n + 1 + (r.length : Int) := by simp; omega
    rw [e3]
    simpa [marks] using this
theorem markIntS_ev (l : List Int) (hl : l.length ≤ 1048576) : Ev (fun k => laws_markIntS.f k l 1) (1 + (l.length : Int), marks 1 l) := by
  unfold laws_markIntS.f
  simpa using markIntS_loop l [] 1 (by omega) (by simp; omega)
theorem heldIntS_loop (rest pre : List Int) (n : Int) (hn : -9000000000000000000 ≤ n ∧ n + (rest.length : Int) ≤ 9000000000000000000) (hl : (pre ++ rest).length ≤ 4611686018427387904) : Ev (fun k => laws_heldIntS.l0 k (pre ++ marks n rest) n (pre.length : Int)) (n + (rest.length : Int)) := by
  induction rest generalizing pre n with
  | nil =>
    refine Ev.step (fun k => by rw [laws_heldIntS.l0]) ?_
    simp only [List.append_nil, nlt_end, if_false, marks, List.length_nil]
    simpa using Ev.now _
  | cons x r ih =>
    refine Ev.step (fun k => by rw [laws_heldIntS.l0]) ?_
    have h4 : (0 : Int) ≤ (pre.length : Int) := by omega
    have h5 : pre.length ≤ 4611686018427387904 := by simp at hl; omega
    have e : wrap64 (n + 1) = n + 1 := wrap64_in _ (by simp at hn; omega)
    simp only [marks, lt_mid pre n (marks (n + 1) r), h4, if_true, rd_mid, e, w_succ h5]
    have := ih (pre ++ [n]) (n + 1) (by simp at hn; omega) (by simpa using hl)
    have e3 : n + ((x :: r).length : Int) = n + 1 + (r.length : Int) := by simp; omega
    rw [e3]
    simpa [marks] using this
theorem heldIntS_ev (l : List Int) (hl : l.length ≤ 1048576) : Ev (fun k => laws_heldIntS.f k (marks 1 l) 1) (1 + (l.length : Int)) := by
  unfold laws_heldIntS.f
  simpa using heldIntS_loop l [] 1 (by omega) (by simp; omega)
theorem markIntS_any (l : List Int) (n : Int) (hl : l.length ≤ 1048576) (hn : 0 ≤ n ∧ n ≤ 100000000) : Ev (fun k => laws_markIntS.f k l n) (n + (l.length : Int), marks n l) := by
  unfold laws_markIntS.f
  simpa using markIntS_loop l [] n (by omega) (by simp; omega)
theorem markBoard_ev (W H : Int) (l : List Int) (hl : l.length ≤ 1048576) : Ev (fun k => laws_markBoard.f k W H l 1) (1 + (l.length : Int), marks 1 l) := by
  unfold laws_markBoard.f
  exact Ev.bind (markIntS_ev l hl) (Ev.now _)
end Go.Proofs.Ytmfbhhicioepjaa.H

/- The steps of a leaper, and small words: whether a list contains a number, a list sorted, a row put; the program's first functions compute them. -/
import Derived.Test.YtmfbhhicioepjaaHBase
import Derived.Test.YtmfbhhicioepjaaHSort
import Derived.Test.YtmfbhhicioepjaaQ5
namespace Go.Proofs.Ytmfbhhicioepjaa.H
open Go.RowKit Go.IntWalk Go.Proofs.Ytmfbhhicioepjaa.Q Go.Proofs.YtmfbhhicioepjaaW.PrintWords Go.Proofs.YtmfbhhicioepjaaW.PrintMore
set_option linter.unusedVariables false
set_option linter.unusedSimpArgs false

theorem index_loop (c : Int) (rest pre : List Int) (hl : (pre ++ rest).length ≤ 4611686018427387904) : ∃ i, Ev (fun k => slices_Index_int_int.l0 k (pre ++ rest) c ((pre ++ rest).length : Int) (pre.length : Int)) i ∧ (decide (i ≥ 0) = rest.contains c) := by
  induction rest generalizing pre with
  | nil =>
    refine ⟨-1, Ev.step (fun k => by rw [slices_Index_int_int.l0]) ?_, by simp⟩
    simp only [List.append_nil, nlt_end, if_false]
    exact Ev.now _
  | cons x r ih =>
    have h4 : (0 : Int) ≤ (pre.length : Int) := by omega
    have h5 : pre.length ≤ 4611686018427387904 := by simp at hl; omega
    by_cases hx : c = x
    · refine ⟨(pre.length : Int), Ev.step (fun k => by rw [slices_Index_int_int.l0]) ?_, by simp [hx]⟩
      simp only [lt_mid pre x r, h4, if_true, rd_mid, w_succ h5, hx]
      exact Ev.now _
    · obtain ⟨i, hi, he⟩ := ih (pre ++ [x]) (by simpa using hl)
      refine ⟨i, Ev.step (fun k => by rw [slices_Index_int_int.l0]) ?_, by simpa [hx] using he⟩
      simp only [lt_mid pre x r, h4, if_true, rd_mid, w_succ h5, hx, if_false]
      simpa using hi
theorem contains_ev (l : List Int) (c : Int) (hl : l.length ≤ 4611686018427387904) : Ev (fun k => slices_Contains_int_int.f k l c) (l.contains c) := by
  obtain ⟨i, hi, he⟩ := index_loop c l [] (by simpa using hl)
  unfold slices_Contains_int_int.f slices_Index_int_int.f
  rw [← he]
  refine Ev.bind (by simpa using hi) (Ev.now _)
open Classical in
theorem isLeaper_eq (A B : Int) : impl_IsLeaper.f A B = some (decide (Leap A B)) := by
  unfold impl_IsLeaper.f Leap
  by_cases h1 : A ≥ 0 <;> by_cases h2 : A ≤ B <;> by_cases h3 : B ≥ 1 <;> simp [h1, h2, h3] <;> omega
/-! ### Steps -/
theorem mx_max (a b : Int) : mx a b = max a b := by unfold mx; split <;> omega
theorem mn_min (a b : Int) : mn a b = min a b := by unfold mn; split <;> omega
theorem mx_abs (a : Int) : mx a (-a) = (a.natAbs : Int) := by rw [mx_max]; omega
def ys (y : Int) : Nat → List Int
  | 0 => []
  | n + 1 => y :: ys (y + 1) n
def stepOk (A B : Int) (s : List Int) : Bool := decide (mn (mx (rd s 0) (-rd s 0)) (mx (rd s 1) (-rd s 1)) = A) && decide (mx (mx (rd s 0) (-rd s 0)) (mx (rd s 1) (-rd s 1)) = B)
def allSteps : List (List Int) := (ys (-5) 11).flatMap fun x => (ys (-5) 11).map fun y => [x, y]
def stepsM (A B : Int) : List (List Int) := allSteps.filter (stepOk A B)
theorem steps_l1 (A B x : Int) (hx : -5 ≤ x ∧ x ≤ 5) (R : List (List Int)) : ∀ (n : Nat) (y : Int), y + n = 6 → -5 ≤ y → ∀ acc : List (List Int), (acc.length : Int) ≤ 20 * (x + 5) + (y + 5) →
    Ev (fun k => impl_Leaper_steps.l0 k (acc ++ ((ys y n).map fun y => [x, y]).filter (stepOk A B)) (x + 1) A B) R → Ev (fun k => impl_Leaper_steps.l1 k acc x y A B) R := by
  intro n
  induction n with
  | zero =>
    intro y h1 h2 acc h3 hR
    refine Ev.step (fun k => by rw [impl_Leaper_steps.l1]) ?_
    have h4 : ¬ y ≤ 5 := by omega
    have e : wrap64 (x + 1) = x + 1 := wrap64_in _ (by omega)
    simp only [h4, if_false, e]
    simpa [ys] using hR
  | succ n ih =>
    intro y h1 h2 acc h3 hR
    refine Ev.step (fun k => by rw [impl_Leaper_steps.l1]) ?_
    have h4 : y ≤ 5 := by omega
    have e1 : wrap64 (y + 1) = y + 1 := wrap64_in _ (by omega)
    have e2 : wrap64 (-x) = -x := wrap64_in _ (by omega)
    have e3 : wrap64 (-y) = -y := wrap64_in _ (by omega)
    have h5 : acc.length < 5864062014805 := by omega
    simp only [h4, if_true, e1, e2, e3, h5]
    have hs : stepOk A B [x, y] = (decide (mn (mx x (-x)) (mx y (-y)) = A) && decide (mx (mx x (-x)) (mx y (-y)) = B)) := rfl
    by_cases c1 : mn (mx x (-x)) (mx y (-y)) = A
    · by_cases c2 : mx (mx x (-x)) (mx y (-y)) = B
      · have hs' : stepOk A B [x, y] = true := by rw [hs]; simp [c1, c2]
        simp only [c1, c2, if_true]
        refine ih (y + 1) (by omega) (by omega) (acc ++ [[x, y]]) (by simp; omega) ?_
        simpa [ys, List.filter_cons, hs'] using hR
      · have hs' : stepOk A B [x, y] = false := by rw [hs]; simp [c2]
        simp only [c1, c2, if_true, if_false]
        refine ih (y + 1) (by omega) (by omega) acc (by omega) ?_
        simpa [ys, List.filter_cons, hs'] using hR
    · have hs' : stepOk A B [x, y] = false := by rw [hs]; simp [c1]
      simp only [c1, if_false]
      refine ih (y + 1) (by omega) (by omega) acc (by omega) ?_
      simpa [ys, List.filter_cons, hs'] using hR
theorem ys_length (n : Nat) : ∀ y, (ys y n).length = n := by
  induction n with
  | zero => intro y; rfl
  | succ n ih => intro y; simp [ys, ih]
theorem steps_l0 (A B : Int) : ∀ (n : Nat) (x : Int), x + n = 6 → -5 ≤ x → ∀ acc : List (List Int), (acc.length : Int) ≤ 20 * (x + 5) →
    Ev (fun k => impl_Leaper_steps.l0 k acc x A B) (acc ++ ((ys x n).flatMap fun x => (ys (-5) 11).map fun y => [x, y]).filter (stepOk A B)) := by
  intro n
  induction n with
  | zero =>
    intro x h1 h2 acc h3
    refine Ev.step (fun k => by rw [impl_Leaper_steps.l0]) ?_
    have h4 : ¬ x ≤ 5 := by omega
    simp only [h4, if_false, ys, List.flatMap_nil, List.filter_nil, List.append_nil]
    exact Ev.now _
  | succ n ih =>
    intro x h1 h2 acc h3
    refine Ev.step (fun k => by rw [impl_Leaper_steps.l0]) ?_
    have h4 : x ≤ 5 := by omega
    simp only [h4, if_true]
    refine steps_l1 A B x ⟨h2, h4⟩ _ 11 (-5) (by omega) (by omega) acc (by omega) ?_
    have hlen : (((ys (-5) 11).map fun y => [x, y]).filter (stepOk A B)).length ≤ 11 := Nat.le_trans (List.length_filter_le _ _) (by simp [ys_length])
    have := ih (x + 1) (by omega) (by omega) (acc ++ ((ys (-5) 11).map fun y => [x, y]).filter (stepOk A B)) (by rw [List.length_append]; omega)
    have e : (ys x (n + 1)).flatMap (fun x => (ys (-5) 11).map fun y => [x, y]) = ((ys (-5) 11).map fun y => [x, y]) ++ (ys (x + 1) n).flatMap (fun x => (ys (-5) 11).map fun y => [x, y]) := by
      show (x :: ys (x + 1) n).flatMap _ = _
      rw [List.flatMap_cons]
    rw [e, List.filter_append, ← List.append_assoc]
    exact this
theorem steps_ev (A B : Int) : Ev (fun k => impl_Leaper_steps.f k A B) (stepsM A B) := by
  unfold impl_Leaper_steps.f
  have := steps_l0 A B 11 (-5) (by omega) (by omega) [] (by simp)
  simpa [stepsM, allSteps] using this
theorem mem_ys (n : Nat) : ∀ (y z : Int), z ∈ ys y n ↔ y ≤ z ∧ z < y + n := by
  induction n with
  | zero => intro y z; simp [ys]
  | succ n ih => intro y z; simp only [ys, List.mem_cons, ih]; omega
theorem mem_allSteps (s : List Int) : s ∈ allSteps ↔ ∃ x y : Int, (-5 ≤ x ∧ x ≤ 5) ∧ (-5 ≤ y ∧ y ≤ 5) ∧ s = [x, y] := by
  unfold allSteps
  simp only [List.mem_flatMap, List.mem_map, mem_ys]
  constructor
  · rintro ⟨x, hx, y, hy, rfl⟩; exact ⟨x, y, by omega, by omega, rfl⟩
  · rintro ⟨x, y, hx, hy, rfl⟩; exact ⟨x, by omega, y, by omega, rfl⟩
theorem mem_stepsM (A B : Int) (s : List Int) : s ∈ stepsM A B ↔ ∃ x y : Int, (-5 ≤ x ∧ x ≤ 5) ∧ (-5 ≤ y ∧ y ≤ 5) ∧ s = [x, y] ∧ mn (mx x (-x)) (mx y (-y)) = A ∧ mx (mx x (-x)) (mx y (-y)) = B := by
  unfold stepsM
  rw [List.mem_filter, mem_allSteps]
  constructor
  · rintro ⟨⟨x, y, hx, hy, rfl⟩, h⟩
    simp only [stepOk, Bool.and_eq_true, decide_eq_true_eq] at h
    exact ⟨x, y, hx, hy, rfl, h.1, h.2⟩
  · rintro ⟨x, y, hx, hy, rfl, h1, h2⟩
    refine ⟨⟨x, y, hx, hy, rfl⟩, ?_⟩
    simp only [stepOk, Bool.and_eq_true, decide_eq_true_eq]
    exact ⟨h1, h2⟩
theorem allSteps_apart : allSteps.Pairwise fun a b => ¬ (rd a 0 = rd b 0 ∧ rd a 1 = rd b 1) := by decide +kernel
theorem stepsM_apart (A B : Int) : (stepsM A B).Pairwise fun a b => ¬ (rd a 0 = rd b 0 ∧ rd a 1 = rd b 1) := allSteps_apart.filter _
theorem stepsM_length (A B : Int) : (stepsM A B).length ≤ 121 := Nat.le_trans (List.length_filter_le _ _) (by decide +kernel)

theorem sort_key {l m : List Int} (hl : l.Nodup) (hm : m.Pairwise (· < ·)) (h : ∀ x, x ∈ l ↔ x ∈ m) : sortL l = m := by
  unfold sortL
  have hmn : m.Nodup := hm.imp (fun h => by omega)
  refine List.Perm.eq_of_pairwise (le := fun x y => x ≤ y) (fun a b _ _ h1 h2 => by omega) ?_ (hm.imp (fun h => by omega)) ?_
  · refine (List.pairwise_mergeSort (le := fun x y => decide (x ≤ y)) (fun a b c => ?_) (fun a b => ?_) l).imp (fun h => by simpa using h)
    · simp; omega
    · simp; omega
  · exact (List.mergeSort_perm l _).trans ((List.perm_ext_iff_of_nodup hl hmn).2 h)
theorem rd_L1_set (N : List (List Int)) (c : Int) (r : List Int) (h : 0 ≤ c ∧ c < (N.length : Int)) : rd_L1 (N.set c.toNat r) c = r := by
  unfold rd_L1
  rw [List.getD_eq_getElem?_getD, List.getElem?_set_self (by omega)]
  rfl
theorem set_rd_L1 (N : List (List Int)) (c : Int) (h : 0 ≤ c ∧ c < (N.length : Int)) : N.set c.toNat (rd_L1 N c) = N := by
  unfold rd_L1
  rw [List.getD_eq_getElem?_getD, List.getElem?_eq_getElem (by omega)]
  exact List.set_getElem_self (by omega)
end Go.Proofs.Ytmfbhhicioepjaa.H

/- The reference's steps of a leaper are the program's, in the same order; the condition is that the leaper is one. -/
import Derived.Test.YtbecdckdbeoomaaHSteps
import Derived.Test.YtbecdckdbeoomaaQ9
namespace Go.Proofs.Ytbecdckdbeoomaa.H
open Go.RowKit Go.IntWalk Go.Proofs.Ytbecdckdbeoomaa.Q Go.Proofs.YtbecdckdbeoomaaW.PrintWords Go.Proofs.YtbecdckdbeoomaaW.PrintMore
set_option linter.unusedVariables false
set_option linter.unusedSimpArgs false
def sok (A B x y : Int) : Bool := (decide ((x.natAbs : Int) = A) && decide ((y.natAbs : Int) = B)) || (decide ((x.natAbs : Int) = B) && decide ((y.natAbs : Int) = A))
def rowS (A B x : Int) (n : Nat) (y : Int) : List (List Int) := ((ys y n).filter (sok A B x)).map fun y => [x, y]
def specS (A B : Int) (n : Nat) (x : Int) : List (List Int) := (ys x n).flatMap fun x => rowS A B x (2 * B + 1).toNat (-B)
theorem rowS_length (A B x : Int) (n : Nat) (y : Int) : (rowS A B x n y).length ≤ n := by
  unfold rowS
  rw [List.length_map]
  exact Nat.le_trans (List.length_filter_le _ _) (by rw [ys_length]; omega)
theorem boSteps_l1 (A B x : Int) (hB : 1 ≤ B ∧ B ≤ 5) (hx : -5 ≤ x ∧ x ≤ 5) (R : List (List Int)) : ∀ (n : Nat) (y : Int), y + n = B + 1 → -5 ≤ y → ∀ acc : List (List Int), acc.length + n ≤ 100000 →
    Ev (fun k => spec_boSteps.l0 k (acc ++ rowS A B x n y) (x + 1) A B) R → Ev (fun k => spec_boSteps.l1 k acc x y A B) R := by
  intro n
  induction n with
  | zero =>
    intro y h1 h2 acc ha hR
    refine Ev.step (fun k => by rw [spec_boSteps.l1]) ?_
    have h4 : ¬ y ≤ B := by omega
    have e : wrap64 (x + 1) = x + 1 := wrap64_in _ (by omega)
    simp only [h4, if_false, e]
    simpa [rowS, ys] using hR
  | succ n ih =>
    intro y h1 h2 acc ha hR
    refine Ev.step (fun k => by rw [spec_boSteps.l1]) ?_
    have h4 : y ≤ B := by omega
    have e1 : wrap64 (y + 1) = y + 1 := wrap64_in _ (by omega)
    have h5 : acc.length < 5864062014805 := by omega
    simp only [h4, if_true, e1, l1Abs_eq x (by omega), l1Abs_eq y (by omega), Option.bind_some, h5]
    have yes : sok A B x y = true → Ev (fun k => spec_boSteps.l1 k (acc ++ [[x, y]]) x (y + 1) A B) R := by
      intro hs
      refine ih (y + 1) (by omega) (by omega) (acc ++ [[x, y]]) (by simp; omega) ?_
      simpa [rowS, ys, List.filter_cons, hs] using hR
    have no : sok A B x y = false → Ev (fun k => spec_boSteps.l1 k acc x (y + 1) A B) R := by
      intro hs
      refine ih (y + 1) (by omega) (by omega) acc (by omega) ?_
      simpa [rowS, ys, List.filter_cons, hs] using hR
    have hs : sok A B x y = ((decide ((x.natAbs : Int) = A) && decide ((y.natAbs : Int) = B)) || (decide ((x.natAbs : Int) = B) && decide ((y.natAbs : Int) = A))) := rfl
    by_cases c1 : (x.natAbs : Int) = A
    · simp only [if_pos c1]
      by_cases c2 : (y.natAbs : Int) = B
      · simp only [if_pos c2]
        exact yes (by rw [hs, decide_eq_true c1, decide_eq_true c2]; rfl)
      · simp only [if_neg c2]
        by_cases c3 : (x.natAbs : Int) = B
        · simp only [if_pos c3]
          by_cases c4 : (y.natAbs : Int) = A
          · simp only [if_pos c4]
            exact yes (by rw [hs, decide_eq_true c3, decide_eq_true c4]; simp)
          · simp only [if_neg c4]
            exact no (by rw [hs, decide_eq_false c2, decide_eq_false c4]; simp)
        · simp only [if_neg c3]
          exact no (by rw [hs, decide_eq_false c2, decide_eq_false c3]; simp)
    · simp only [if_neg c1]
      by_cases c3 : (x.natAbs : Int) = B
      · simp only [if_pos c3]
        by_cases c4 : (y.natAbs : Int) = A
        · simp only [if_pos c4]
          exact yes (by rw [hs, decide_eq_true c3, decide_eq_true c4]; simp)
        · simp only [if_neg c4]
          exact no (by rw [hs, decide_eq_false c1, decide_eq_false c4]; simp)
      · simp only [if_neg c3]
        exact no (by rw [hs, decide_eq_false c1, decide_eq_false c3]; simp)
theorem boSteps_l0 (A B : Int) (hB : 1 ≤ B ∧ B ≤ 5) : ∀ (n : Nat) (x : Int), x + n = B + 1 → -5 ≤ x → ∀ acc : List (List Int), (acc.length : Int) ≤ 20 * (x + 5) →
    Ev (fun k => spec_boSteps.l0 k acc x A B) (acc ++ specS A B n x) := by
  intro n
  induction n with
  | zero =>
    intro x h1 h2 acc h3
    refine Ev.step (fun k => by rw [spec_boSteps.l0]) ?_
    have h4 : ¬ x ≤ B := by omega
    simp only [h4, if_false, specS, ys, List.flatMap_nil, List.append_nil]
    exact Ev.now _
  | succ n ih =>
    intro x h1 h2 acc h3
    refine Ev.step (fun k => by rw [spec_boSteps.l0]) ?_
    have h4 : x ≤ B := by omega
    have e : wrap64 (-B) = -B := wrap64_in _ (by omega)
    simp only [h4, if_true, e]
    refine boSteps_l1 A B x hB ⟨h2, by omega⟩ _ (2 * B + 1).toNat (-B) (by omega) (by omega) acc (by omega) ?_
    have hlen := rowS_length A B x (2 * B + 1).toNat (-B)
    have := ih (x + 1) (by omega) (by omega) (acc ++ rowS A B x (2 * B + 1).toNat (-B)) (by rw [List.length_append]; omega)
    have e2 : specS A B (n + 1) x = rowS A B x (2 * B + 1).toNat (-B) ++ specS A B n (x + 1) := by
      show (x :: ys (x + 1) n).flatMap _ = _
      rw [List.flatMap_cons]; rfl
    rw [e2, ← List.append_assoc]
    exact this
theorem specS_eq (A B : Int) (l : Leap A B) : specS A B (2 * B + 1).toNat (-B) = stepsM A B := by
  obtain ⟨h1, h2, h3, h4⟩ := l
  have hb : B = 1 ∨ B = 2 ∨ B = 3 ∨ B = 4 ∨ B = 5 := by omega
  have ha : A = 0 ∨ A = 1 ∨ A = 2 ∨ A = 3 ∨ A = 4 ∨ A = 5 := by omega
  rcases hb with rfl | rfl | rfl | rfl | rfl <;> rcases ha with rfl | rfl | rfl | rfl | rfl | rfl <;> first | omega | decide +kernel
theorem boSteps_ev (A B : Int) (l : Leap A B) : Ev (fun k => spec_boSteps.f k A B) (stepsM A B) := by
  have l1 := l.2.2.1
  have l2 := l.2.2.2
  unfold spec_boSteps.f
  rw [wrap64_in _ (by omega), ← specS_eq A B l]
  have := boSteps_l0 A B ⟨l1, l2⟩ (2 * B + 1).toNat (-B) (by omega) (by omega) [] (by simp; omega)
  simpa using this
end Go.Proofs.Ytbecdckdbeoomaa.H

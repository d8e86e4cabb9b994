/- How often numbers stand in a list, added up over a range: a list of different numbers of a range is no longer than the range; and where so many numbers of a range stand in a list as the range has, each stands once just where none is lacking. -/
import Derived.Test.YtbecdckdbeoomaaHBase
namespace Go.Proofs.Ytbecdckdbeoomaa.H
set_option linter.unusedVariables false
set_option linter.unusedSimpArgs false
def sumTo (f : Nat → Nat) : Nat → Nat
  | 0 => 0
  | n + 1 => sumTo f n + f n
theorem countP_split (o : Int) (n : Nat) (l : List Int) : l.countP (fun x => decide (o ≤ x) && decide (x < (n : Int) + 1 + o)) = l.countP (fun x => decide (o ≤ x) && decide (x < (n : Int) + o)) + l.count ((n : Int) + o) := by
  induction l with
  | nil => rfl
  | cons x r ih =>
    rw [List.countP_cons, List.countP_cons, List.count_cons, ih]
    have fin : ∀ p q s : Bool, (if p = true then 1 else 0) = (if q = true then 1 else 0) + (if s = true then 1 else 0) →
        List.countP (fun x => decide (o ≤ x) && decide (x < (n : Int) + o)) r + List.count ((n : Int) + o) r + (if p = true then 1 else 0) = List.countP (fun x => decide (o ≤ x) && decide (x < (n : Int) + o)) r + (if q = true then 1 else 0) + (List.count ((n : Int) + o) r + (if s = true then 1 else 0)) := by
      intro p q s h; omega
    refine fin _ _ _ ?_
    by_cases h1 : o ≤ x
    · by_cases h4 : x = (n : Int) + o
      · have h5 : (x == (n : Int) + o) = true := by simpa using h4
        have h3 : x < (n : Int) + 1 + o := by omega
        have h2 : ¬ x < (n : Int) + o := by omega
        simp only [h1, h2, h3, h5, decide_true, decide_false, Bool.and_true, Bool.and_false, Bool.false_eq_true, if_true, if_false]
      · have h5 : (x == (n : Int) + o) = false := by simpa using h4
        by_cases h2 : x < (n : Int) + o
        · have h3 : x < (n : Int) + 1 + o := by omega
          simp only [h1, h2, h3, h5, decide_true, decide_false, Bool.and_true, Bool.and_false, Bool.false_eq_true, if_true, if_false]
        · have h3 : ¬ x < (n : Int) + 1 + o := by omega
          simp only [h1, h2, h3, h5, decide_true, decide_false, Bool.and_true, Bool.and_false, Bool.false_eq_true, if_true, if_false]
    · have h5 : (x == (n : Int) + o) = false := by simp; omega
      simp only [h1, h5, decide_false, Bool.false_and, Bool.false_eq_true, if_false]
theorem sumTo_count (o : Int) (l : List Int) : ∀ n : Nat, sumTo (fun j => l.count ((j : Int) + o)) n = l.countP (fun x => decide (o ≤ x) && decide (x < (n : Int) + o)) := by
  intro n
  induction n with
  | zero =>
    symm
    rw [sumTo, List.countP_eq_zero]
    intro x _
    simp <;> omega
  | succ n ih =>
    rw [sumTo, ih, show ((n + 1 : Nat) : Int) + o = (n : Int) + 1 + o by omega, countP_split]
theorem sumTo_le {f : Nat → Nat} : ∀ n : Nat, (∀ j, j < n → f j ≤ 1) → sumTo f n ≤ n := by
  intro n
  induction n with
  | zero => intro _; exact Nat.le_refl _
  | succ n ih => intro h; have := ih (fun j hj => h j (by omega)); have := h n (by omega); rw [sumTo]; omega
theorem sumTo_ge {f : Nat → Nat} : ∀ n : Nat, (∀ j, j < n → 1 ≤ f j) → n ≤ sumTo f n := by
  intro n
  induction n with
  | zero => intro _; exact Nat.le_refl _
  | succ n ih => intro h; have := ih (fun j hj => h j (by omega)); have := h n (by omega); rw [sumTo]; omega
theorem sumTo_full {f : Nat → Nat} : ∀ n : Nat, (∀ j, j < n → f j ≤ 1) → sumTo f n = n → ∀ j, j < n → 1 ≤ f j := by
  intro n
  induction n with
  | zero => intro _ _ j hj; omega
  | succ n ih =>
    intro h he j hj
    have h1 := sumTo_le n (fun j hj => h j (by omega))
    have h2 := h n (by omega)
    rw [sumTo] at he
    rcases Nat.lt_or_ge j n with h3 | h3
    · exact ih (fun j hj => h j (by omega)) (by omega) j h3
    · obtain rfl : j = n := by omega
      omega
theorem sumTo_once {f : Nat → Nat} : ∀ n : Nat, (∀ j, j < n → 1 ≤ f j) → sumTo f n = n → ∀ j, j < n → f j ≤ 1 := by
  intro n
  induction n with
  | zero => intro _ _ j hj; omega
  | succ n ih =>
    intro h he j hj
    have h1 := sumTo_ge n (fun j hj => h j (by omega))
    have h2 := h n (by omega)
    rw [sumTo] at he
    rcases Nat.lt_or_ge j n with h3 | h3
    · exact ih (fun j hj => h j (by omega)) (by omega) j h3
    · obtain rfl : j = n := by omega
      omega
/-- Different numbers of a range: no more than the range has. -/
theorem few_of_once (l : List Int) (n : Nat) (hr : ∀ x ∈ l, 0 ≤ x ∧ x < (n : Int)) (h1 : ∀ x, l.count x ≤ 1) : l.length ≤ n := by
  have e := sumTo_count 0 l n
  have e2 : l.countP (fun x => decide ((0 : Int) ≤ x) && decide (x < (n : Int) + 0)) = l.length := by
    rw [List.countP_eq_length]
    intro x hx
    have := hr x hx
    simp <;> omega
  have := sumTo_le (f := fun j => l.count ((j : Int) + 0)) n (fun j _ => h1 _)
  omega
end Go.Proofs.Ytbecdckdbeoomaa.H

/- The first greatest number of a list: the reference's loop, and slices.Max with slices.Index. -/
import Derived.Test.YtjeongckkfkehaaHSteps
import Derived.Test.YtjeongckkfkehaaHMax
import Derived.Test.YtjeongckkfkehaaQ35
import Derived.Test.YtjeongckkfkehaaQ2
namespace Go.Proofs.Ytjeongckkfkehaa.H
open Go.RowKit Go.IntWalk Go.Proofs.Ytjeongckkfkehaa.Q Go.Proofs.YtjeongckkfkehaaW.PrintWords Go.Proofs.YtjeongckkfkehaaW.PrintMore
set_option linter.unusedVariables false
set_option linter.unusedSimpArgs false
/-- b is the first place of the greatest number. -/
def IsMost (l : List Int) (b : Nat) : Prop := b < l.length ∧ (∀ j : Nat, j < l.length → rd l (j : Int) ≤ rd l (b : Int)) ∧ ∀ j : Nat, j < b → rd l (j : Int) < rd l (b : Int)
theorem isMost_one {l : List Int} {a b : Nat} (ha : IsMost l a) (hb : IsMost l b) : a = b := by
  rcases Nat.lt_trichotomy a b with h | h | h
  · have := hb.2.2 a h; have := ha.2.1 b hb.1; omega
  · exact h
  · have := ha.2.2 b h; have := hb.2.1 a ha.1; omega
def MostTill (l : List Int) (i : Nat) (x : Int) : Prop := (x = -1 ∧ ∀ j : Nat, j < i → rd l (j : Int) < 0) ∨ ∃ b : Nat, x = (b : Int) ∧ b < i ∧ 0 ≤ rd l (b : Int) ∧ (∀ j : Nat, j < i → rd l (j : Int) ≤ rd l (b : Int)) ∧ ∀ j : Nat, j < b → rd l (j : Int) < rd l (b : Int)
theorem most_loop (l : List Int) (hl : l.length ≤ 1048576) (hex : ∃ j : Nat, j < l.length ∧ 0 ≤ rd l (j : Int)) : ∀ (n i : Nat) (x : Int), n + i = l.length → MostTill l i x → ∃ b : Nat, IsMost l b ∧ 0 ≤ rd l (b : Int) ∧ Ev (fun k => spec_faMost.l0 k l x l (l.length : Int) (i : Int)) ((b : Int), rd l (b : Int)) := by
  intro n
  induction n with
  | zero =>
    intro i x h1 hm
    rcases hm with ⟨_, h⟩ | ⟨b, rfl, h2, h3, h4, h5⟩
    · obtain ⟨j, hj, h0⟩ := hex
      have := h j (by omega)
      omega
    · refine ⟨b, ⟨by omega, fun j hj => h4 j (by omega), h5⟩, h3, Ev.step (fun k => by rw [spec_faMost.l0]) ?_⟩
      have c1 : ¬ ((i : Int) < (l.length : Int)) := by omega
      have c2 : (0 : Int) ≤ (b : Int) := by omega
      have c3 : (b : Int) < (l.length : Int) := by omega
      simp only [c1, c2, c3, if_true, if_false]
      exact Ev.now _
  | succ n ih =>
    intro i x h1 hm
    have c1 : (i : Int) < (l.length : Int) := by omega
    have c2 : (0 : Int) ≤ (i : Int) := by omega
    have ws := w_succ (show i ≤ 4611686018427387904 by omega)
    by_cases c : rd l (i : Int) ≥ 0
    · rcases hm with ⟨rfl, h⟩ | ⟨b, rfl, h2, h3, h4, h5⟩
      · obtain ⟨b, r1, r2, r3⟩ := ih (i + 1) (i : Int) (by omega) (.inr ⟨i, rfl, by omega, c, fun j hj => by
          rcases Nat.lt_or_ge j i with hji | hji
          · have := h j hji; omega
          · obtain rfl : j = i := by omega
            exact Int.le_refl _, fun j hj => by have := h j hj; omega⟩)
        refine ⟨b, r1, r2, Ev.step (fun k => by rw [spec_faMost.l0]) ?_⟩
        have c3 : (-1 : Int) < 0 := by omega
        simp only [c1, c2, c, c3, if_true, ws]
        exact r3
      · have d1 : ¬ ((b : Int) < 0) := by omega
        have d2 : (0 : Int) ≤ (b : Int) := by omega
        have d3 : (b : Int) < (l.length : Int) := by omega
        by_cases e : rd l (i : Int) > rd l (b : Int)
        · obtain ⟨b', r1, r2, r3⟩ := ih (i + 1) (i : Int) (by omega) (.inr ⟨i, rfl, by omega, c, fun j hj => by
            rcases Nat.lt_or_ge j i with hji | hji
            · have := h4 j hji; omega
            · obtain rfl : j = i := by omega
              exact Int.le_refl _, fun j hj => by have := h4 j hj; omega⟩)
          refine ⟨b', r1, r2, Ev.step (fun k => by rw [spec_faMost.l0]) ?_⟩
          simp only [c1, c2, c, d1, d2, d3, e, if_true, if_false, ws]
          exact r3
        · obtain ⟨b', r1, r2, r3⟩ := ih (i + 1) (b : Int) (by omega) (.inr ⟨b, rfl, by omega, h3, fun j hj => by
            rcases Nat.lt_or_ge j i with hji | hji
            · exact h4 j hji
            · obtain rfl : j = i := by omega
              omega, h5⟩)
          refine ⟨b', r1, r2, Ev.step (fun k => by rw [spec_faMost.l0]) ?_⟩
          simp only [c1, c2, c, d1, d2, d3, e, if_true, if_false, ws]
          exact r3
    · obtain ⟨b', r1, r2, r3⟩ := ih (i + 1) x (by omega) (by
        rcases hm with ⟨rfl, h⟩ | ⟨b, rfl, h2, h3, h4, h5⟩
        · refine .inl ⟨rfl, fun j hj => ?_⟩
          rcases Nat.lt_or_ge j i with hji | hji
          · exact h j hji
          · obtain rfl : j = i := by omega
            omega
        · refine .inr ⟨b, rfl, by omega, h3, fun j hj => ?_, h5⟩
          rcases Nat.lt_or_ge j i with hji | hji
          · exact h4 j hji
          · obtain rfl : j = i := by omega
            omega)
      refine ⟨b', r1, r2, Ev.step (fun k => by rw [spec_faMost.l0]) ?_⟩
      simp only [c1, c2, c, if_true, if_false, ws]
      exact r3
theorem faMost_ev (l : List Int) (hl : l.length ≤ 1048576) (hex : ∃ j : Nat, j < l.length ∧ 0 ≤ rd l (j : Int)) : ∃ b : Nat, IsMost l b ∧ 0 ≤ rd l (b : Int) ∧ Ev (fun k => spec_faMost.f k l) ((b : Int), rd l (b : Int)) := by
  unfold spec_faMost.f
  have := most_loop l hl hex l.length 0 (-1) rfl (.inl ⟨rfl, fun j hj => by omega⟩)
  simpa using this
theorem most_max {l : List Int} {b : Nat} (h : IsMost l b) : Lib.maxOf l = rd l (b : Int) := by
  obtain ⟨m1, m2⟩ := maxOf_spec l (by have := h.1; omega)
  obtain ⟨j, hj, e⟩ := List.getElem_of_mem m2
  have h1 := h.2.1 j hj
  rw [rd_nat l j hj, e] at h1
  have h2 := m1 (rd l (b : Int)) (by rw [rd_nat l b h.1]; exact List.getElem_mem _)
  omega
theorem index_first (c : Int) (l : List Int) (hl : l.length ≤ 1048576) (b : Nat) (hb : b < l.length) (hc : rd l (b : Int) = c) (hn : ∀ j : Nat, j < b → rd l (j : Int) ≠ c) : Ev (fun k => slices_Index_int_int.f k l c) (b : Int) := by
  unfold slices_Index_int_int.f
  have key : ∀ (n i : Nat), n + i = b → Ev (fun k => slices_Index_int_int.l0 k l c (l.length : Int) (i : Int)) (b : Int) := by
    intro n
    induction n with
    | zero =>
      intro i hi
      obtain rfl : i = b := by omega
      refine Ev.step (fun k => by rw [slices_Index_int_int.l0]) ?_
      have c1 : (i : Int) < (l.length : Int) := by omega
      have c2 : (0 : Int) ≤ (i : Int) := by omega
      simp only [c1, c2, hc, if_true]
      exact Ev.now _
    | succ n ih =>
      intro i hi
      refine Ev.step (fun k => by rw [slices_Index_int_int.l0]) ?_
      have c1 : (i : Int) < (l.length : Int) := by omega
      have c2 : (0 : Int) ≤ (i : Int) := by omega
      have c3 : ¬ c = rd l (i : Int) := fun h => hn i (by omega) h.symm
      simp only [c1, c2, c3, if_true, if_false, w_succ (show i ≤ 4611686018427387904 by omega)]
      exact ih (i + 1) (by omega)
  simpa using key b 0 rfl
end Go.Proofs.Ytjeongckkfkehaa.H

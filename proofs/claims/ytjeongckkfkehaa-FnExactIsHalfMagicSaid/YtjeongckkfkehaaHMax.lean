/- slices.Max tells the greatest number of a list. -/
import Derived.Test.YtjeongckkfkehaaHSort
namespace Go.Proofs.Ytjeongckkfkehaa.H
theorem foldl_max (zs : List Int) : ∀ a, a ≤ zs.foldl max a ∧ (∀ x ∈ zs, x ≤ zs.foldl max a) ∧ (zs.foldl max a = a ∨ zs.foldl max a ∈ zs) := by
  induction zs with
  | nil => intro a; simp
  | cons z r ih =>
    intro a
    obtain ⟨h1, h2, h3⟩ := ih (max a z)
    simp only [List.foldl_cons]
    refine ⟨by omega, fun x hx => ?_, ?_⟩
    · rcases List.mem_cons.1 hx with rfl | hx
      · omega
      · exact h2 x hx
    · rcases h3 with h3 | h3
      · rcases Int.le_total a z with h | h
        · right; rw [h3, Int.max_eq_right h]; simp
        · left; rw [h3, Int.max_eq_left h]
      · right; simp [h3]
theorem maxOf_spec (l : List Int) (h : 0 < l.length) : (∀ x ∈ l, x ≤ Lib.maxOf l) ∧ Lib.maxOf l ∈ l := by
  cases l with
  | nil => simp at h
  | cons z r =>
    obtain ⟨h1, h2, h3⟩ := foldl_max (z :: r) z
    unfold Lib.maxOf
    refine ⟨fun x hx => h2 x hx, ?_⟩
    rcases h3 with h3 | h3
    · show (z :: r).foldl max z ∈ z :: r
      rw [h3]; simp
    · exact h3
end Go.Proofs.Ytjeongckkfkehaa.H

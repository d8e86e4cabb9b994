/- How many numbers of a list are 0, 1, ..: what a loop that counts into a list comes to. -/
import Derived.Test.YtjeongckkfkehaaHBase
import Derived.Lib.Slices
namespace Go.Proofs.Ytjeongckkfkehaa.H
open Go.RowKit Go.IntWalk Go.Proofs.YtjeongckkfkehaaW.PrintWords
set_option linter.unusedVariables false
set_option linter.unusedSimpArgs false
def cntOf (l : List Int) (v : Int) : Int := ((l.countP fun x => decide (x = v) : Nat) : Int)
def cntL (l : List Int) (n : Nat) : List Int := (List.range n).map fun (v : Nat) => cntOf l (v : Int)
theorem cntL_length (l : List Int) (n : Nat) : (cntL l n).length = n := by simp [cntL]
theorem cntOf_le (l : List Int) (v : Int) : 0 ≤ cntOf l v ∧ cntOf l v ≤ (l.length : Int) := by
  have : l.countP (fun x => decide (x = v)) ≤ l.length := List.countP_le_length
  unfold cntOf
  omega
theorem cntL_rd (l : List Int) (n : Nat) (v : Int) (h : 0 ≤ v ∧ v < (n : Int)) : rd (cntL l n) v = cntOf l v := by
  unfold rd cntL
  rw [List.getD_eq_getElem?_getD, List.getElem?_map, List.getElem?_range (by omega)]
  have : ((v.toNat : Nat) : Int) = v := by omega
  simp [this]
theorem cntOf_snoc (l : List Int) (x v : Int) : cntOf (l ++ [x]) v = cntOf l v + if x = v then 1 else 0 := by
  unfold cntOf
  rw [List.countP_append, List.countP_singleton]
  by_cases h : x = v
  · simp [h]
  · simp [h]
theorem cntL_neg (l : List Int) (n : Nat) (x : Int) (h : x < 0) : cntL (l ++ [x]) n = cntL l n := by
  unfold cntL
  refine List.map_congr_left fun v _ => ?_
  rw [cntOf_snoc, if_neg (by omega)]
  omega
theorem cntL_get (l : List Int) (n i : Nat) (h : i < (cntL l n).length) : (cntL l n)[i] = cntOf l (i : Int) := by simp [cntL]
theorem cntL_put (l : List Int) (n : Nat) (x : Int) (h : 0 ≤ x ∧ x < (n : Int)) : (cntL l n).set x.toNat (cntOf l x + 1) = cntL (l ++ [x]) n := by
  refine List.ext_getElem (by simp [cntL_length]) fun i h1 h2 => ?_
  have hi : i < n := by simpa [cntL_length] using h2
  rw [List.getElem_set]
  rw [cntL_get, cntL_get _ _ _ h2, cntOf_snoc]
  by_cases e : x.toNat = i
  · have : x = (i : Int) := by omega
    rw [if_pos e, if_pos this, this]
  · have : ¬ x = (i : Int) := by omega
    rw [if_neg e, if_neg this]
    omega
theorem cntL_more (l : List Int) (n : Nat) (h : ∀ x ∈ l, x < (n : Int)) : cntL l n ++ [0] = cntL l (n + 1) := by
  unfold cntL
  rw [List.range_succ, List.map_append]
  have : cntOf l (n : Int) = 0 := by
    unfold cntOf
    have : l.countP (fun x => decide (x = (n : Int))) = 0 := by
      rw [List.countP_eq_zero]
      intro x hx
      have := h x hx
      simp; omega
    omega
  simp [this]
def mostOf (l : List Int) : Nat := l.foldl (fun m x => max m (x + 1).toNat) 0
theorem mostOf_spec (l : List Int) : (∀ x ∈ l, x < (mostOf l : Int)) ∧ ∀ n : Nat, (∀ x ∈ l, x + 1 ≤ (n : Int)) → mostOf l ≤ n := by
  have key : ∀ (l : List Int) (m : Nat), m ≤ l.foldl (fun m x => max m (x + 1).toNat) m ∧ (∀ x ∈ l, x < ((l.foldl (fun m x => max m (x + 1).toNat) m : Nat) : Int)) ∧ ∀ n : Nat, m ≤ n → (∀ x ∈ l, x + 1 ≤ (n : Int)) → l.foldl (fun m x => max m (x + 1).toNat) m ≤ n := by
    intro l
    induction l with
    | nil => intro m; exact ⟨Nat.le_refl _, fun x hx => (by cases hx), fun n h _ => h⟩
    | cons z r ih =>
      intro m
      obtain ⟨h1, h2, h3⟩ := ih (max m (z + 1).toNat)
      simp only [List.foldl_cons]
      refine ⟨by omega, fun x hx => ?_, fun n hm hx => h3 n ?_ (fun x hx' => hx x (by simp [hx']))⟩
      · rcases List.mem_cons.1 hx with rfl | hx
        · omega
        · exact h2 x hx
      · have := hx z (by simp)
        omega
  exact ⟨(key l 0).2.1, fun n hx => (key l 0).2.2 n (by omega) hx⟩
theorem mostOf_snoc (l : List Int) (x : Int) : mostOf (l ++ [x]) = max (mostOf l) (x + 1).toNat := by simp [mostOf, List.foldl_append]
end Go.Proofs.Ytjeongckkfkehaa.H

/- What a row of the model reads is told to the printed functions: a slice of whole numbers that came in, as the list of its numbers, each within 64 bits; the slice's own reading is the condition. -/
import Derived.Test.YtmfbhhicioepjaaQ0
import Derived.ChangeSlices
import Derived.OpenShut
import Derived.ChangeOld
import Derived.Lib.SmallJoins
namespace Go.Proofs.Ytmfbhhicioepjaa.H
open Go.ChangeShapes Go.WideShapes Go.ChangeAt Go.RowKit Go.Proofs.YtmfbhhicioepjaaW.PrintWords
set_option linter.unusedVariables false
/-- A whole number of 64 bits. -/
def I64 (n : Int) : Prop := -9223372036854775808 ≤ n ∧ n ≤ 9223372036854775807
theorem i64_of {n : Int} (h : (Lit.int .i64 n).wf = true) : I64 n := by
  simp only [Lit.wf, Bool.and_eq_true, decide_eq_true_eq] at h
  exact h
theorem rounds_of {α : Type} {g : Nat → Option α} {r : α} (h : Ev g r) : ∃ k, g k = some r := by
  obtain ⟨K, h⟩ := h
  exact ⟨K, h K (Nat.le_refl _)⟩
theorem ints_row {H : Type} {enc : TypeId × Value → H} {P : Program} {w : World} {base : Nat} {held : Bool} {fuel : Nat} {t e : TypeId} {v : Value} {x : DataW H × List MemPlace} (ht : P.underlying t = some (.slice e)) (he : P.underlying e = some (.int .i64)) (hc : P.cellsOf e = 1)
    (h : DataW.trod enc P w base (fun _ => true) held fuel t [v] = some x) :
    ∃ A c zs, v = .slice A zs.length c ∧ Kd.C (Kd.int .i64) w A zs.length zs ∧ zs.length ≤ c ∧ (∀ n ∈ zs, I64 n) := by
  rcases open_ints ht he hc h with ⟨hcs, _⟩ | ⟨a, l, c, zs, hcs, _, hl, hm, hz, _, hcell, hwz⟩
  · obtain rfl : v = .slice none 0 0 := by simpa using hcs
    exact ⟨none, 0, [], rfl, Kd.C_nil _ _, Nat.zero_le _, by simp⟩
  · obtain rfl : v = .slice (some a) l c := by simpa using hcs
    have hz' : zs.length = c := by simpa using hz
    have hlen : (zs.take l).length = l := by rw [List.length_take]; omega
    refine ⟨some a, c, zs.take l, by rw [hlen], ?_, by rw [hlen]; exact hl, fun n hn => i64_of (hwz n (List.mem_of_mem_take hn))⟩
    refine ⟨rfl, ?_, fun _ => ⟨a, rfl, fun j p hj => ?_⟩⟩
    · rw [hlen]; have : maxLen = 9223372036854775807 := rfl; omega
    · have hjl : j < l := by have := (List.getElem?_eq_some_iff.1 hj).1; omega
      have hj2 : zs[j]? = some p := by rw [List.getElem?_take_of_lt hjl] at hj; exact hj
      refine ⟨[.int .i64 p], rfl, rfl, fun i u hu => ?_⟩
      have hi : i = 0 := by have := (List.getElem?_eq_some_iff.1 hu).1; simp at this; exact this
      subst hi
      have hu' : u = .int .i64 p := by simpa using hu.symm
      subst hu'
      have := hcell j (by omega)
      rw [List.getD_eq_getElem?_getD, hj2] at this
      simpa [Kd.int, Kd.scalar] using this
end Go.Proofs.Ytmfbhhicioepjaa.H

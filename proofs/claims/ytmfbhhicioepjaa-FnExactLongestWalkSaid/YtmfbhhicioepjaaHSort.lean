/- slices.Sort, Clone, Max, Min and Reverse at []int, in the form of the printed contracts: for every slice of the call's own (Sort, Reverse), or that can be read (Clone of fewer than 2^44 elements; Max and Min of one element at least). -/
import Derived.Test.YtmfbhhicioepjaaQ0
import Derived.Test.YtmfbhhicioepjaaShelf
import Derived.Sort.OwnSortedInts
namespace Go.Proofs.Ytmfbhhicioepjaa.Q
open Go.RowKit Go.Proofs.YtmfbhhicioepjaaW.PrintWords Go.Proofs.YtmfbhhicioepjaaW.PrintLast Go.Sort
set_option linter.unusedVariables false

def sortL (l : List Int) : List Int := l.mergeSort fun x y => decide (x ≤ y)
theorem sortL_length (l : List Int) : (sortL l).length = l.length := by simp [sortL]

theorem reads_at {w : World} {A : Option Addr} {n : Nat} {l : List Int} (h : Kd.C (Kd.int .i64) w A n l) (hn : 0 < n) : ∃ b off, A = some ⟨b, off, none⟩ ∧ ∀ j, j < l.length → w.cell? ⟨b, off + j, none⟩ = some (.int .i64 (l.getD j 0)) := by
  have h' := Kd.reads_of_C (enc := Value.int .i64) (d := (0 : Int)) h
  obtain ⟨ad, e, hc⟩ := h'.2.2 hn
  obtain ⟨b, off, v⟩ := ad
  have h0 := hc 0 hn
  have hv : v = none := by
    cases v with
    | none => rfl
    | some z =>
      simp [World.cell?, Addr.add] at h0
      split at h0 <;> simp at h0
  subst hv
  refine ⟨b, off, e, fun j hj => ?_⟩
  have h1 := hc j (by have := h'.1; omega)
  have : (⟨b, off, none⟩ : Addr).add j = ⟨b, off + j, none⟩ := by unfold Addr.add; split <;> simp_all
  rwa [this] at h1
theorem reads_nil {w : World} {n : Nat} {l : List Int} (h : Kd.C (Kd.int .i64) w none n l) : n = 0 ∧ l = [] := by
  have h' := Kd.reads_of_C (enc := Value.int .i64) (d := (0 : Int)) h
  have : n = 0 := by
    rcases Nat.eq_zero_or_pos n with h0 | h0
    · exact h0
    · obtain ⟨ad, e, _⟩ := h'.2.2 h0
      cases e
  exact ⟨this, List.eq_nil_of_length_eq_zero (by rw [h'.1, this])⟩

def slices_Sort_int_int.f (l0 : List Int) : Option (List Int) := if l0.length < 4611686018427387904 then some (sortL l0) else none
theorem slices_Sort_int_int.inrow (W : World) (base : Nat) (ok : Nat → Prop) (v : Value) (l : List Int) (h : Kd.R (Kd.int .i64) 3 W base ok v l) (hlim : l.length < 4611686018427387904) :
    Calls Try.prog 72 #[v] W fun e w' => e = .returned (.tuple #[]) ∧ Kd.R (Kd.int .i64) 3 w' base ok v (sortL l) ∧ W.grownBy w' v.ownBlock := by
  have ho := Kd.own_of_R (enc := Value.int .i64) h
  have hlen : (l.map (Value.int .i64)).length = l.length := by simp
  rcases ho.2 with ⟨rfl, hx⟩ | ⟨g, cap, cur, rfl, hb, hh, h1, h2, h3, h4⟩
  · have hl : l = [] := by
      cases l with
      | nil => rfl
      | cons a t => simp at hx
    subst hl
    refine (Try.slices_Sort_int_none none 0 W).mono ?_
    rintro e w' ⟨rfl, rfl⟩
    exact ⟨rfl, by simpa [sortL] using Kd.R_nil (Kd.int .i64) 3 w' base ok, World.grownBy.refl _ _⟩
  · have hg : g < W.heap.size := (Array.getElem?_eq_some_iff.1 hh).1
    refine (Try.slices_Sort_int g 0 cap l W (holds_of_blockI hh (by rw [Nat.mul_one] at h4; exact h4)) hg hlim).mono ?_
    rintro e w' ⟨rfl, n, os, rfl⟩
    refine ⟨rfl, Kd.R_of_own ?_ h.1, ?_⟩
    · have := ownsRow_sortedI (ss := l) (ts := sortL l) (os := os) (n := n) (sortL_length l) hb hh h1 h2 h3
      rw [sortL_length]
      exact this
    · exact grownBy_sortedI _
theorem slices_Sort_int_int.calls (P0_ : Nat → Prop) (u9000_ : Value) (l0 : List Int) (r : List Int) (w0 w : World) (hB : Below w0.heap.size w0 w) (ho0 : Kd.R (Kd.int .i64) 3 w w0.heap.size P0_ u9000_ l0) (h : slices_Sort_int_int.f l0 = some r) :
    Calls Try.prog 72 #[u9000_] w fun e w' => e = .returned (.tuple #[]) ∧ Kd.R (Kd.int .i64) 3 w' w0.heap.size (fun k_ => (P0_ k_ ∨ w.heap.size ≤ k_)) u9000_ r ∧ Below w0.heap.size w0 w' ∧ Kept w w' (fun k_ => P0_ k_) := by
  unfold slices_Sort_int_int.f at h
  split at h
  case isFalse => cases h
  rename_i hlim
  obtain rfl := Option.some.inj h
  refine (slices_Sort_int_int.inrow w _ _ _ l0 ho0 hlim).mono ?_
  rintro e w' ⟨rfl, hr, hg⟩
  exact ⟨rfl, Kd.R_mono hr (fun _ hk => .inl hk), pw_below_grown hB _ hB.size hg (Kd.R_base ho0), Kept.of_grown hg (Kept.refl _ _) (fun k hk => .inl (ho0.1 k hk))⟩

def slices_Clone_int_int.f (l0 : List Int) : Option (List Int) := if l0.length < 17592186044416 then some l0 else none
theorem slices_Clone_int_int.calls (A0 : Option Addr) (c0 : Nat) (l0 : List Int) (r : List Int) (w : World) (hr0 : Kd.C (Kd.int .i64) w A0 l0.length l0) (hc0 : l0.length ≤ c0) (h : slices_Clone_int_int.f l0 = some r) :
    Calls Try.prog 71 #[.slice A0 l0.length c0] w fun e w' => ∃ v0_ : Value, e = .returned v0_ ∧ Kd.R (Kd.int .i64) 3 w' w.heap.size (fun _ => True) v0_ r ∧ Below w.heap.size w w' := by
  unfold slices_Clone_int_int.f at h
  split at h
  · rename_i hlim
    obtain rfl := Option.some.inj h
    cases A0 with
    | none =>
      obtain ⟨_, rfl⟩ := reads_nil hr0
      refine (Try.slices_Clone_int_nil _ c0 w).mono ?_
      rintro e w' ⟨rfl, rfl⟩
      exact ⟨_, rfl, Kd.R_nil _ _ _ _ _, Below.refl _ _⟩
    | some a =>
      rcases Nat.eq_zero_or_pos l0.length with h0 | h0
      · have hl : l0 = [] := List.eq_nil_of_length_eq_zero h0
        subst hl
        refine (Try.slices_Clone_int_zero a c0 w).mono ?_
        rintro e w' ⟨v', rfl, ho, _, hb⟩
        exact ⟨v', rfl, Kd.R_of_own (enc := Value.int .i64) (xs := []) ho (fun _ _ => trivial), hb⟩
      · obtain ⟨b, off, he, hc⟩ := reads_at hr0 h0
        cases he
        refine (Try.slices_Clone_int b off l0.length c0 l0 w (Nat.le_refl _) (by omega) hc).mono ?_
        rintro e w' ⟨v', rfl, ho, _, hb⟩
        rw [List.take_length] at ho
        exact ⟨v', rfl, Kd.R_of_own (enc := Value.int .i64) ho (fun _ _ => trivial), hb⟩
  · cases h


end Go.Proofs.Ytmfbhhicioepjaa.Q

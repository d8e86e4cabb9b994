/- Boards that go around: the reference's steps, leaps and distances and the program's are the same; the conditions (sizes, a leaper) stand in each theorem. -/
import Derived.Test.YtekajjhjjnfdpaaHSteps
import Derived.Test.YtekajjhjjnfdpaaHBfs
import Derived.Test.YtekajjhjjnfdpaaQ38
import Derived.Test.YtekajjhjjnfdpaaQ39
import Derived.Test.YtekajjhjjnfdpaaQ40
import Derived.Test.YtekajjhjjnfdpaaQ41
import Derived.Test.YtekajjhjjnfdpaaQ42
import Derived.Test.YtekajjhjjnfdpaaQ43
import Derived.Test.YtekajjhjjnfdpaaQ44
namespace Go.Proofs.Ytekajjhjjnfdpaa.H
open Go.RowKit Go.IntWalk Go.Proofs.Ytekajjhjjnfdpaa.Q Go.Proofs.YtekajjhjjnfdpaaW.PrintWords Go.Proofs.YtekajjhjjnfdpaaW.PrintMore
set_option linter.unusedVariables false
set_option linter.unusedSimpArgs false
def Ring (W H : Int) : Prop := 1 ≤ W ∧ W ≤ 12 ∧ 1 ≤ H ∧ H ≤ 12
theorem Ring.area {W H : Int} (g : Ring W H) : 1 ≤ W * H ∧ W * H ≤ 144 := by
  obtain ⟨h1, h2, h3, h4⟩ := g
  constructor
  · have := Int.mul_le_mul h1 h3 (by omega) (by omega); omega
  · have := Int.mul_le_mul h2 h4 (by omega) (by omega); omega
theorem Ring.wrapArea {W H : Int} (g : Ring W H) : wrap64 (W * H) = W * H := wrap64_in _ (by have := g.area; omega)
theorem ring_bounds {W H : Int} (g : Ring W H) {c : Int} (h : 0 ≤ c ∧ c < W * H) : 0 ≤ c % W ∧ c % W < W ∧ 0 ≤ c / W ∧ c / W < H := by
  have hW : 0 < W := by have := g.1; omega
  refine ⟨Int.emod_nonneg c (show W ≠ 0 by omega), Int.emod_lt_of_pos c hW, Int.ediv_nonneg h.1 (by omega), ?_⟩
  rw [Int.ediv_lt_iff_lt_mul hW]
  have := Int.mul_comm W H; omega
def arP (n size : Int) (around : Bool) : Int := if around = true then Int.tmod (Int.tmod n size + size) size else n
theorem tmod_small (n s : Int) (hs : 1 ≤ s) : -s < Int.tmod n s ∧ Int.tmod n s < s := by
  have h1 := Int.natAbs_tmod n s
  have h2 : n.natAbs % s.natAbs < s.natAbs := Nat.mod_lt _ (by omega)
  omega
theorem arP_in (n s : Int) (hs : 1 ≤ s) : 0 ≤ arP n s true ∧ arP n s true < s := by
  have h1 := tmod_small n s hs
  have h2 := tmod_small (Int.tmod n s + s) s hs
  have h3 : 0 ≤ Int.tmod (Int.tmod n s + s) s := Int.tmod_nonneg _ (by omega)
  unfold arP
  rw [if_pos rfl]
  exact ⟨h3, h2.2⟩
def arTo (W H : Int) (ax ay : Bool) (c dx dy : Int) : Option Int :=
  if 0 ≤ arP (c % W + dx) W ax ∧ arP (c % W + dx) W ax < W ∧ 0 ≤ arP (c / W + dy) H ay ∧ arP (c / W + dy) H ay < H then some (arP (c / W + dy) H ay * W + arP (c % W + dx) W ax) else none
theorem arTo_in {W H : Int} (g : Ring W H) {ax ay : Bool} {c dx dy t : Int} (h : arTo W H ax ay c dx dy = some t) : 0 ≤ t ∧ t < W * H := by
  unfold arTo at h
  split at h
  · rename_i hc
    simp only [Option.some.injEq] at h
    obtain ⟨h1, h2, h3, h4⟩ := hc
    have m1 : 0 ≤ arP (c / W + dy) H ay * W := Int.mul_nonneg h3 (by have := g.1; omega)
    have m2 : (arP (c / W + dy) H ay + 1) * W ≤ H * W := Int.mul_le_mul_of_nonneg_right (by omega) (by have := g.1; omega)
    have m3 : (arP (c / W + dy) H ay + 1) * W = arP (c / W + dy) H ay * W + W := by rw [Int.add_mul]; omega
    have m4 := Int.mul_comm H W
    omega
  · cases h
section
variable {W H : Int} {ax ay : Bool} {A B : Int}
theorem arStep_ev (g : Ring W H) (c dx dy : Int) (hc : 0 ≤ c ∧ c < W * H) (hx : -5 ≤ dx ∧ dx ≤ 5) (hy : -5 ≤ dy ∧ dy ≤ 5) : Ev (fun k => spec_arStep.f k W H ax ay c dx dy) ((arTo W H ax ay c dx dy).getD (-1)) := by
  obtain ⟨b1, b2, b3, b4⟩ := id g
  obtain ⟨p1, p2, p3, p4⟩ := ring_bounds g hc
  have n0 : ¬ W = 0 := by omega
  have n1 : ¬ H = 0 := by omega
  have w1 : wrap64 (c % W + dx) = c % W + dx := wrap64_in _ (by omega)
  have w2 : wrap64 (c / W) = c / W := wrap64_in _ (by omega)
  have w3 : wrap64 (c / W + dy) = c / W + dy := wrap64_in _ (by omega)
  have t1 := tmod_small (c % W + dx) W b1
  have t2 := tmod_small (c / W + dy) H b3
  have w4 : wrap64 (Int.tmod (c % W + dx) W + W) = Int.tmod (c % W + dx) W + W := wrap64_in _ (by omega)
  have w5 : wrap64 (Int.tmod (c / W + dy) H + H) = Int.tmod (c / W + dy) H + H := wrap64_in _ (by omega)
  have w6 : wrap64 (W - 1) = W - 1 := wrap64_in _ (by omega)
  have w7 : wrap64 (H - 1) = H - 1 := wrap64_in _ (by omega)
  have fin : Ev (fun k => spec_arStep.j1 k (arP (c % W + dx) W ax) (arP (c / W + dy) H ay) W H ax ay) ((arTo W H ax ay c dx dy).getD (-1)) := by
    refine Ev.step (fun k => by rw [spec_arStep.j1]) ?_
    simp only [w6, w7, l1In_eq, Option.bind_some]
    by_cases cx : 0 ≤ arP (c % W + dx) W ax ∧ arP (c % W + dx) W ax < W
    · have e1 : (decide (0 ≤ arP (c % W + dx) W ax) && decide (arP (c % W + dx) W ax ≤ W - 1)) = true := by simp; omega
      simp only [e1, if_true]
      by_cases cy : 0 ≤ arP (c / W + dy) H ay ∧ arP (c / W + dy) H ay < H
      · have e2 : (decide (0 ≤ arP (c / W + dy) H ay) && decide (arP (c / W + dy) H ay ≤ H - 1)) = true := by simp; omega
        have m1 : 0 ≤ arP (c / W + dy) H ay * W := Int.mul_nonneg cy.1 (by omega)
        have m2 : arP (c / W + dy) H ay * W ≤ 12 * 12 := Int.mul_le_mul (by omega) b2 (by omega) (by omega)
        have w8 : wrap64 (arP (c / W + dy) H ay * W) = arP (c / W + dy) H ay * W := wrap64_in _ (by omega)
        have w9 : wrap64 (arP (c / W + dy) H ay * W + arP (c % W + dx) W ax) = arP (c / W + dy) H ay * W + arP (c % W + dx) W ax := wrap64_in _ (by omega)
        have e : arTo W H ax ay c dx dy = some (arP (c / W + dy) H ay * W + arP (c % W + dx) W ax) := by unfold arTo; rw [if_pos ⟨cx.1, cx.2, cy.1, cy.2⟩]
        simp only [e2, if_true, w8, w9, e, Option.getD_some]
        exact Ev.now _
      · have e2 : (decide (0 ≤ arP (c / W + dy) H ay) && decide (arP (c / W + dy) H ay ≤ H - 1)) = false := by simp only [Bool.and_eq_false_iff, decide_eq_false_iff_not]; omega
        have e : arTo W H ax ay c dx dy = none := by unfold arTo; rw [if_neg (fun h => cy ⟨h.2.2.1, h.2.2.2⟩)]
        simp only [e2, Bool.false_eq_true, if_false, e, Option.getD_none]
        exact Ev.now _
    · have e1 : (decide (0 ≤ arP (c % W + dx) W ax) && decide (arP (c % W + dx) W ax ≤ W - 1)) = false := by simp only [Bool.and_eq_false_iff, decide_eq_false_iff_not]; omega
      have e : arTo W H ax ay c dx dy = none := by unfold arTo; rw [if_neg (fun h => cx ⟨h.1, h.2.1⟩)]
      simp only [e1, Bool.false_eq_true, if_false, e, Option.getD_none]
      exact Ev.now _
  have mid : Ev (fun k => spec_arStep.j0 k (arP (c % W + dx) W ax) (c / W + dy) W H ax ay) ((arTo W H ax ay c dx dy).getD (-1)) := by
    refine Ev.step (fun k => by rw [spec_arStep.j0]) ?_
    cases ay with
    | true => simp only [if_true, n1, if_false, w5]; exact fin
    | false => simp only [Bool.false_eq_true, if_false]; exact fin
  unfold spec_arStep.f
  simp only [n0, if_false, tmod_of hc.1, tdiv_of hc.1, w1, w2, w3, w4]
  cases ax with
  | true => simp only [if_true]; exact mid
  | false => simp only [Bool.false_eq_true, if_false]; exact mid
theorem place_eq (n s : Int) (hs : 1 ≤ s ∧ s ≤ 12) (hn : -100 ≤ n ∧ n ≤ 100) (a : Bool) : impl_place.f n s a = some (arP n s a, decide (0 ≤ arP n s a ∧ arP n s a < s)) := by
  have t1 := tmod_small n s hs.1
  have w : wrap64 (Int.tmod n s + s) = Int.tmod n s + s := wrap64_in _ (by omega)
  have n0 : ¬ s = 0 := by omega
  unfold impl_place.f
  cases a with
  | true =>
    have h := arP_in n s hs.1
    have e : decide (0 ≤ arP n s true ∧ arP n s true < s) = true := by simpa using h
    simp only [if_true, n0, if_false, w, e]
    rfl
  | false =>
    have e : arP n s false = n := by unfold arP; simp
    simp only [Bool.false_eq_true, if_false, e]
    by_cases c : n ≥ 0
    · have c' : 0 ≤ n := c
      simp only [c, c', if_true, true_and]
    · have c' : ¬ 0 ≤ n := c
      simp only [c, c', if_false, false_and, decide_false]
theorem aroundStep_eq (g : Ring W H) (c dx dy : Int) (hc : 0 ≤ c ∧ c < W * H) (hx : -5 ≤ dx ∧ dx ≤ 5) (hy : -5 ≤ dy ∧ dy ≤ 5) : ∃ v, impl_Around_step.f W H ax ay c dx dy = some (v, (arTo W H ax ay c dx dy).isSome) ∧ ∀ t, arTo W H ax ay c dx dy = some t → v = t := by
  obtain ⟨b1, b2, b3, b4⟩ := id g
  obtain ⟨p1, p2, p3, p4⟩ := ring_bounds g hc
  have n0 : ¬ W = 0 := by omega
  have w1 : wrap64 (c % W + dx) = c % W + dx := wrap64_in _ (by omega)
  have w2 : wrap64 (c / W) = c / W := wrap64_in _ (by omega)
  have w3 : wrap64 (c / W + dy) = c / W + dy := wrap64_in _ (by omega)
  refine ⟨wrap64 (wrap64 (arP (c / W + dy) H ay * W) + arP (c % W + dx) W ax), ?_, ?_⟩
  · unfold impl_Around_step.f
    simp only [n0, if_false, tmod_of hc.1, tdiv_of hc.1, w1, w2, w3, place_eq (c % W + dx) W ⟨b1, b2⟩ (by omega) ax, place_eq (c / W + dy) H ⟨b3, b4⟩ (by omega) ay, Option.bind_some]
    by_cases cx : 0 ≤ arP (c % W + dx) W ax ∧ arP (c % W + dx) W ax < W
    · by_cases cy : 0 ≤ arP (c / W + dy) H ay ∧ arP (c / W + dy) H ay < H
      · have e : (arTo W H ax ay c dx dy).isSome = true := by unfold arTo; rw [if_pos ⟨cx.1, cx.2, cy.1, cy.2⟩]; rfl
        simp [cx, cy, e]
      · have e : (arTo W H ax ay c dx dy).isSome = false := by unfold arTo; rw [if_neg (fun h => cy ⟨h.2.2.1, h.2.2.2⟩)]; rfl
        simp only [cx, cy, e, and_self, decide_true, if_true, decide_false]
    · have e : (arTo W H ax ay c dx dy).isSome = false := by unfold arTo; rw [if_neg (fun h => cx ⟨h.1, h.2.1⟩)]; rfl
      simp only [cx, e, decide_false, Bool.false_eq_true, if_false]
  · intro t ht
    unfold arTo at ht
    split at ht
    · rename_i h
      simp only [Option.some.injEq] at ht
      have m1 : 0 ≤ arP (c / W + dy) H ay * W := Int.mul_nonneg h.2.2.1 (by omega)
      have m2 : arP (c / W + dy) H ay * W ≤ 12 * 12 := Int.mul_le_mul (by omega) b2 (by omega) (by omega)
      rw [wrap64_in (arP (c / W + dy) H ay * W) (by omega), wrap64_in _ (by omega), ht]
    · cases ht
/-! ### The reference's steps -/
def bstepOk (A B : Int) (s : List Int) : Bool := (decide (((rd s 0).natAbs : Int) = A) && decide (((rd s 1).natAbs : Int) = B)) || (decide (((rd s 0).natAbs : Int) = B) && decide (((rd s 1).natAbs : Int) = A))
def bstepsM (A B : Int) : List (List Int) := ((ys (-B) (2 * B + 1).toNat).flatMap fun x => (ys (-B) (2 * B + 1).toNat).map fun y => [x, y]).filter (bstepOk A B)
theorem bsteps_l1 (l : Leap A B) (x : Int) (hx : -B ≤ x ∧ x ≤ B) (R : List (List Int)) : ∀ (n : Nat) (y : Int), y + n = B + 1 → -B ≤ y → ∀ acc : List (List Int), (acc.length : Int) ≤ 20 * (x + 5) + (y + 5) →
    Ev (fun k => spec_boSteps.l0 k (acc ++ ((ys y n).map fun y => [x, y]).filter (bstepOk A B)) (x + 1) A B) R → Ev (fun k => spec_boSteps.l1 k acc x y A B) R := by
  obtain ⟨l1, l2, l3, l4⟩ := l
  intro n
  induction n with
  | zero =>
    intro y h1 h2 acc h3 hR
    refine Ev.step (fun k => by rw [spec_boSteps.l1]) ?_
    have h4 : ¬ y ≤ B := by omega
    have e : wrap64 (x + 1) = x + 1 := wrap64_in _ (by omega)
    simp only [h4, if_false, e]
    simpa [ys] using hR
  | succ n ih =>
    intro y h1 h2 acc h3 hR
    refine Ev.step (fun k => by rw [spec_boSteps.l1]) ?_
    have h4 : y ≤ B := by omega
    have e1 : wrap64 (y + 1) = y + 1 := wrap64_in _ (by omega)
    have h5 : acc.length < 5864062014805 := by omega
    have yes : bstepOk A B [x, y] = true → Ev (fun k => spec_boSteps.l1 k (acc ++ [[x, y]]) x (y + 1) A B) R := fun hs => by
      refine ih (y + 1) (by omega) (by omega) (acc ++ [[x, y]]) (by simp; omega) ?_
      simpa [ys, List.filter_cons, hs] using hR
    have no : bstepOk A B [x, y] = false → Ev (fun k => spec_boSteps.l1 k acc x (y + 1) A B) R := fun hs => by
      refine ih (y + 1) (by omega) (by omega) acc (by omega) ?_
      simpa [ys, List.filter_cons, hs] using hR
    have hs : bstepOk A B [x, y] = ((decide ((x.natAbs : Int) = A) && decide ((y.natAbs : Int) = B)) || (decide ((x.natAbs : Int) = B) && decide ((y.natAbs : Int) = A))) := rfl
    simp only [h4, if_true, e1, l1Abs_eq x (by omega), l1Abs_eq y (by omega), Option.bind_some, h5]
    rw [hs] at yes no
    generalize (x.natAbs : Int) = u at *
    generalize (y.natAbs : Int) = v at *
    by_cases c1 : u = A <;> by_cases c2 : v = B <;> by_cases c3 : u = B <;> by_cases c4 : v = A <;> simp only [c1, c2, c3, c4, if_true, if_false] <;> first | exact yes (by simp [c1, c2, c3, c4]) | exact no (by simp [c1, c2, c3, c4]) | (simp_all; done)
theorem bsteps_l0 (l : Leap A B) : ∀ (n : Nat) (x : Int), x + n = B + 1 → -B ≤ x → ∀ acc : List (List Int), (acc.length : Int) ≤ 20 * (x + 5) →
    Ev (fun k => spec_boSteps.l0 k acc x A B) (acc ++ ((ys x n).flatMap fun x => (ys (-B) (2 * B + 1).toNat).map fun y => [x, y]).filter (bstepOk A B)) := by
  have l' := l
  obtain ⟨l1, l2, l3, l4⟩ := l'
  intro n
  induction n with
  | zero =>
    intro x h1 h2 acc h3
    refine Ev.step (fun k => by rw [spec_boSteps.l0]) ?_
    have h4 : ¬ x ≤ B := by omega
    simp only [h4, if_false, ys, List.flatMap_nil, List.filter_nil, List.append_nil]
    exact Ev.now _
  | succ n ih =>
    intro x h1 h2 acc h3
    refine Ev.step (fun k => by rw [spec_boSteps.l0]) ?_
    have h4 : x ≤ B := by omega
    have e : wrap64 (-B) = -B := wrap64_in _ (by omega)
    simp only [h4, if_true, e]
    refine bsteps_l1 l x ⟨h2, h4⟩ _ (2 * B + 1).toNat (-B) (by omega) (by omega) acc (by omega) ?_
    have hlen : (((ys (-B) (2 * B + 1).toNat).map fun y => [x, y]).filter (bstepOk A B)).length ≤ 11 := Nat.le_trans (List.length_filter_le _ _) (by simp [ys_length]; omega)
    have := ih (x + 1) (by omega) (by omega) (acc ++ ((ys (-B) (2 * B + 1).toNat).map fun y => [x, y]).filter (bstepOk A B)) (by rw [List.length_append]; omega)
    have e : (ys x (n + 1)).flatMap (fun x => (ys (-B) (2 * B + 1).toNat).map fun y => [x, y]) = ((ys (-B) (2 * B + 1).toNat).map fun y => [x, y]) ++ (ys (x + 1) n).flatMap (fun x => (ys (-B) (2 * B + 1).toNat).map fun y => [x, y]) := by
      show (x :: ys (x + 1) n).flatMap _ = _
      rw [List.flatMap_cons]
    rw [e, List.filter_append, ← List.append_assoc]
    exact this
theorem boSteps_ev (l : Leap A B) : Ev (fun k => spec_boSteps.f k A B) (bstepsM A B) := by
  have l' := l
  obtain ⟨l1, l2, l3, l4⟩ := l'
  unfold spec_boSteps.f
  rw [wrap64_in (-B) (by omega)]
  have := bsteps_l0 l (2 * B + 1).toNat (-B) (by omega) (by omega) [] (by simp; omega)
  simpa [bstepsM] using this
theorem mem_bstepsM (l : Leap A B) (s : List Int) : s ∈ bstepsM A B ↔ s ∈ stepsM A B := by
  obtain ⟨l1, l2, l3, l4⟩ := l
  unfold bstepsM
  rw [List.mem_filter, mem_stepsM]
  simp only [List.mem_flatMap, List.mem_map, mem_ys]
  constructor
  · rintro ⟨⟨x, hx, y, hy, rfl⟩, h⟩
    refine ⟨x, y, by omega, by omega, rfl, ?_⟩
    rw [mx_abs, mx_abs, mn_min, mx_max]
    have e0 : rd [x, y] 0 = x := rfl
    have e1 : rd [x, y] 1 = y := rfl
    simp only [bstepOk, e0, e1, Bool.or_eq_true, Bool.and_eq_true, decide_eq_true_eq] at h
    omega
  · rintro ⟨x, y, hx, hy, rfl, h⟩
    rw [mx_abs, mx_abs, mn_min, mx_max] at h
    have e0 : rd [x, y] 0 = x := rfl
    have e1 : rd [x, y] 1 = y := rfl
    refine ⟨⟨x, by omega, y, by omega, rfl⟩, ?_⟩
    simp only [bstepOk, e0, e1, Bool.or_eq_true, Bool.and_eq_true, decide_eq_true_eq]
    omega
theorem bstepsM_small (l : Leap A B) : (bstepsM A B).length ≤ 121 := by
  obtain ⟨l1, l2, l3, l4⟩ := l
  have hrow : ∀ (cs : List Int), (cs.flatMap fun x => (ys (-B) (2 * B + 1).toNat).map fun y => [x, y]).length = cs.length * (2 * B + 1).toNat := by
    intro cs
    induction cs with
    | nil => simp
    | cons c r ih => rw [List.flatMap_cons, List.length_append, ih, List.length_map, ys_length, List.length_cons, Nat.add_mul]; omega
  have h1 := hrow (ys (-B) (2 * B + 1).toNat)
  rw [ys_length] at h1
  have h2 : (2 * B + 1).toNat * (2 * B + 1).toNat ≤ 11 * 11 := Nat.mul_le_mul (by omega) (by omega)
  exact Nat.le_trans (List.length_filter_le _ _) (by omega)
end
end Go.Proofs.Ytekajjhjjnfdpaa.H

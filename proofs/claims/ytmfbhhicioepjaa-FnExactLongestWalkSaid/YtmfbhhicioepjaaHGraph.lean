/- The program's board, leaper, cells and graph compute what the reference's cells and leaps are: the neighbours of each cell, sorted, are the reference's list; the conditions (a board that is one, lengths of lists) stand in each theorem. -/
import Derived.Test.YtmfbhhicioepjaaHSteps
import Derived.Test.YtmfbhhicioepjaaQ5
import Derived.Test.YtmfbhhicioepjaaQ4
import Derived.Test.YtmfbhhicioepjaaQ6
namespace Go.Proofs.Ytmfbhhicioepjaa.H
open Go.RowKit Go.IntWalk Go.Proofs.Ytmfbhhicioepjaa.Q Go.Proofs.YtmfbhhicioepjaaW.PrintWords Go.Proofs.YtmfbhhicioepjaaW.PrintMore
set_option linter.unusedVariables false
set_option linter.unusedSimpArgs false

theorem has_ev {W H : Int} {L : List Int} (g : BoardM W H L) (c : Int) (hl : L.length ≤ 1048576) : Ev (fun k => impl_Board_has.f k W H L c) (hasB W H L c) := by
  have ha := g.area
  simp only [impl_Board_has.f, g.wrapArea]
  by_cases h1 : c ≥ 0
  · by_cases h2 : c < W * H
    · simp only [h1, h2, if_true]
      refine Ev.bind (contains_ev L c (by omega)) ?_
      have h3 : (0 : Int) ≤ c := h1
      have : hasB W H L c = !L.contains c := by simp [hasB, h3, h2]
      rw [this]
      exact Ev.now _
    · have : hasB W H L c = false := by simp [hasB, h2]
      simp only [h1, h2, if_true, if_false, this]
      exact Ev.now _
  · have h3 : ¬ (0 : Int) ≤ c := h1
    have : hasB W H L c = false := by simp [hasB, h3]
    simp only [h1, if_false, this]
    exact Ev.now _
open Classical in
theorem isBoard_loop (W H : Int) (L : List Int) (ha : wrap64 (W * H) = W * H) (hl : L.length ≤ 4611686018427387904) : ∀ (n i : Nat), n + i = L.length → Ev (fun k => impl_IsBoard.l0 k L (L.length : Int) (i : Int) W H L) (decide (∀ j, i ≤ j → ∀ h : j < L.length, (0 ≤ L[j] ∧ L[j] < W * H) ∧ (1 ≤ j → L[j - 1] < L[j]))) := by
  intro n
  induction n with
  | zero =>
    intro i h1
    refine Ev.step (fun k => by rw [impl_IsBoard.l0]) ?_
    have h3 : ¬ ((i : Int) < (L.length : Int)) := by omega
    have h4 : (∀ j, i ≤ j → ∀ h : j < L.length, (0 ≤ L[j] ∧ L[j] < W * H) ∧ (1 ≤ j → L[j - 1] < L[j])) = True := eq_true (fun j hj h => by omega)
    simp only [h3, if_false, h4, decide_true]
    exact Ev.now _
  | succ n ih =>
    intro i h1
    refine Ev.step (fun k => by rw [impl_IsBoard.l0]) ?_
    have h3 : (i : Int) < (L.length : Int) := by omega
    have hi : i < L.length := by omega
    have h7 : (0 : Int) ≤ (i : Int) := by omega
    have no : ((0 ≤ L[i] ∧ L[i] < W * H) ∧ (1 ≤ i → L[i - 1] < L[i])) ∨ ¬ ((0 ≤ L[i] ∧ L[i] < W * H) ∧ (1 ≤ i → L[i - 1] < L[i])) := Classical.em _
    have bad : ¬ ((0 ≤ L[i] ∧ L[i] < W * H) ∧ (1 ≤ i → L[i - 1] < L[i])) → decide (∀ j, i ≤ j → ∀ h : j < L.length, (0 ≤ L[j] ∧ L[j] < W * H) ∧ (1 ≤ j → L[j - 1] < L[j])) = false := fun hb => by
      rw [decide_eq_false_iff_not]
      exact fun h => hb (h i (by omega) hi)
    have good : ((0 ≤ L[i] ∧ L[i] < W * H) ∧ (1 ≤ i → L[i - 1] < L[i])) → (∀ j, i ≤ j → ∀ h : j < L.length, (0 ≤ L[j] ∧ L[j] < W * H) ∧ (1 ≤ j → L[j - 1] < L[j])) = (∀ j, i + 1 ≤ j → ∀ h : j < L.length, (0 ≤ L[j] ∧ L[j] < W * H) ∧ (1 ≤ j → L[j - 1] < L[j])) := fun hg => by
      rw [eq_iff_iff]
      constructor
      · intro h j hj; exact h j (by omega)
      · intro h j hj hjl
        rcases Nat.lt_or_ge i j with h9 | h9
        · exact h j (by omega) hjl
        · obtain rfl : j = i := by omega
          exact hg
    simp only [h3, h7, if_true, rd_nat L i hi, ha, w_succ (show i ≤ 4611686018427387904 by omega)]
    by_cases c1 : L[i] < 0
    · rw [bad (fun h => by omega)]
      simp only [c1, if_true]
      exact Ev.now _
    simp only [c1, if_false]
    by_cases c2 : L[i] ≥ W * H
    · rw [bad (fun h => by omega)]
      simp only [c2, if_true]
      exact Ev.now _
    simp only [c2, if_false]
    by_cases c3 : (i : Int) > 0
    · have h4 : wrap64 ((i : Int) - 1) = ((i - 1 : Nat) : Int) := by rw [wrap64_in _ (by omega)]; omega
      have h5 : (0 : Int) ≤ ((i - 1 : Nat) : Int) := by omega
      have h6 : ((i - 1 : Nat) : Int) < (L.length : Int) := by omega
      simp only [c3, if_true, h4, h5, h6, rd_nat L (i - 1) (by omega)]
      by_cases c4 : L[i - 1] ≥ L[i]
      · rw [bad (fun h => by have := h.2 (by omega); omega)]
        simp only [c4, if_true]
        exact Ev.now _
      · simp only [c4, if_false, good ⟨⟨by omega, by omega⟩, fun _ => by omega⟩]
        exact ih (i + 1) (by omega)
    · simp only [c3, if_false, good ⟨⟨by omega, by omega⟩, fun h => absurd h (by omega)⟩]
      exact ih (i + 1) (by omega)
theorem sized_eq (n : Int) : impl_sized.f n = some (decide (1 ≤ n ∧ n ≤ 8)) := by
  unfold impl_sized.f
  by_cases h1 : n ≥ 1
  · have h2 : (1 : Int) ≤ n := h1
    simp [h1, h2]
  · have h2 : ¬ (1 : Int) ≤ n := h1
    simp [h1, h2]
theorem isBoard_no {W H : Int} {L : List Int} : Ev (fun k => impl_IsBoard.j0 k true W H L) false := by
  refine Ev.step (fun k => by rw [impl_IsBoard.j0]) ?_
  simp only [if_true]
  exact Ev.now _
open Classical in
theorem isBoard_ev (W H : Int) (L : List Int) (hl : L.length ≤ 1048576) : Ev (fun k => impl_IsBoard.f k W H L) (decide (BoardM W H L)) := by
  simp only [impl_IsBoard.f, sized_eq, Option.bind_some]
  by_cases h1 : 1 ≤ W ∧ W ≤ 8
  · by_cases h2 : 1 ≤ H ∧ H ≤ 8
    · have ar1 : 1 ≤ W * H := by have := Int.mul_le_mul h1.1 h2.1 (by omega) (by omega); omega
      have ar2 : W * H ≤ 64 := by have := Int.mul_le_mul h1.2 h2.2 (by omega) (by omega); omega
      have e1 : wrap64 (W * H) = W * H := wrap64_in _ (by omega)
      simp only [h1, h2, and_self, decide_true, if_true, e1]
      by_cases h3 : (L.length : Int) ≥ W * H
      · have : decide (BoardM W H L) = false := by
          rw [decide_eq_false_iff_not]; rintro ⟨_, _, _, _, h, _⟩; omega
        simp only [h3, decide_true, this]
        exact isBoard_no
      · simp only [h3, decide_false]
        refine Ev.step (fun k => by rw [impl_IsBoard.j0]) ?_
        simp only [Bool.false_eq_true, if_false]
        have h4 := isBoard_loop W H L e1 (by omega) L.length 0 rfl
        have h5 : (∀ j, 0 ≤ j → ∀ h : j < L.length, (0 ≤ L[j] ∧ L[j] < W * H) ∧ (1 ≤ j → L[j - 1] < L[j])) = BoardM W H L := by
          rw [eq_iff_iff]
          constructor
          · intro h
            refine ⟨h1.1, h1.2, h2.1, h2.2, by omega, ?_, (pairwise_iff L).2 fun j hj hjl => (h j (by omega) hjl).2 hj⟩
            intro x hx
            obtain ⟨j, hj, rfl⟩ := List.getElem_of_mem hx
            exact (h j (by omega) hj).1
          · rintro ⟨_, _, _, _, _, h, p⟩ j _ hj
            exact ⟨h _ (List.getElem_mem hj), fun h1 => (pairwise_iff L).1 p j h1 hj⟩
        simp only [h5] at h4
        simpa using h4
    · have : decide (BoardM W H L) = false := by
        rw [decide_eq_false_iff_not]; rintro ⟨_, _, a, b, _⟩; exact h2 ⟨a, b⟩
      simp only [h1, h2, and_self, decide_true, decide_false, if_true, Bool.false_eq_true, if_false, this]
      exact isBoard_no
  · have : decide (BoardM W H L) = false := by
      rw [decide_eq_false_iff_not]; rintro ⟨a, b, _⟩; exact h1 ⟨a, b⟩
    simp only [h1, decide_false, Bool.false_eq_true, if_false, this]
    exact isBoard_no
theorem present_loop {W H : Int} {L : List Int} (g : BoardM W H L) (hl : L.length ≤ 1048576) : ∀ (n i : Nat), (n + i : Int) = W * H → ∀ acc : List Int, acc.length ≤ i → Ev (fun k => impl_Board_present.l0 k acc (W * H) (i : Int) W H L) (acc ++ ((List.range' i n).map Int.ofNat).filter (hasB W H L)) := by
  have ha := g.area
  intro n
  induction n with
  | zero =>
    intro i h1 acc h2
    refine Ev.step (fun k => by rw [impl_Board_present.l0]) ?_
    have h3 : ¬ ((i : Int) < W * H) := by omega
    simp only [h3, if_false, List.range'_zero, List.map_nil, List.filter_nil, List.append_nil]
    exact Ev.now _
  | succ n ih =>
    intro i h1 acc h2
    refine Ev.step (fun k => by rw [impl_Board_present.l0]) ?_
    have h3 : ((i : Int) < W * H) := by omega
    have h0 : (0 : Int) ≤ (i : Int) := by omega
    simp only [h3, if_true, w_succ (show i ≤ 4611686018427387904 by omega)]
    refine Ev.bind (contains_ev L (i : Int) (by omega)) ?_
    have h4 : acc.length < 17592186044416 := by omega
    have hb : hasB W H L (i : Int) = !L.contains (i : Int) := by simp [hasB, h0, h3]
    cases hx : L.contains (i : Int) with
    | false =>
      rw [hx] at hb
      simp only [Bool.false_eq_true, if_false, h4, if_true]
      have := ih (i + 1) (by omega) (acc ++ [(i : Int)]) (by simp; omega)
      simpa [List.range'_succ, List.filter_cons, hb] using this
    | true =>
      rw [hx] at hb
      simp only [if_true]
      have := ih (i + 1) (by omega) acc (by omega)
      simpa [List.range'_succ, List.filter_cons, hb] using this
theorem present_ev {W H : Int} {L : List Int} (g : BoardM W H L) (hl : L.length ≤ 1048576) : Ev (fun k => impl_Board_present.f k W H L) (cellsM W H L) := by
  have ha := g.area
  have := present_loop g hl (W * H).toNat 0 (by omega) [] (by simp)
  unfold impl_Board_present.f cellsM
  rw [List.range_eq_range', g.wrapArea]
  simpa using this

/-! ### The neighbours of a cell -/
def stepTo (W H : Int) (L : List Int) (c : Int) (s : List Int) : Option Int :=
  if 0 ≤ c % W + rd s 0 ∧ c % W + rd s 0 < W ∧ 0 ≤ c / W + rd s 1 ∧ c / W + rd s 1 < H ∧ hasB W H L ((c / W + rd s 1) * W + (c % W + rd s 0)) = true then some ((c / W + rd s 1) * W + (c % W + rd s 0)) else none
theorem cellsM_sorted (W H : Int) (L : List Int) : (cellsM W H L).Pairwise (· < ·) := by
  unfold cellsM
  refine List.Pairwise.filter _ ?_
  rw [List.pairwise_map]
  refine List.pairwise_lt_range.imp (fun h => ?_)
  simp; omega
theorem leapsM_sorted (W H : Int) (L : List Int) (A B c : Int) : (leapsM W H L A B c).Pairwise (· < ·) := (cellsM_sorted W H L).filter _
theorem place_mod {W p q : Int} (h : 0 ≤ p ∧ p < W) : (q * W + p) % W = p ∧ (q * W + p) / W = q := by
  have hW : W ≠ 0 := by omega
  constructor
  · rw [Int.add_comm, Int.add_mul_emod_self_right]; exact Int.emod_eq_of_lt h.1 h.2
  · rw [Int.add_comm, Int.add_mul_ediv_right _ _ hW, Int.ediv_eq_zero_of_lt h.1 h.2]; omega
theorem near_key {W H : Int} {L : List Int} {A B : Int} (t : Two W H L A B) (c : Int) (hc : 0 ≤ c ∧ c < W * H) : sortL ((stepsM A B).filterMap (stepTo W H L c)) = leapsM W H L A B c := by
  obtain ⟨g, l⟩ := t
  obtain ⟨p1, p2, p3, p4, p5⟩ := cell_bounds g hc
  have b1 := g.1
  refine sort_key ?_ (leapsM_sorted _ _ _ _ _ _) ?_
  · unfold List.Nodup
    rw [List.pairwise_filterMap]
    refine (stepsM_apart A B).imp fun {s s'} hne b hb b' hb' he => hne ?_
    unfold stepTo at hb hb'
    split at hb
    · split at hb'
      · rename_i h1 h2
        simp only [Option.some.injEq] at hb hb'
        obtain ⟨m1, m2⟩ := place_mod (W := W) (q := c / W + rd s 1) ⟨h1.1, h1.2.1⟩
        obtain ⟨m3, m4⟩ := place_mod (W := W) (q := c / W + rd s' 1) ⟨h2.1, h2.2.1⟩
        rw [hb] at m1 m2
        rw [hb', ← he] at m3 m4
        omega
      · cases hb'
    · cases hb
  · intro d
    simp only [List.mem_filterMap, mem_stepsM, leapsM, List.mem_filter, mem_cellsM]
    constructor
    · rintro ⟨s, ⟨x, y, hx, hy, rfl, h1, h2⟩, hs⟩
      unfold stepTo at hs
      split at hs
      · rename_i h
        simp only [Option.some.injEq] at hs
        have e0 : rd [x, y] 0 = x := rfl
        have e1 : rd [x, y] 1 = y := rfl
        rw [e0, e1] at h hs
        obtain ⟨m1, m2⟩ := place_mod (W := W) (q := c / W + y) ⟨h.1, h.2.1⟩
        rw [hs] at m1 m2 h
        refine ⟨h.2.2.2.2, ?_⟩
        unfold isB
        rw [m1, m2]
        simp only [Bool.or_eq_true, Bool.and_eq_true, decide_eq_true_eq]
        rw [mn_min, mx_abs, mx_abs] at h1
        rw [mx_max, mx_abs, mx_abs] at h2
        omega
      · cases hs
    · rintro ⟨h1, h2⟩
      obtain ⟨q1, q2, q3, q4, q5⟩ := cell_bounds g (has_range h1)
      have l1 := l.1
      have l2 := l.2.1
      have l3 := l.2.2.1
      have l4 := l.2.2.2
      unfold isB at h2
      simp only [Bool.or_eq_true, Bool.and_eq_true, decide_eq_true_eq] at h2
      refine ⟨[d % W - c % W, d / W - c / W], ⟨_, _, by omega, by omega, rfl, ?_, ?_⟩, ?_⟩
      · rw [mn_min, mx_abs, mx_abs]; omega
      · rw [mx_max, mx_abs, mx_abs]; omega
      · unfold stepTo
        have e0 : rd [d % W - c % W, d / W - c / W] 0 = d % W - c % W := rfl
        have e1 : rd [d % W - c % W, d / W - c / W] 1 = d / W - c / W := rfl
        rw [e0, e1]
        have e2 : c % W + (d % W - c % W) = d % W := by omega
        have e3 : c / W + (d / W - c / W) = d / W := by omega
        have e4 : d / W * W + d % W = d := by omega
        rw [e2, e3, e4]
        simp only [q1, q2, q3, q4, h1, and_self, if_true]
/-! ### The graph -/
def rowM (W H : Int) (L : List Int) (A B c : Int) : List Int := (stepsM A B).filterMap (stepTo W H L c)
def nearF (W H : Int) (L : List Int) (A B : Int) (N : List (List Int)) (cs : List Int) : List (List Int) := cs.foldl (fun N c => N.set c.toNat (sortL (rd_L1 N c ++ rowM W H L A B c))) N
theorem graphOf_l1 {W H : Int} {L : List Int} {A B : Int} (t : Two W H L A B) (hl : L.length ≤ 1048576) (c : Int) (hc : 0 ≤ c ∧ c < W * H) (cs : List Int) (i : Nat) (hi : i ≤ 100) (xs : List Int) (R : List Int × List (List Int) × Bool) (rest pre : List (List Int)) (hr : ∀ s ∈ rest, ∃ x y : Int, (-5 ≤ x ∧ x ≤ 5) ∧ (-5 ≤ y ∧ y ≤ 5) ∧ s = [x, y]) (hp : (pre ++ rest).length ≤ 121) (N : List (List Int)) (hN : (N.length : Int) = W * H) (hrow : (rd_L1 N c).length ≤ 1000 + pre.length)
    (hR : Ev (fun k => impl_graphOf.l0 k cs (cs.length : Int) ((i + 1 : Nat) : Int) W H L A B W H L A B xs (N.set c.toNat (sortL (rd_L1 N c ++ rest.filterMap (stepTo W H L c))))) R) :
    Ev (fun k => impl_graphOf.l1 k c cs (cs.length : Int) (i : Int) (pre ++ rest) ((pre ++ rest).length : Int) (pre.length : Int) W H L A B W H L A B xs N) R := by
  obtain ⟨g, l⟩ := t
  obtain ⟨p1, p2, p3, p4, p5⟩ := cell_bounds g hc
  have b1 := g.1
  have b2 := g.2.1
  have b3 := g.2.2.2.1
  have hcN : 0 ≤ c ∧ c < (N.length : Int) := by omega
  induction rest generalizing pre N with
  | nil =>
    refine Ev.step (fun k => by rw [impl_graphOf.l1]) ?_
    have h1 : (rd_L1 N c).length < 4611686018427387904 := by simp at hp; omega
    simp only [List.append_nil, nlt_end, if_false, hcN, hc.1, if_true, h1, w_succ (show i ≤ 4611686018427387904 by omega)]
    simpa using hR
  | cons s r ih =>
    refine Ev.step (fun k => by rw [impl_graphOf.l1]) ?_
    obtain ⟨x, y, hx, hy, rfl⟩ := hr s (by simp)
    have h0 : (0 : Int) ≤ (pre.length : Int) := by omega
    have h5 : pre.length ≤ 121 := by simp at hp; omega
    have e0 : rd_L1 (pre ++ [x, y] :: r) (pre.length : Int) = [x, y] := by simp [rd_L1]
    have e1 : rd [x, y] 0 = x := rfl
    have e2 : rd [x, y] 1 = y := rfl
    have n0 : ¬ W = 0 := by omega
    have w1 : wrap64 (c % W + x) = c % W + x := wrap64_in _ (by omega)
    have w2 : wrap64 (c / W) = c / W := wrap64_in _ (by omega)
    have w3 : wrap64 (c / W + y) = c / W + y := wrap64_in _ (by omega)
    have hlen0 : (0 : Int) < (([x, y] : List Int).length : Int) := by simp
    have hlen1 : (1 : Int) < (([x, y] : List Int).length : Int) := by simp
    have back : ∀ N' : List (List Int), (N'.length : Int) = W * H → (rd_L1 N' c).length ≤ 1000 + (pre.length + 1) →
        Ev (fun k => impl_graphOf.l0 k cs (cs.length : Int) ((i + 1 : Nat) : Int) W H L A B W H L A B xs (N'.set c.toNat (sortL (rd_L1 N' c ++ r.filterMap (stepTo W H L c))))) R →
        Ev (fun k => impl_graphOf.l1 k c cs (cs.length : Int) (i : Int) (pre ++ [x, y] :: r) ((pre ++ [x, y] :: r).length : Int) ((pre.length + 1 : Nat) : Int) W H L A B W H L A B xs N') R := by
      intro N' hN' hrow' hR'
      have := ih (pre ++ [[x, y]]) (fun s hs => hr s (by simp [hs])) (by simpa using hp) N' hN' (by simpa using hrow') hR' (by omega)
      simpa using this
    simp only [lt_mid pre [x, y] r, h0, if_true, e0, e1, e2, n0, if_false, tmod_of hc.1, tdiv_of hc.1, w1, w2, w3, hlen0, hlen1, w_succ (show pre.length ≤ 4611686018427387904 by omega)]
    have skip : stepTo W H L c [x, y] = none → Ev (fun k => impl_graphOf.l1 k c cs (cs.length : Int) (i : Int) (pre ++ [x, y] :: r) ((pre ++ [x, y] :: r).length : Int) ((pre.length + 1 : Nat) : Int) W H L A B W H L A B xs N) R := by
      intro hs
      refine back N hN (by omega) ?_
      simpa [List.filterMap_cons, hs] using hR
    have se : stepTo W H L c [x, y] = if 0 ≤ c % W + x ∧ c % W + x < W ∧ 0 ≤ c / W + y ∧ c / W + y < H ∧ hasB W H L ((c / W + y) * W + (c % W + x)) = true then some ((c / W + y) * W + (c % W + x)) else none := rfl
    by_cases c1 : c % W + x ≥ 0
    case neg => simp only [c1, if_false]; exact skip (by rw [se, if_neg]; rintro ⟨h, _⟩; omega)
    simp only [c1, if_true]
    by_cases c2 : c % W + x < W
    case neg => simp only [c2, if_false]; exact skip (by rw [se, if_neg]; rintro ⟨_, h, _⟩; omega)
    simp only [c2, if_true]
    by_cases c3 : c / W + y ≥ 0
    case neg => simp only [c3, if_false]; exact skip (by rw [se, if_neg]; rintro ⟨_, _, h, _⟩; omega)
    simp only [c3, if_true]
    by_cases c4 : c / W + y < H
    case neg => simp only [c4, if_false]; exact skip (by rw [se, if_neg]; rintro ⟨_, _, _, h, _⟩; omega)
    simp only [c4, if_true]
    have m1 : 0 ≤ (c / W + y) * W := Int.mul_nonneg c3 (by omega)
    have m2 : (c / W + y) * W ≤ 8 * 8 := Int.mul_le_mul (by omega) b2 (by omega) (by omega)
    have w4 : wrap64 ((c / W + y) * W) = (c / W + y) * W := wrap64_in _ (by omega)
    have w5 : wrap64 ((c / W + y) * W + (c % W + x)) = (c / W + y) * W + (c % W + x) := wrap64_in _ (by omega)
    simp only [w4, w5]
    refine Ev.bind (has_ev g _ hl) ?_
    cases hh : hasB W H L ((c / W + y) * W + (c % W + x)) with
    | false =>
      simp only [Bool.false_eq_true, if_false]
      exact skip (by rw [se, if_neg]; rintro ⟨_, _, _, _, h⟩; rw [hh] at h; cases h)
    | true =>
      have h9 : (rd_L1 N c).length < 17592186044416 := by omega
      simp only [if_true, hc.1, hcN, h9]
      have hs : stepTo W H L c [x, y] = some ((c / W + y) * W + (c % W + x)) := by
        rw [se, if_pos]; exact ⟨c1, c2, c3, c4, hh⟩
      refine back _ (by simpa using hN) (by rw [rd_L1_set N c _ hcN]; simp; omega) ?_
      rw [rd_L1_set N c _ hcN, List.set_set]
      simpa [List.filterMap_cons, hs] using hR
theorem rowM_length (W H : Int) (L : List Int) (A B c : Int) : (rowM W H L A B c).length ≤ 121 := Nat.le_trans (List.length_filterMap_le _ _) (stepsM_length A B)
theorem graphOf_l0 {W H : Int} {L : List Int} {A B : Int} (t : Two W H L A B) (hl : L.length ≤ 1048576) (xs rest pre : List Int) (hr : ∀ c ∈ rest, 0 ≤ c ∧ c < W * H) (hp : (pre ++ rest).length ≤ 64) (N : List (List Int)) (hN : (N.length : Int) = W * H) (hrow : ∀ c ∈ rest, rd_L1 N c = []) (hnd : rest.Nodup) :
    Ev (fun k => impl_graphOf.l0 k (pre ++ rest) ((pre ++ rest).length : Int) (pre.length : Int) W H L A B W H L A B xs N) (xs, nearF W H L A B N rest, true) := by
  induction rest generalizing pre N with
  | nil =>
    refine Ev.step (fun k => by rw [impl_graphOf.l0]) ?_
    simp only [List.append_nil, nlt_end, if_false, nearF, List.foldl_nil]
    exact Ev.now _
  | cons c r ih =>
    refine Ev.step (fun k => by rw [impl_graphOf.l0]) ?_
    have h0 : (0 : Int) ≤ (pre.length : Int) := by omega
    have h5 : pre.length ≤ 64 := by simp at hp; omega
    simp only [lt_mid pre c r, h0, if_true, rd_mid]
    refine Ev.bind (steps_ev A B) ?_
    have hc := hr c (by simp)
    have := graphOf_l1 t hl c hc (pre ++ c :: r) pre.length (by omega) xs (xs, nearF W H L A B N (c :: r), true) (stepsM A B) [] (fun s hs => by
      obtain ⟨x, y, hx, hy, e, _⟩ := (mem_stepsM A B s).1 hs
      exact ⟨x, y, hx, hy, e⟩) (by simpa using stepsM_length A B) N hN (by rw [hrow c (by simp)]; simp) ?_
    · simpa using this
    · have h1 : (N.set c.toNat (sortL (rd_L1 N c ++ rowM W H L A B c))).length = N.length := by simp
      have := ih (pre ++ [c]) (fun d hd => hr d (by simp [hd])) (by simpa using hp) (N.set c.toNat (sortL (rd_L1 N c ++ rowM W H L A B c))) (by omega) (fun d hd => by
        have hdc : d ≠ c := fun e => by subst e; exact (List.nodup_cons.1 hnd).1 hd
        have hd0 := hr d (by simp [hd])
        have := hrow d (by simp [hd])
        unfold rd_L1 at this ⊢
        rw [List.getD_eq_getElem?_getD, List.getElem?_set_ne (by omega)]
        rwa [List.getD_eq_getElem?_getD] at this) (List.nodup_cons.1 hnd).2
      simpa [nearF, rowM] using this
def nearM (W H : Int) (L : List Int) (A B : Int) : List (List Int) := (List.range (W * H).toNat).map fun (i : Nat) => if hasB W H L (i : Int) then leapsM W H L A B (i : Int) else []
theorem nearF_length (W H : Int) (L : List Int) (A B : Int) (cs : List Int) : ∀ N, (nearF W H L A B N cs).length = N.length := by
  induction cs with
  | nil => intro N; rfl
  | cons c r ih => intro N; show (nearF W H L A B _ r).length = _; rw [ih]; simp
theorem nearF_get (W H : Int) (L : List Int) (A B : Int) (cs : List Int) (hn : cs.Nodup) : ∀ N, (∀ c ∈ cs, rd_L1 N c = [] ∧ 0 ≤ c ∧ c < (N.length : Int)) → ∀ i : Nat, i < N.length → rd_L1 (nearF W H L A B N cs) (i : Int) = if (i : Int) ∈ cs then sortL (rowM W H L A B (i : Int)) else rd_L1 N (i : Int) := by
  induction cs with
  | nil => intro N h i hi; simp [nearF]
  | cons c r ih =>
    intro N h i hi
    show rd_L1 (nearF W H L A B (N.set c.toNat (sortL (rd_L1 N c ++ rowM W H L A B c))) r) (i : Int) = _
    obtain ⟨hc0, hc⟩ := h c (by simp)
    obtain ⟨hcr, hr⟩ := List.nodup_cons.1 hn
    have hset : ∀ d : Int, 0 ≤ d → d ≠ c → rd_L1 (N.set c.toNat (sortL (rd_L1 N c ++ rowM W H L A B c))) d = rd_L1 N d := by
      intro d hd0 hdc
      unfold rd_L1
      rw [List.getD_eq_getElem?_getD, List.getElem?_set_ne (by omega), ← List.getD_eq_getElem?_getD]
    rw [ih hr _ (fun d hd => by
      have hd' := h d (by simp [hd])
      refine ⟨?_, hd'.2.1, by simpa using hd'.2.2⟩
      rw [hset d hd'.2.1 (fun e => by subst e; exact hcr hd)]
      exact hd'.1) i (by simpa using hi)]
    by_cases hic : (i : Int) = c
    · have : ¬ (i : Int) ∈ r := by rw [hic]; exact hcr
      rw [if_neg this, hic, rd_L1_set N c _ hc, if_pos (by simp), hc0]
      simp
    · rw [hset _ (by omega) hic]
      have : ((i : Int) ∈ c :: r) ↔ (i : Int) ∈ r := by simp [hic]
      by_cases h2 : (i : Int) ∈ r
      · rw [if_pos h2, if_pos (this.2 h2)]
      · rw [if_neg h2, if_neg (fun h3 => h2 (this.1 h3))]
theorem nearM_get (W H : Int) (L : List Int) (A B c : Int) (h : 0 ≤ c ∧ c < W * H) : rd_L1 (nearM W H L A B) c = if hasB W H L c then leapsM W H L A B c else [] := by
  unfold rd_L1 nearM
  rw [List.getD_eq_getElem?_getD, List.getElem?_map, List.getElem?_range (by omega)]
  have : ((c.toNat : Nat) : Int) = c := by omega
  simp [this]
theorem nearM_length (W H : Int) (L : List Int) (A B : Int) : (nearM W H L A B).length = (W * H).toNat := by simp [nearM]
theorem nearF_eq {W H : Int} {L : List Int} {A B : Int} (t : Two W H L A B) : nearF W H L A B (List.replicate (W * H).toNat []) (cellsM W H L) = nearM W H L A B := by
  have g := t.1
  have ha := g.area
  have hrep : ∀ d : Int, rd_L1 (List.replicate (W * H).toNat ([] : List Int)) d = [] := by
    intro d
    unfold rd_L1
    rw [List.getD_eq_getElem?_getD, List.getElem?_replicate]
    split <;> rfl
  have hnd : (cellsM W H L).Nodup := (cellsM_sorted W H L).imp (fun h => by omega)
  refine List.ext_getElem (by rw [nearF_length, nearM_length]; simp) fun i h1 h2 => ?_
  have hi : i < (W * H).toNat := by rw [nearM_length] at h2; exact h2
  have k1 := nearF_get W H L A B (cellsM W H L) hnd (List.replicate (W * H).toNat []) (fun c hc => ⟨hrep c, (has_range (mem_cellsM.1 hc)).1, by have := (has_range (mem_cellsM.1 hc)).2; simp; omega⟩) i (by simpa using hi)
  have k2 := nearM_get W H L A B (i : Int) (by omega)
  have r1 : rd_L1 (nearF W H L A B (List.replicate (W * H).toNat []) (cellsM W H L)) (i : Int) = (nearF W H L A B (List.replicate (W * H).toNat []) (cellsM W H L))[i] := by
    unfold rd_L1; rw [List.getD_eq_getElem?_getD, Int.toNat_natCast, List.getElem?_eq_getElem h1]; rfl
  have r2 : rd_L1 (nearM W H L A B) (i : Int) = (nearM W H L A B)[i] := by
    unfold rd_L1; rw [List.getD_eq_getElem?_getD, Int.toNat_natCast, List.getElem?_eq_getElem h2]; rfl
  rw [← r1, ← r2, k1, k2]
  by_cases hh : hasB W H L (i : Int) = true
  · rw [if_pos (mem_cellsM.2 hh), if_pos hh]
    exact near_key t (i : Int) (by omega)
  · rw [if_neg (fun h => hh (mem_cellsM.1 h)), if_neg hh]
    exact hrep _
theorem graphOf_no {W H : Int} {L : List Int} {A B : Int} : Ev (fun k => impl_graphOf.j0 k true W H L A B) (([] : List Int), ([] : List (List Int)), false) := by
  refine Ev.step (fun k => by rw [impl_graphOf.j0]) ?_
  simp only [if_true]
  exact Ev.now _
theorem graphOf_two {W H : Int} {L : List Int} {A B : Int} (t : Two W H L A B) (hl : L.length ≤ 1048576) : Ev (fun k => impl_graphOf.f k W H L A B) (cellsM W H L, nearM W H L A B, true) := by
  have ha := t.1.area
  unfold impl_graphOf.f
  refine Ev.bind (isBoard_ev W H L hl) ?_
  have g := t.1
  have l := t.2
  simp only [g, l, decide_true, if_true, isLeaper_eq, Option.bind_some, Bool.not_true]
  refine Ev.step (fun k => by rw [impl_graphOf.j0]) ?_
  simp only [Bool.false_eq_true, if_false]
  refine Ev.bind (present_ev g hl) ?_
  have h1 : 0 ≤ W * H := by omega
  have h2 : (W * H).toNat ≤ 11728124029610 := by omega
  simp only [g.wrapArea, h1, h2, if_true]
  have := graphOf_l0 t hl (cellsM W H L) (cellsM W H L) [] (fun c hc => has_range (mem_cellsM.1 hc)) (by simpa using cellsM_length g) (List.replicate (W * H).toNat []) (by simp; omega) (fun d hd => by
    unfold rd_L1
    rw [List.getD_eq_getElem?_getD, List.getElem?_replicate]
    split <;> rfl) ((cellsM_sorted W H L).imp (fun h => by omega))
  rw [nearF_eq t] at this
  simpa using this
theorem graphOf_not {W H : Int} {L : List Int} {A B : Int} (t : ¬ Two W H L A B) (hl : L.length ≤ 1048576) : Ev (fun k => impl_graphOf.f k W H L A B) (([] : List Int), ([] : List (List Int)), false) := by
  unfold impl_graphOf.f
  refine Ev.bind (isBoard_ev W H L hl) ?_
  by_cases g : BoardM W H L
  · have l : ¬ Leap A B := fun l => t ⟨g, l⟩
    simp only [g, l, decide_true, decide_false, if_true, isLeaper_eq, Option.bind_some, Bool.not_false]
    exact graphOf_no
  · simp only [g, decide_false, Bool.false_eq_true, if_false]
    exact graphOf_no
end Go.Proofs.Ytmfbhhicioepjaa.H

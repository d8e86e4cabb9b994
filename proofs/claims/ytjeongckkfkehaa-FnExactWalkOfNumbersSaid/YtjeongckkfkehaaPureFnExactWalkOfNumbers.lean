/- WalkOfNumbers: the program, which ends at a number that comes twice, and the reference, which holds the walk against the numbers, tell the same; so the law's function answers true for all arguments. -/
import Derived.Test.YtjeongckkfkehaaStateFnExactWalkOfNumbers
import Derived.Test.YtjeongckkfkehaaHPath
import Derived.Test.YtjeongckkfkehaaHPig
import Derived.Test.YtjeongckkfkehaaHBfs
import Derived.Test.YtjeongckkfkehaaQ32
import Derived.Test.YtjeongckkfkehaaQ33
namespace Go.Proofs.Ytjeongckkfkehaa.Pure
open Go.RowKit Go.IntWalk Go.Proofs.Ytjeongckkfkehaa.Q Go.Proofs.Ytjeongckkfkehaa.H Go.Proofs.YtjeongckkfkehaaW.PrintWords Go.Proofs.YtjeongckkfkehaaW.PrintMore
set_option linter.unusedVariables false
set_option linter.unusedSimpArgs false
def posN (s : List Int) : Nat := s.countP fun x => decide (0 < x)
def fillM : Nat → List Int → List Int → List Int
  | _, [], p => p
  | i, x :: r, p => fillM (i + 1) r (if 0 < x then p.set (x - 1).toNat (i : Int) else p)
def chk (s : List Int) : Nat → List Int → Bool
  | _, [] => true
  | i, c :: r => decide (rd s c = (i : Int) + 1) && chk s (i + 1) r
def okR (many : Nat) : List Int → List Int → Bool
  | _, [] => true
  | seen, x :: r => if x = 0 then okR many seen r else if (many : Int) < x then false else if seen.contains x = true then false else okR many (x :: seen) r
theorem posN_cons (x : Int) (r : List Int) : posN (x :: r) = posN r + if 0 < x then 1 else 0 := by
  unfold posN
  rw [List.countP_cons]
  by_cases h : 0 < x <;> simp [h]
theorem posN_le (s : List Int) : posN s ≤ s.length := List.countP_le_length
theorem fillM_len (r : List Int) : ∀ i p, (fillM i r p).length = p.length := by
  induction r with
  | nil => intro i p; rfl
  | cons x r ih => intro i p; rw [fillM, ih]; split <;> simp
theorem fill_put (i : Nat) (x : Int) (p : List Int) (hx : 0 ≤ x ∧ x ≤ (p.length : Int)) (j : Nat) : rd (if 0 < x then p.set (x - 1).toNat (i : Int) else p) (j : Int) = if (j : Int) + 1 = x then (i : Int) else rd p (j : Int) := by
  by_cases h : 0 < x
  · rw [if_pos h, rd_put p (x - 1) _ (j : Int) (by omega) (by omega)]
    by_cases h2 : (j : Int) + 1 = x
    · rw [if_pos h2, if_pos (by omega)]
    · rw [if_neg h2, if_neg (by omega)]
  · rw [if_neg h, if_neg (by omega)]
theorem fill_agree (r : List Int) : ∀ (i : Nat) (p q : List Int), p.length = q.length → (∀ x ∈ r, 0 ≤ x ∧ x ≤ (p.length : Int)) → ∀ j : Nat, j < p.length → ((j : Int) + 1 ∈ r ∨ rd p (j : Int) = rd q (j : Int)) → rd (fillM i r p) (j : Int) = rd (fillM i r q) (j : Int) := by
  induction r with
  | nil => intro i p q _ _ j _ h; rcases h with h | h; · cases h
           · exact h
  | cons x r ih =>
    intro i p q hl hx j hj h
    have hx0 := hx x (by simp)
    rw [fillM, fillM]
    have l1 : (if 0 < x then p.set (x - 1).toNat (i : Int) else p).length = p.length := by split <;> simp
    have l2 : (if 0 < x then q.set (x - 1).toNat (i : Int) else q).length = q.length := by split <;> simp
    refine ih (i + 1) _ _ (by rw [l1, l2, hl]) (fun y hy => by rw [l1]; exact hx y (by simp [hy])) j (by rw [l1]; exact hj) ?_
    rw [fill_put i x p hx0 j, fill_put i x q (by omega) j]
    by_cases h2 : (j : Int) + 1 = x
    · exact .inr (by rw [if_pos h2, if_pos h2])
    · rcases h with h | h
      · rcases List.mem_cons.1 h with h | h
        · exact absurd h h2
        · exact .inl h
      · exact .inr (by rw [if_neg h2, if_neg h2, h])
theorem fill_right (s : List Int) (r : List Int) : ∀ (pre p : List Int), pre ++ r = s → (∀ x ∈ r, 0 ≤ x ∧ x ≤ (p.length : Int)) → ∀ j : Nat, j < p.length → ((j : Int) + 1 ∈ r ∨ rd s (rd p (j : Int)) = (j : Int) + 1) → rd s (rd (fillM pre.length r p) (j : Int)) = (j : Int) + 1 := by
  induction r with
  | nil => intro pre p _ _ j _ h; rcases h with h | h; · cases h
           · exact h
  | cons x r ih =>
    intro pre p hs hx j hj h
    have hx0 := hx x (by simp)
    rw [fillM]
    have l1 : (if 0 < x then p.set (x - 1).toNat (pre.length : Int) else p).length = p.length := by split <;> simp
    have := ih (pre ++ [x]) (if 0 < x then p.set (x - 1).toNat (pre.length : Int) else p) (by simpa using hs) (fun y hy => by rw [l1]; exact hx y (by simp [hy])) j (by rw [l1]; exact hj) ?_
    · simpa using this
    · rw [fill_put pre.length x p hx0 j]
      by_cases h2 : (j : Int) + 1 = x
      · refine .inr ?_
        rw [if_pos h2, ← hs, rd_mid, h2]
      · rw [if_neg h2]
        rcases h with h | h
        · rcases List.mem_cons.1 h with h | h
          · exact absurd h h2
          · exact .inl h
        · exact .inr h
theorem fill_range (n : Nat) (r : List Int) : ∀ (i : Nat) (p : List Int), i + r.length ≤ n → (∀ x ∈ r, 0 ≤ x ∧ x ≤ (p.length : Int)) → (∀ j : Nat, j < p.length → 0 ≤ rd p (j : Int) ∧ rd p (j : Int) < n) → ∀ j : Nat, j < p.length → 0 ≤ rd (fillM i r p) (j : Int) ∧ rd (fillM i r p) (j : Int) < n := by
  induction r with
  | nil => intro i p _ _ h; exact h
  | cons x r ih =>
    intro i p hn hx h j hj
    have hx0 := hx x (by simp)
    rw [fillM]
    have l1 : (if 0 < x then p.set (x - 1).toNat (i : Int) else p).length = p.length := by split <;> simp
    refine ih (i + 1) _ (by simp at hn; omega) (fun y hy => by rw [l1]; exact hx y (by simp [hy])) (fun j hj => ?_) j (by rw [l1]; exact hj)
    rw [fill_put i x p hx0 j]
    rw [l1] at hj
    split
    · simp at hn; omega
    · exact h j hj
theorem chk_iff (s : List Int) (c : List Int) : ∀ i : Nat, chk s i c = true ↔ ∀ j : Nat, j < c.length → rd s (rd c (j : Int)) = (i : Int) + (j : Int) + 1 := by
  induction c with
  | nil => intro i; simp [chk]
  | cons x r ih =>
    intro i
    rw [chk, Bool.and_eq_true, decide_eq_true_eq, ih]
    have e : ∀ j : Nat, rd (x :: r) ((j + 1 : Nat) : Int) = rd r (j : Int) := fun j => by
      unfold rd
      rw [show (((j + 1 : Nat) : Int)).toNat = j + 1 by omega, show ((j : Int)).toNat = j by omega]
      simp [List.getD_eq_getElem?_getD]
    have e0 : rd (x :: r) ((0 : Nat) : Int) = x := rfl
    constructor
    · rintro ⟨h1, h2⟩ j hj
      cases j with
      | zero => rw [e0, h1]; omega
      | succ j => rw [e, h2 j (by simpa using hj)]; omega
    · intro h
      refine ⟨?_, fun j hj => ?_⟩
      · have := h 0 (by simp); rw [e0] at this; omega
      · have := h (j + 1) (by simpa using hj); rw [e] at this; omega
theorem okR_iff (many : Nat) (r : List Int) : ∀ seen : List Int, (∀ y, seen.count y ≤ 1) → (∀ x ∈ r, 0 ≤ x) → (okR many seen r = true ↔ (∀ x ∈ r, x ≤ (many : Int)) ∧ ∀ y : Int, 0 < y → seen.count y + r.count y ≤ 1) := by
  induction r with
  | nil => intro seen h1 _; simp only [okR, true_iff]; exact ⟨fun x hx => (by cases hx), fun y _ => by simpa using h1 y⟩
  | cons x r ih =>
    intro seen h1 h2
    have hx := h2 x (by simp)
    rw [okR]
    by_cases c0 : x = 0
    · rw [if_pos c0, ih seen h1 (fun y hy => h2 y (by simp [hy]))]
      have e : ∀ y : Int, 0 < y → (x :: r).count y = r.count y := fun y hy => by
        rw [List.count_cons, if_neg (by simpa using (by omega : ¬ x = y))]; omega
      constructor
      · rintro ⟨a, b⟩
        refine ⟨fun z hz => ?_, fun y hy => by rw [e y hy]; exact b y hy⟩
        rcases List.mem_cons.1 hz with rfl | hz
        · omega
        · exact a z hz
      · rintro ⟨a, b⟩
        exact ⟨fun z hz => a z (by simp [hz]), fun y hy => by rw [← e y hy]; exact b y hy⟩
    · rw [if_neg c0]
      by_cases c1 : (many : Int) < x
      · rw [if_pos c1]
        constructor
        · intro h; cases h
        · rintro ⟨a, _⟩; have := a x (by simp); omega
      · rw [if_neg c1]
        rcases Bool.eq_false_or_eq_true (seen.contains x) with hc | hc
        · rw [if_pos hc]
          constructor
          · intro h; cases h
          · rintro ⟨_, b⟩
            have h3 := b x (by omega)
            have h4 : 1 ≤ seen.count x := List.count_pos_iff.2 (by simpa using hc)
            have h5 : 1 ≤ (x :: r).count x := List.count_pos_iff.2 (by simp)
            omega
        · have hn : ¬ seen.contains x = true := by rw [hc]; simp
          have h0 : seen.count x = 0 := List.count_eq_zero.2 (by simpa using hc)
          rw [if_neg hn, ih (x :: seen) (fun y => by
            rw [List.count_cons]
            have := h1 y
            split
            · rename_i h; have h' : x = y := by simpa using h
              subst h'; omega
            · omega) (fun y hy => h2 y (by simp [hy]))]
          have e : ∀ y : Int, (x :: seen).count y + r.count y = seen.count y + (x :: r).count y := fun y => by
            rw [List.count_cons, List.count_cons]; omega
          constructor
          · rintro ⟨a, b⟩
            refine ⟨fun z hz => ?_, fun y hy => by rw [← e y]; exact b y hy⟩
            rcases List.mem_cons.1 hz with rfl | hz
            · omega
            · exact a z hz
          · rintro ⟨a, b⟩
            exact ⟨fun z hz => a z (by simp [hz]), fun y hy => by rw [e y]; exact b y hy⟩
theorem posN_sum (s : List Int) (m : Nat) (h : ∀ x ∈ s, x ≤ (m : Int)) : sumTo (fun j => s.count ((j : Int) + 1)) m = posN s := by
  rw [sumTo_count 1 s m]
  unfold posN
  refine List.countP_congr fun x hx => ?_
  have := h x hx
  simp only [Bool.and_eq_true, decide_eq_true_eq]
  omega
theorem rd_eq_of {p q : List Int} (hl : p.length = q.length) (h : ∀ j : Nat, j < p.length → rd p (j : Int) = rd q (j : Int)) : p = q := by
  refine List.ext_getElem hl fun j h1 h2 => ?_
  have := h j h1
  rwa [rd_nat p j h1, rd_nat q j h2] at this
theorem rd_rep (n : Nat) (v : Int) (j : Nat) (h : j < n) : rd (List.replicate n v) (j : Int) = v := by
  rw [rd_nat _ j (by simpa using h)]; simp
/-- The two ways to see that each number stands once. -/
theorem both_ways (s : List Int) (N : Nat) (hN : s.length = N) (hN1 : 1 ≤ N) (h0 : ∀ x ∈ s, 0 ≤ x) (hle : ∀ x ∈ s, x ≤ (posN s : Int)) :
    (okR (posN s) [] s = chk s 0 (fillM 0 s (List.replicate (posN s) 0))) ∧ (okR (posN s) [] s = true → fillM 0 s (List.replicate (posN s) 0) = fillM 0 s (List.replicate (posN s) (-1))) := by
  have hrng : ∀ (v : Int), ∀ x ∈ s, 0 ≤ x ∧ x ≤ ((List.replicate (posN s) v).length : Int) := fun v x hx => by
    simpa using ⟨h0 x hx, hle x hx⟩
  have hok := okR_iff (posN s) s [] (fun y => by simp) h0
  have hsum := posN_sum s (posN s) hle
  have full : okR (posN s) [] s = true → ∀ j : Nat, j < posN s → (j : Int) + 1 ∈ s := fun h j hj => by
    have h1 := (hok.1 h).2
    have := sumTo_full (f := fun j => s.count ((j : Int) + 1)) (posN s) (fun j _ => by simpa using h1 ((j : Int) + 1) (by omega)) hsum j hj
    exact List.count_pos_iff.1 this
  refine ⟨?_, fun h => rd_eq_of (by rw [fillM_len, fillM_len]; simp) fun j hj => ?_⟩
  · rw [Bool.eq_iff_iff, chk_iff]
    rw [fillM_len]
    simp only [List.length_replicate]
    constructor
    · intro h j hj
      have := fill_right s s [] (List.replicate (posN s) 0) rfl (hrng 0) j (by simpa using hj) (.inl (full h j hj))
      simp only [List.length_nil] at this
      rw [this]; omega
    · intro h
      refine hok.2 ⟨hle, fun y hy => ?_⟩
      rw [List.count_nil, Nat.zero_add]
      by_cases hy2 : y ≤ (posN s : Int)
      · have hone : ∀ j : Nat, j < posN s → 1 ≤ s.count ((j : Int) + 1) := fun j hj => by
          have h1 := h j hj
          have h2 := fill_range N s 0 (List.replicate (posN s) 0) (by omega) (hrng 0) (fun j hj => by rw [rd_rep _ _ _ (by simpa using hj)]; omega) j (by simpa using hj)
          refine List.count_pos_iff.2 ?_
          have h3 : (j : Int) + 1 = rd s (((rd (fillM 0 s (List.replicate (posN s) 0)) (j : Int)).toNat : Nat) : Int) := by
            rw [show (((rd (fillM 0 s (List.replicate (posN s) 0)) (j : Int)).toNat : Nat) : Int) = rd (fillM 0 s (List.replicate (posN s) 0)) (j : Int) by omega, h1]; omega
          rw [h3, rd_nat s _ (by omega)]
          exact List.getElem_mem _
        have h6 : s.count ((((y - 1).toNat : Nat) : Int) + 1) ≤ 1 := sumTo_once (f := fun j => s.count ((j : Int) + 1)) (posN s) hone hsum (y - 1).toNat (by omega)
        rwa [show (((y - 1).toNat : Nat) : Int) + 1 = y by omega] at h6
      · have : s.count y = 0 := List.count_eq_zero.2 fun hm => hy2 (hle y hm)
        omega
  · rw [fillM_len] at hj
    exact fill_agree s 0 _ _ (by simp) (hrng 0) j hj (.inl (full h j (by simpa using hj)))
section
variable {W H : Int} {L : List Int} {A B : Int}
theorem spec_l0 (s : List Int) (R : List Int × Bool) (rest pre : List Int) (hp : (pre ++ rest).length ≤ 64) : ∀ n : Nat, n ≤ pre.length →
    Ev (fun k => spec_WalkOfNumbers.l1 k s ((n + posN rest : Nat) : Int) (List.replicate (n + posN rest) 0) s (s.length : Int) 0 W H L A B) R →
    Ev (fun k => spec_WalkOfNumbers.l0 k s (n : Int) (pre ++ rest) ((pre ++ rest).length : Int) (pre.length : Int) W H L A B) R := by
  induction rest generalizing pre with
  | nil =>
    intro n hn hR
    refine Ev.step (fun k => by rw [spec_WalkOfNumbers.l0]) ?_
    have e : posN [] = 0 := rfl
    rw [e, Nat.add_zero] at hR
    have h1 : (0 : Int) ≤ (n : Int) := by omega
    have h2 : ((n : Int)).toNat = n := by omega
    have h3 : n ≤ 35184372088832 := by simp at hp; omega
    simp only [List.append_nil, nlt_end, if_false, h1, h2, h3, if_true]
    exact hR
  | cons x r ih =>
    intro n hn hR
    refine Ev.step (fun k => by rw [spec_WalkOfNumbers.l0]) ?_
    have h0 : (0 : Int) ≤ (pre.length : Int) := by omega
    have h5 : pre.length ≤ 64 := by simp at hp; omega
    rw [posN_cons] at hR
    simp only [lt_mid pre x r, h0, if_true, rd_mid, w_succ (show pre.length ≤ 4611686018427387904 by omega), w_succ (show n ≤ 4611686018427387904 by omega)]
    by_cases c : x > 0
    · have c' : 0 < x := c
      rw [if_pos c', show n + (posN r + 1) = n + 1 + posN r by omega] at hR
      simp only [c, if_true]
      have := ih (pre ++ [x]) (by simpa using hp) (n + 1) (by simp; omega) hR
      simpa using this
    · have c' : ¬ 0 < x := c
      rw [if_neg c', Nat.add_zero] at hR
      simp only [c, if_false]
      have := ih (pre ++ [x]) (by simpa using hp) n (by simp; omega) hR
      simpa using this
theorem spec_l1_no (s : List Int) (many : Nat) (rest pre : List Int) (hp : (pre ++ rest).length ≤ 64) (h0 : ∀ x ∈ rest, 0 ≤ x ∧ x ≤ 64) (hbad : ∃ x ∈ rest, (many : Int) < x) : ∀ p : List Int, p.length = many →
    Ev (fun k => spec_WalkOfNumbers.l1 k s (many : Int) p (pre ++ rest) ((pre ++ rest).length : Int) (pre.length : Int) W H L A B) ([], false) := by
  induction rest generalizing pre with
  | nil => obtain ⟨x, hx, _⟩ := hbad; cases hx
  | cons x r ih =>
    intro p hpl
    refine Ev.step (fun k => by rw [spec_WalkOfNumbers.l1]) ?_
    have hz : (0 : Int) ≤ (pre.length : Int) := by omega
    have h5 : pre.length ≤ 64 := by simp at hp; omega
    have hx := h0 x (by simp)
    have w : wrap64 (x - 1) = x - 1 := wrap64_in _ (by omega)
    simp only [lt_mid pre x r, hz, if_true, rd_mid, w, w_succ (show pre.length ≤ 4611686018427387904 by omega)]
    by_cases c1 : x > (many : Int)
    · simp only [c1, if_true]; exact Ev.now _
    · have hbad' : ∃ y ∈ r, (many : Int) < y := by
        obtain ⟨y, hy, hy2⟩ := hbad
        rcases List.mem_cons.1 hy with rfl | hy
        · omega
        · exact ⟨y, hy, hy2⟩
      simp only [c1, if_false]
      by_cases c2 : x > 0
      · have h6 : 0 ≤ x - 1 := by omega
        have h7 : x - 1 < (p.length : Int) := by omega
        simp only [c2, h6, h7, if_true]
        have := ih (pre ++ [x]) (by simpa using hp) (fun y hy => h0 y (by simp [hy])) hbad' (p.set (x - 1).toNat (pre.length : Int)) (by simpa using hpl)
        simpa using this
      · simp only [c2, if_false]
        have := ih (pre ++ [x]) (by simpa using hp) (fun y hy => h0 y (by simp [hy])) hbad' p hpl
        simpa using this
theorem spec_l1_yes (s : List Int) (many : Nat) (R : List Int × Bool) (rest pre : List Int) (hp : (pre ++ rest).length ≤ 64) (h0 : ∀ x ∈ rest, 0 ≤ x ∧ x ≤ (many : Int)) (hm : many ≤ 64) : ∀ p : List Int, p.length = many →
    Ev (fun k => spec_WalkOfNumbers.l2 k s (fillM pre.length rest p) (fillM pre.length rest p) ((fillM pre.length rest p).length : Int) 0 W H L A B) R →
    Ev (fun k => spec_WalkOfNumbers.l1 k s (many : Int) p (pre ++ rest) ((pre ++ rest).length : Int) (pre.length : Int) W H L A B) R := by
  induction rest generalizing pre with
  | nil =>
    intro p hpl hR
    refine Ev.step (fun k => by rw [spec_WalkOfNumbers.l1]) ?_
    simp only [List.append_nil, nlt_end, if_false]
    exact hR
  | cons x r ih =>
    intro p hpl hR
    refine Ev.step (fun k => by rw [spec_WalkOfNumbers.l1]) ?_
    have hz : (0 : Int) ≤ (pre.length : Int) := by omega
    have h5 : pre.length ≤ 64 := by simp at hp; omega
    have hx := h0 x (by simp)
    have w : wrap64 (x - 1) = x - 1 := wrap64_in _ (by omega)
    have c1 : ¬ x > (many : Int) := by omega
    rw [fillM] at hR
    simp only [lt_mid pre x r, hz, if_true, rd_mid, w, w_succ (show pre.length ≤ 4611686018427387904 by omega), c1, if_false]
    by_cases c2 : x > 0
    · have c2' : 0 < x := c2
      have h6 : 0 ≤ x - 1 := by omega
      have h7 : x - 1 < (p.length : Int) := by omega
      rw [if_pos c2'] at hR
      simp only [c2, h6, h7, if_true]
      have := ih (pre ++ [x]) (by simpa using hp) (fun y hy => h0 y (by simp [hy])) (p.set (x - 1).toNat (pre.length : Int)) (by simpa using hpl) (by simpa using hR)
      simpa using this
    · have c2' : ¬ 0 < x := c2
      rw [if_neg c2'] at hR
      simp only [c2, if_false]
      have := ih (pre ++ [x]) (by simpa using hp) (fun y hy => h0 y (by simp [hy])) p hpl (by simpa using hR)
      simpa using this
def told (W H : Int) (L : List Int) (A B : Int) (p : List Int) : List Int × Bool := if walkB W H L A B p = true then (p, true) else ([], false)
theorem spec_l2 (g : BoardM W H L) (hl : L.length ≤ 1048576) (s p : List Int) (rest pre : List Int) (hp : (pre ++ rest).length ≤ 64) (h0 : ∀ c ∈ rest, 0 ≤ c ∧ c < (s.length : Int)) :
    Ev (fun k => spec_WalkOfNumbers.l2 k s p (pre ++ rest) ((pre ++ rest).length : Int) (pre.length : Int) W H L A B) (if chk s pre.length rest = true then told W H L A B p else ([], false)) := by
  induction rest generalizing pre with
  | nil =>
    refine Ev.step (fun k => by rw [spec_WalkOfNumbers.l2]) ?_
    simp only [List.append_nil, nlt_end, if_false, chk, if_true]
    refine Ev.bind (toWalk_ev g hl A B p) ?_
    unfold told
    rcases Bool.eq_false_or_eq_true (walkB W H L A B p) with h | h
    · simp only [h, if_true]; exact Ev.now _
    · simp only [h, Bool.false_eq_true, if_false]; exact Ev.now _
  | cons c r ih =>
    refine Ev.step (fun k => by rw [spec_WalkOfNumbers.l2]) ?_
    have hz : (0 : Int) ≤ (pre.length : Int) := by omega
    have h5 : pre.length ≤ 64 := by simp at hp; omega
    have hc := h0 c (by simp)
    simp only [lt_mid pre c r, hz, if_true, rd_mid, hc.1, hc.2, w_succ (show pre.length ≤ 4611686018427387904 by omega), chk]
    by_cases c1 : rd s c = ((pre.length + 1 : Nat) : Int)
    · have c2 : decide (rd s c = (pre.length : Int) + 1) = true := by simp; omega
      simp only [c2, Bool.true_and]
      simp only [c1, if_true]
      have := ih (pre ++ [c]) (by simpa using hp) (fun y hy => h0 y (by simp [hy]))
      simpa using this
    · have c2 : decide (rd s c = (pre.length : Int) + 1) = false := by simp; omega
      simp only [c1, c2, if_false, Bool.false_and, Bool.false_eq_true]
      exact Ev.now _
theorem impl_no {s : List Int} {m x : Int} {xs : List Int} {n i : Int} {cs : List Int} {nr : List (List Int)} : Ev (fun k => impl_WalkOfNumbers.j1 k s m x xs n i true W H L A B cs nr) (([] : List Int), false) := by
  refine Ev.step (fun k => by rw [impl_WalkOfNumbers.j1]) ?_
  simp only [if_true]
  exact Ev.now _
theorem impl_l0_no (s : List Int) (cs : List Int) (nr : List (List Int)) (rest pre : List Int) (hp : (pre ++ rest).length ≤ 64) (hbad : ∃ x ∈ rest, ¬ (0 ≤ x ∧ x ≤ (s.length : Int))) : ∀ n : Nat, n ≤ pre.length →
    Ev (fun k => impl_WalkOfNumbers.l0 k s (n : Int) (pre ++ rest) ((pre ++ rest).length : Int) (pre.length : Int) W H L A B cs nr) ([], false) := by
  induction rest generalizing pre with
  | nil => obtain ⟨x, hx, _⟩ := hbad; cases hx
  | cons x r ih =>
    intro n hn
    refine Ev.step (fun k => by rw [impl_WalkOfNumbers.l0]) ?_
    have hz : (0 : Int) ≤ (pre.length : Int) := by omega
    have h5 : pre.length ≤ 64 := by simp at hp; omega
    simp only [lt_mid pre x r, hz, if_true, rd_mid]
    by_cases c1 : x < 0
    · simp only [c1, if_true]; exact impl_no
    · simp only [c1, if_false]
      by_cases c2 : x > (s.length : Int)
      · simp only [c2, decide_true]; exact impl_no
      · have hbad' : ∃ y ∈ r, ¬ (0 ≤ y ∧ y ≤ (s.length : Int)) := by
          obtain ⟨y, hy, hy2⟩ := hbad
          rcases List.mem_cons.1 hy with rfl | hy
          · exact absurd ⟨by omega, by omega⟩ hy2
          · exact ⟨y, hy, hy2⟩
        simp only [c2, decide_false]
        refine Ev.step (fun k => by rw [impl_WalkOfNumbers.j1]) ?_
        simp only [Bool.false_eq_true, if_false, w_succ (show pre.length ≤ 4611686018427387904 by omega), w_succ (show n ≤ 4611686018427387904 by omega)]
        by_cases c3 : x > 0
        · simp only [c3, if_true]
          have := ih (pre ++ [x]) (by simpa using hp) hbad' (n + 1) (by simp; omega)
          simpa using this
        · simp only [c3, if_false]
          have := ih (pre ++ [x]) (by simpa using hp) hbad' n (by simp; omega)
          simpa using this
theorem impl_l0_yes (s : List Int) (cs : List Int) (nr : List (List Int)) (R : List Int × Bool) (rest pre : List Int) (hp : (pre ++ rest).length ≤ 64) (h0 : ∀ x ∈ rest, 0 ≤ x ∧ x ≤ (s.length : Int)) : ∀ n : Nat, n ≤ pre.length →
    Ev (fun k => impl_WalkOfNumbers.l1 k s ((n + posN rest : Nat) : Int) (List.replicate (n + posN rest) 0) ((n + posN rest : Nat) : Int) 0 W H L A B cs nr) R →
    Ev (fun k => impl_WalkOfNumbers.l0 k s (n : Int) (pre ++ rest) ((pre ++ rest).length : Int) (pre.length : Int) W H L A B cs nr) R := by
  induction rest generalizing pre with
  | nil =>
    intro n hn hR
    refine Ev.step (fun k => by rw [impl_WalkOfNumbers.l0]) ?_
    have e : posN [] = 0 := rfl
    rw [e, Nat.add_zero] at hR
    have h1 : (0 : Int) ≤ (n : Int) := by omega
    have h2 : ((n : Int)).toNat = n := by omega
    have h3 : n ≤ 35184372088832 := by simp at hp; omega
    simp only [List.append_nil, nlt_end, if_false, h1, h2, h3, if_true, Option.bind_some, List.length_replicate]
    exact hR
  | cons x r ih =>
    intro n hn hR
    refine Ev.step (fun k => by rw [impl_WalkOfNumbers.l0]) ?_
    have hz : (0 : Int) ≤ (pre.length : Int) := by omega
    have h5 : pre.length ≤ 64 := by simp at hp; omega
    have hx := h0 x (by simp)
    have c1 : ¬ x < 0 := by omega
    have c2 : ¬ x > (s.length : Int) := by omega
    rw [posN_cons] at hR
    simp only [lt_mid pre x r, hz, if_true, rd_mid, c1, c2, if_false, decide_false]
    refine Ev.step (fun k => by rw [impl_WalkOfNumbers.j1]) ?_
    simp only [Bool.false_eq_true, if_false, w_succ (show pre.length ≤ 4611686018427387904 by omega), w_succ (show n ≤ 4611686018427387904 by omega)]
    by_cases c3 : x > 0
    · have c' : 0 < x := c3
      rw [if_pos c', show n + (posN r + 1) = n + 1 + posN r by omega] at hR
      simp only [c3, if_true]
      have := ih (pre ++ [x]) (by simpa using hp) (fun y hy => h0 y (by simp [hy])) (n + 1) (by simp; omega) hR
      simpa using this
    · have c' : ¬ 0 < x := c3
      rw [if_neg c', Nat.add_zero] at hR
      simp only [c3, if_false]
      have := ih (pre ++ [x]) (by simpa using hp) (fun y hy => h0 y (by simp [hy])) n (by simp; omega) hR
      simpa using this
theorem fill_neg (pre rest : Nat) : (List.replicate pre (-1 : Int) ++ List.replicate (rest + 1) (0 : Int)).set ((pre : Int)).toNat (-1) = List.replicate (pre + 1) (-1 : Int) ++ List.replicate rest (0 : Int) := by
  have e : ((pre : Int)).toNat = pre := by omega
  rw [e, List.set_append_right _ _ (by simp)]
  simp only [List.length_replicate, Nat.sub_self, List.replicate_succ, List.set_cons_zero]
  rw [← List.replicate_succ, List.replicate_succ', List.append_assoc]
  rfl
theorem impl_l1 (s : List Int) (many : Nat) (hm : many ≤ 64) (cs : List Int) (nr : List (List Int)) (R : List Int × Bool)
    (hR : Ev (fun k => impl_WalkOfNumbers.l2 k (many : Int) (List.replicate many (-1)) s (s.length : Int) 0 W H L A B cs nr) R) : ∀ rest pre : Nat, pre + rest = many →
    Ev (fun k => impl_WalkOfNumbers.l1 k s (many : Int) (List.replicate pre (-1) ++ List.replicate rest 0) (many : Int) (pre : Int) W H L A B cs nr) R := by
  intro rest
  induction rest with
  | zero =>
    intro pre h1
    refine Ev.step (fun k => by rw [impl_WalkOfNumbers.l1]) ?_
    have h3 : ¬ ((pre : Int) < (many : Int)) := by omega
    obtain rfl : pre = many := by omega
    simp only [h3, if_false, List.replicate_zero, List.append_nil]
    exact hR
  | succ rest ih =>
    intro pre h1
    refine Ev.step (fun k => by rw [impl_WalkOfNumbers.l1]) ?_
    have h3 : (pre : Int) < (many : Int) := by omega
    have h4 : (0 : Int) ≤ (pre : Int) := by omega
    have h5 : (pre : Int) < ((List.replicate pre (-1 : Int) ++ List.replicate (rest + 1) (0 : Int)).length : Int) := by simp; omega
    simp only [h3, h4, h5, if_true, fill_neg, w_succ (show pre ≤ 4611686018427387904 by omega)]
    exact ih (pre + 1) (by omega)
theorem impl_l2 (g : BoardM W H L) (hl : L.length ≤ 1048576) (many : Nat) (hm : many ≤ 64) (rest pre : List Int) (hp : (pre ++ rest).length ≤ 64) (h0 : ∀ x ∈ rest, 0 ≤ x ∧ x ≤ 64) : ∀ (seen q : List Int), q.length = many → (∀ j : Nat, j < many → (0 ≤ rd q (j : Int) ↔ (j : Int) + 1 ∈ seen)) →
    Ev (fun k => impl_WalkOfNumbers.l2 k (many : Int) q (pre ++ rest) ((pre ++ rest).length : Int) (pre.length : Int) W H L A B (cellsM W H L) (nearM W H L A B)) (if okR many seen rest = true then told W H L A B (fillM pre.length rest q) else ([], false)) := by
  induction rest generalizing pre with
  | nil =>
    intro seen q hq hi
    refine Ev.step (fun k => by rw [impl_WalkOfNumbers.l2]) ?_
    simp only [List.append_nil, nlt_end, if_false, okR, if_true, fillM]
    refine Ev.bind (isWalk_ev g hl A B q) ?_
    unfold told
    rcases Bool.eq_false_or_eq_true (walkB W H L A B q) with h | h
    · simp only [h, if_true]; exact Ev.now _
    · simp only [h, Bool.false_eq_true, if_false]; exact Ev.now _
  | cons x r ih =>
    intro seen q hq hi
    refine Ev.step (fun k => by rw [impl_WalkOfNumbers.l2]) ?_
    have hz : (0 : Int) ≤ (pre.length : Int) := by omega
    have h5 : pre.length ≤ 64 := by simp at hp; omega
    have hx := h0 x (by simp)
    have w : wrap64 (x - 1) = x - 1 := wrap64_in _ (by omega)
    simp only [lt_mid pre x r, hz, if_true, rd_mid, w, w_succ (show pre.length ≤ 4611686018427387904 by omega), okR, fillM]
    by_cases c0 : x = 0
    · have c' : ¬ 0 < x := by omega
      rw [if_neg c']
      simp only [c0, if_true]
      have := ih (pre ++ [x]) (by simpa using hp) (fun y hy => h0 y (by simp [hy])) seen q hq hi
      simpa [c0] using this
    · simp only [c0, if_false]
      by_cases c1 : (many : Int) < x
      · have c1' : x > (many : Int) := c1
        simp only [c1, c1', if_true, Bool.false_eq_true, if_false]
        exact Ev.now _
      · have c1' : ¬ x > (many : Int) := c1
        have h6 : 0 ≤ x - 1 := by omega
        have h7 : x - 1 < (q.length : Int) := by omega
        have c' : 0 < x := by omega
        have hj := hi (x - 1).toNat (by omega)
        rw [show (((x - 1).toNat : Nat) : Int) = x - 1 by omega, show x - 1 + 1 = x by omega] at hj
        rw [if_pos c']
        simp only [c1, c1', h6, h7, if_false, if_true]
        rcases Bool.eq_false_or_eq_true (seen.contains x) with hc | hc
        · have c3 : rd q (x - 1) ≥ 0 := hj.2 (by simpa using hc)
          simp only [hc, c3, if_true, Bool.false_eq_true, if_false]
          exact Ev.now _
        · have hnm : ¬ x ∈ seen := by simpa using hc
          have c3 : ¬ rd q (x - 1) ≥ 0 := fun h => hnm (hj.1 h)
          simp only [hc, c3, Bool.false_eq_true, if_false]
          have := ih (pre ++ [x]) (by simpa using hp) (fun y hy => h0 y (by simp [hy])) (x :: seen) (q.set (x - 1).toNat (pre.length : Int)) (by simpa using hq) (fun j hjm => by
            rw [rd_put q (x - 1) _ (j : Int) ⟨h6, h7⟩ (by omega)]
            by_cases h8 : (j : Int) = x - 1
            · rw [if_pos h8]
              exact ⟨fun _ => by simp; omega, fun _ => hz⟩
            · rw [if_neg h8, hi j hjm]
              constructor
              · intro h; simp [h]
              · intro h
                rcases List.mem_cons.1 h with h | h
                · omega
                · exact h)
          simpa using this
end
theorem walkOfNumbers_both (W H : Int) (L : List Int) (A B : Int) (s : List Int) (hl : L.length ≤ 1048576) (hs : s.length ≤ 1048576) : ∃ (r : List Int) (b : Bool), r.length ≤ 1048576 ∧ Ev (fun k => spec_WalkOfNumbers.f k W H L A B s) (r, b) ∧ Ev (fun k => impl_WalkOfNumbers.f k W H L A B s) (r, b) := by
  have noS : Ev (fun k => spec_WalkOfNumbers.j0 k s true W H L A B) (([] : List Int), false) := by
    refine Ev.step (fun k => by rw [spec_WalkOfNumbers.j0]) ?_
    simp only [if_true]
    exact Ev.now _
  by_cases t : Two W H L A B
  · have g := t.1
    have ha := g.area
    by_cases c : (s.length : Int) = W * H
    · have hp : s.length ≤ 64 := by omega
      have hall := l1All_ev s 0 (s.length : Int) (by omega)
      by_cases hin : ∀ x ∈ s, 0 ≤ x ∧ x ≤ (s.length : Int)
      · have e1 : (s.all fun n => decide (0 ≤ n) && decide (n ≤ (s.length : Int))) = true := by
          rw [List.all_eq_true]; intro x hx; have := hin x hx; simp; omega
        rw [e1] at hall
        have hpos := posN_le s
        have h64 : ∀ x ∈ s, 0 ≤ x ∧ x ≤ 64 := fun x hx => by have := hin x hx; omega
        have impl_ : Ev (fun k => impl_WalkOfNumbers.f k W H L A B s) (if okR (posN s) [] s = true then told W H L A B (fillM 0 s (List.replicate (posN s) (-1))) else ([], false)) := by
          unfold impl_WalkOfNumbers.f
          refine Ev.bind (graphOf_two t hl) ?_
          simp only [if_true, g.wrapArea, c]
          have h2 := impl_l2 (A := A) (B := B) g hl (posN s) (by omega) s [] (by simpa using hp) h64 [] (List.replicate (posN s) (-1)) (by simp) (fun j hj => by rw [rd_rep _ _ _ hj]; simp)
          have h1 := impl_l1 (W := W) (H := H) (L := L) (A := A) (B := B) s (posN s) (by omega) (cellsM W H L) (nearM W H L A B) _ (by simpa using h2) (posN s) 0 (by omega)
          have h0 := impl_l0_yes (W := W) (H := H) (L := L) (A := A) (B := B) s (cellsM W H L) (nearM W H L A B) _ s [] (by simpa using hp) hin 0 (by simp) (by simpa using h1)
          simpa [c] using h0
        have spec_ : ∀ R, Ev (fun k => spec_WalkOfNumbers.l1 k s ((posN s : Nat) : Int) (List.replicate (posN s) 0) s (s.length : Int) 0 W H L A B) R → Ev (fun k => spec_WalkOfNumbers.f k W H L A B s) R := by
          intro R hR
          unfold spec_WalkOfNumbers.f
          refine Ev.bind (two_yes t hl) ?_
          simp only [if_true, g.wrapArea, c]
          rw [c] at hall
          refine Ev.bind hall ?_
          simp only [Bool.not_true]
          refine Ev.step (fun k => by rw [spec_WalkOfNumbers.j0]) ?_
          simp only [Bool.false_eq_true, if_false]
          have := spec_l0 (W := W) (H := H) (L := L) (A := A) (B := B) s R s [] (by simpa using hp) 0 (by simp) (by simpa using hR)
          simpa using this
        by_cases hle : ∀ x ∈ s, x ≤ (posN s : Int)
        · obtain ⟨e, f⟩ := both_ways s s.length rfl (by omega) (fun x hx => (hin x hx).1) hle
          have hrng : ∀ x ∈ s, 0 ≤ x ∧ x ≤ ((List.replicate (posN s) (0 : Int)).length : Int) := fun x hx => by simpa using ⟨(hin x hx).1, hle x hx⟩
          have l2 := spec_l2 (A := A) (B := B) g hl s (fillM 0 s (List.replicate (posN s) 0)) (fillM 0 s (List.replicate (posN s) 0)) [] (by simp only [List.nil_append, fillM_len, List.length_replicate]; omega) (fun x hx => by
            obtain ⟨j, hj, rfl⟩ := List.getElem_of_mem hx
            have hj' : j < (List.replicate (posN s) (0 : Int)).length := by rwa [fillM_len] at hj
            have := fill_range s.length s 0 (List.replicate (posN s) 0) (by omega) hrng (fun j hj => by rw [rd_rep _ _ _ (by simpa using hj)]; omega) j hj'
            rwa [rd_nat _ j hj] at this)
          have l1 := spec_l1_yes (W := W) (H := H) (L := L) (A := A) (B := B) s (posN s) _ s [] (by simpa using hp) (fun x hx => ⟨(hin x hx).1, hle x hx⟩) (by omega) (List.replicate (posN s) 0) (by simp) (by simpa using l2)
          have S : Ev (fun k => spec_WalkOfNumbers.f k W H L A B s) (if chk s 0 (fillM 0 s (List.replicate (posN s) 0)) = true then told W H L A B (fillM 0 s (List.replicate (posN s) 0)) else ([], false)) := spec_ _ (by simpa using l1)
          by_cases ok : okR (posN s) [] s = true
          · have ok' : chk s 0 (fillM 0 s (List.replicate (posN s) 0)) = true := by rw [← e]; exact ok
            rw [if_pos ok'] at S
            rw [if_pos ok] at impl_
            rw [← f ok] at impl_
            refine ⟨(told W H L A B (fillM 0 s (List.replicate (posN s) 0))).1, (told W H L A B (fillM 0 s (List.replicate (posN s) 0))).2, ?_, S, impl_⟩
            unfold told
            split
            · simp only [fillM_len, List.length_replicate]; omega
            · simp
          · have ok' : ¬ chk s 0 (fillM 0 s (List.replicate (posN s) 0)) = true := by rw [← e]; exact ok
            rw [if_neg ok'] at S
            rw [if_neg ok] at impl_
            exact ⟨[], false, by simp, S, impl_⟩
        · have hbad : ∃ x ∈ s, ((posN s : Nat) : Int) < x := by
            rcases Classical.em (∃ x ∈ s, ((posN s : Nat) : Int) < x) with h | h
            · exact h
            · exact absurd (fun x hx => by rcases Int.lt_or_le ((posN s : Nat) : Int) x with h2 | h2; · exact absurd ⟨x, hx, h2⟩ h
                                           · exact h2) hle
          have nok : ¬ okR (posN s) [] s = true := fun h => hle ((okR_iff (posN s) s [] (fun y => by simp) (fun x hx => (hin x hx).1)).1 h).1
          rw [if_neg nok] at impl_
          have l1 := spec_l1_no (W := W) (H := H) (L := L) (A := A) (B := B) s (posN s) s [] (by simpa using hp) h64 hbad (List.replicate (posN s) 0) (by simp)
          exact ⟨[], false, by simp, spec_ _ (by simpa using l1), impl_⟩
      · have hbad : ∃ x ∈ s, ¬ (0 ≤ x ∧ x ≤ (s.length : Int)) := by
          rcases Classical.em (∃ x ∈ s, ¬ (0 ≤ x ∧ x ≤ (s.length : Int))) with h | h
          · exact h
          · exact absurd (fun x hx => Classical.byContradiction fun h2 => h ⟨x, hx, h2⟩) hin
        have e1 : (s.all fun n => decide (0 ≤ n) && decide (n ≤ (s.length : Int))) = false := by
          rw [List.all_eq_false]
          obtain ⟨x, hx, h⟩ := hbad
          exact ⟨x, hx, by simpa using h⟩
        rw [e1] at hall
        refine ⟨[], false, by simp, ?_, ?_⟩
        · unfold spec_WalkOfNumbers.f
          refine Ev.bind (two_yes t hl) ?_
          simp only [if_true, g.wrapArea, c]
          rw [c] at hall
          refine Ev.bind hall ?_
          simp only [Bool.not_false]
          exact noS
        · unfold impl_WalkOfNumbers.f
          refine Ev.bind (graphOf_two t hl) ?_
          simp only [if_true, g.wrapArea, c]
          have := impl_l0_no (W := W) (H := H) (L := L) (A := A) (B := B) s (cellsM W H L) (nearM W H L A B) s [] (by simpa using hp) hbad 0 (by simp)
          simpa [c] using this
    · refine ⟨[], false, by simp, ?_, ?_⟩
      · unfold spec_WalkOfNumbers.f
        refine Ev.bind (two_yes t hl) ?_
        simp only [if_true, g.wrapArea, c, if_false]
        exact noS
      · unfold impl_WalkOfNumbers.f
        refine Ev.bind (graphOf_two t hl) ?_
        simp only [if_true, g.wrapArea, c, if_false]
        exact Ev.now _
  · refine ⟨[], false, by simp, ?_, ?_⟩
    · unfold spec_WalkOfNumbers.f
      refine Ev.bind (two_no t hl) ?_
      simp only [Bool.false_eq_true, if_false]
      exact noS
    · unfold impl_WalkOfNumbers.f
      refine Ev.bind (graphOf_not t hl) ?_
      simp only [Bool.false_eq_true, if_false]
      exact Ev.now _
theorem FnExactWalkOfNumbers : FnExactWalkOfNumbersSaid := by
  intro a0_0 a0_1 l0_2 a1_0 a1_1 l2 _ _ hlen_l0_2 _ _ _ hlen_l2 _
  by_cases hb_l2 : (l2.length : Int) > 1048576
  · refine ⟨0, ?_⟩
    simp [laws_FnExactWalkOfNumbers.f, hb_l2]
  have hs_l2 : l2.length ≤ 1048576 := by omega
  by_cases hb_l0_2 : 1048576 < l0_2.length
  · refine ⟨0, ?_⟩
    simp [laws_FnExactWalkOfNumbers.f, szBoard_big a0_0 a0_1 l0_2 hb_l0_2 hlen_l0_2, hb_l2]
  have hs_l0_2 : l0_2.length ≤ 1048576 := by omega
  obtain ⟨r, b, hr, hs, hi⟩ := walkOfNumbers_both a0_0 a0_1 l0_2 a1_0 a1_1 l2 hs_l0_2 hs_l2
  refine rounds_of ?_
  have n0 : ¬ (1048576 - (l0_2.length : Int) < 0) := by omega
  have n1 : ¬ (1 + (l0_2.length : Int) < 0) := by omega
  have n2 : ¬ (1 + (l2.length : Int) < 0) := by omega
  have n12 : ¬ (1 + (l0_2.length : Int) + (l2.length : Int) < 0) := by omega
  have nr : ¬ (1 + (r.length : Int) < 0) := by omega
  unfold laws_FnExactWalkOfNumbers.f
  repeat (first
    | exact Ev.now _
    | refine Ev.bind (toBoard_ev _ _ _ (by assumption)) ?_
    | refine Ev.bind (eqBoard_ev _ _ _ (by assumption)) ?_
    | refine Ev.bind (markBoard_ev _ _ _ (by assumption)) ?_
    | refine Ev.bind (toIntS_ev _ (by assumption)) ?_
    | refine Ev.bind (eqIntS_ev _ (by assumption)) ?_
    | refine Ev.bind (markIntS_ev _ (by assumption)) ?_
    | refine Ev.bind (heldIntS_ev _ (by assumption)) ?_
    | refine Ev.bind (markIntS_any _ _ (by assumption) (by omega)) ?_
    | refine Ev.bind hs ?_
    | refine Ev.bind hi ?_
    | simp only [Option.bind_some, if_true, if_false, bne_self_eq_false, Bool.false_eq_true, ne_eq, not_true_eq_false, not_false_eq_true, hb_l2, szBoard_fit _ _ _ hs_l0_2, laws_toLeaper.f, n0, n1, n2, n12, nr]
    | (refine Ev.step (fun k => by rw [laws_FnExactWalkOfNumbers.j0]) ?_)
    | (refine Ev.step (fun k => by rw [laws_FnExactWalkOfNumbers.j1]) ?_)
    | (refine Ev.step (fun k => by rw [laws_FnExactWalkOfNumbers.j2]) ?_))
end Go.Proofs.Ytjeongckkfkehaa.Pure

/- CountJoins: the program and the reference count the same joins, so the law's function answers true for all arguments. -/
import Derived.Test.YtbecdckdbeoomaaStateFnExactCountJoins
import Derived.Test.YtbecdckdbeoomaaHApart
import Derived.Test.YtbecdckdbeoomaaHClosed
import Derived.Test.YtbecdckdbeoomaaQ21
import Derived.Test.YtbecdckdbeoomaaQ22
import Derived.Test.YtbecdckdbeoomaaQ23
import Derived.Test.YtbecdckdbeoomaaQ24
namespace Go.Proofs.Ytbecdckdbeoomaa.Pure
open Go.RowKit Go.IntWalk Go.Proofs.Ytbecdckdbeoomaa.Q Go.Proofs.Ytbecdckdbeoomaa.H Go.Proofs.YtbecdckdbeoomaaW.PrintWords Go.Proofs.YtbecdckdbeoomaaW.PrintMore
set_option linter.unusedVariables false
set_option linter.unusedSimpArgs false
theorem blClosed_eq {W H : Int} {L : List Int} (g : BoardM W H L) (A B : Int) (s : List Int) (h : ∀ x ∈ s, hasB W H L x = true) (h1 : 1 ≤ s.length) (h2 : s.length ≤ 1048576) : spec_blClosed.f W H L A B s = some (closedB W A B s) := by
  unfold spec_blClosed.f closedB
  by_cases c : (s.length : Int) > 2
  · have c' : 3 ≤ s.length := by omega
    have e : wrap64 ((s.length : Int) - 1) = (s.length : Int) - 1 := wrap64_in _ (by omega)
    have c1 : 0 ≤ (s.length : Int) - 1 := by omega
    have c2 : (s.length : Int) - 1 < (s.length : Int) := by omega
    have c3 : 0 < (s.length : Int) := by omega
    obtain ⟨a, b⟩ := ends_has h h1
    simp only [c, c', c1, c2, c3, e, if_true, decide_true, Bool.true_and, boIs_eq g A B _ _ (has_range a) (has_range b), Option.bind_some]
  · have c' : ¬ 3 ≤ s.length := by omega
    simp only [c, c', if_false, decide_false, Bool.false_and]
theorem tm (a m : Nat) : Int.tmod (a : Int) (m : Int) = ((a % m : Nat) : Int) := rfl
def onB (W A B : Int) (p q : List Int) (i j : Nat) : Bool := isB W A B (rd p (i : Int)) (rd q (j : Int)) && isB W A B (rd q (((j + q.length - 1) % q.length : Nat) : Int)) (rd p (((i + 1) % p.length : Nat) : Int))
def backB (W A B : Int) (p q : List Int) (i j : Nat) : Bool := isB W A B (rd p (i : Int)) (rd q (j : Int)) && isB W A B (rd q (((j + 1) % q.length : Nat) : Int)) (rd p (((i + 1) % p.length : Nat) : Int))
def jn (W A B : Int) (p q : List Int) (i j : Nat) : Nat := (if onB W A B p q i j = true then 1 else 0) + (if backB W A B p q i j = true then 1 else 0)
def sumJ (W A B : Int) (p q : List Int) (i : Nat) : Nat → Nat → Nat
  | 0, _ => 0
  | m + 1, j => jn W A B p q i j + sumJ W A B p q i m (j + 1)
def sumI (W A B : Int) (p q : List Int) : Nat → Nat → Nat
  | 0, _ => 0
  | n + 1, i => sumJ W A B p q i q.length 0 + sumI W A B p q n (i + 1)
theorem jn_le (W A B : Int) (p q : List Int) (i j : Nat) : jn W A B p q i j ≤ 2 := by unfold jn; split <;> split <;> omega
theorem sumJ_le (W A B : Int) (p q : List Int) (i : Nat) : ∀ m j, sumJ W A B p q i m j ≤ 2 * m := by
  intro m
  induction m with
  | zero => intro j; simp [sumJ]
  | succ m ih => intro j; rw [sumJ]; have := ih (j + 1); have := jn_le W A B p q i j; omega
theorem rd_has {W H : Int} {L s : List Int} (hs : ∀ x ∈ s, hasB W H L x = true) (j : Nat) (h : j < s.length) : hasB W H L (rd s (j : Int)) = true := by
  rw [rd_nat s j h]; exact hs _ (List.getElem_mem h)
section
variable {W H : Int} {L : List Int} {A B : Int}
structure PQ (W H : Int) (L p q : List Int) : Prop where
  hp : ∀ x ∈ p, hasB W H L x = true
  hq : ∀ x ∈ q, hasB W H L x = true
  p1 : 1 ≤ p.length
  p2 : p.length ≤ 64
  q1 : 1 ≤ q.length
  q2 : q.length ≤ 64
theorem blJoin_eq (g : BoardM W H L) {p q : List Int} (h : PQ W H L p q) (i j : Nat) (hi : i < p.length) (hj : j < q.length) (b : Bool) : spec_blJoin.f W H L A B p q (i : Int) (j : Int) b = some (if b = true then backB W A B p q i j else onB W A B p q i j) := by
  have hp2 := h.p2
  have hq2 := h.q2
  have hq0 : 0 < q.length := h.q1
  have hp0 : 0 < p.length := h.p1
  have w1 : wrap64 ((j : Int) + (q.length : Int)) = (j : Int) + (q.length : Int) := wrap64_in _ (by omega)
  have w2 : wrap64 ((j : Int) + (q.length : Int) - 1) = ((j + q.length - 1 : Nat) : Int) := by rw [wrap64_in _ (by omega)]; omega
  have w3 : wrap64 ((j : Int) + 1) = ((j + 1 : Nat) : Int) := w_succ (by omega)
  have w4 : wrap64 ((i : Int) + 1) = ((i + 1 : Nat) : Int) := w_succ (by omega)
  have n1 : ¬ (q.length : Int) = 0 := by omega
  have n2 : ¬ (p.length : Int) = 0 := by omega
  have a7 : (0 : Int) ≤ (i : Int) := by omega
  have a8 : (i : Int) < (p.length : Int) := by omega
  have a9 : (0 : Int) ≤ (j : Int) := by omega
  have a10 : (j : Int) < (q.length : Int) := by omega
  have m1 : (j + q.length - 1) % q.length < q.length := Nat.mod_lt _ hq0
  have m2 : (j + 1) % q.length < q.length := Nat.mod_lt _ hq0
  have m3 : (i + 1) % p.length < p.length := Nat.mod_lt _ hp0
  generalize hu : (j + q.length - 1) % q.length = u at m1
  generalize hv : (j + 1) % q.length = v at m2
  generalize hy : (i + 1) % p.length = y at m3
  have a1 : (0 : Int) ≤ (u : Int) := Int.natCast_nonneg u
  have a2 : (u : Int) < (q.length : Int) := Int.ofNat_lt.2 m1
  have a3 : (0 : Int) ≤ (v : Int) := Int.natCast_nonneg v
  have a4 : (v : Int) < (q.length : Int) := Int.ofNat_lt.2 m2
  have a5 : (0 : Int) ≤ (y : Int) := Int.natCast_nonneg y
  have a6 : (y : Int) < (p.length : Int) := Int.ofNat_lt.2 m3
  have b1 := has_range (rd_has h.hp i hi)
  have b2 := has_range (rd_has h.hq j hj)
  have b3 := has_range (rd_has h.hq _ m1)
  have b4 := has_range (rd_has h.hq _ m2)
  have b5 := has_range (rd_has h.hp _ m3)
  simp only [spec_blJoin.f, n1, n2, w1, w2, w3, w4, tm, hu, hv, hy, a1, a2, a3, a4, a5, a6, a7, a8, a9, a10, if_true, if_false, boIs_eq g A B _ _ b1 b2, boIs_eq g A B _ _ b3 b5, boIs_eq g A B _ _ b4 b5, Option.bind_some]
  simp only [onB, backB, hu, hv, hy]
  cases b <;> cases isB W A B (rd p (i : Int)) (rd q (j : Int)) <;> simp
theorem joins_ev (g : BoardM W H L) {p q : List Int} (h : PQ W H L p q) (i j : Nat) (hi : i < p.length) (hj : j < q.length) : Ev (fun k => impl_graph_joins.f k W H L A B (cellsM W H L) (nearM W H L A B) p q (i : Int) (j : Int)) (onB W A B p q i j, backB W A B p q i j) := by
  have hp2 := h.p2
  have hq2 := h.q2
  have hq0 : 0 < q.length := h.q1
  have hp0 : 0 < p.length := h.p1
  have w1 : wrap64 ((j : Int) + (q.length : Int)) = (j : Int) + (q.length : Int) := wrap64_in _ (by omega)
  have w2 : wrap64 ((j : Int) + (q.length : Int) - 1) = ((j + q.length - 1 : Nat) : Int) := by rw [wrap64_in _ (by omega)]; omega
  have w3 : wrap64 ((j : Int) + 1) = ((j + 1 : Nat) : Int) := w_succ (by omega)
  have w4 : wrap64 ((i : Int) + 1) = ((i + 1 : Nat) : Int) := w_succ (by omega)
  have n1 : ¬ (q.length : Int) = 0 := by omega
  have n2 : ¬ (p.length : Int) = 0 := by omega
  have a7 : (0 : Int) ≤ (i : Int) := by omega
  have a8 : (i : Int) < (p.length : Int) := by omega
  have a9 : (0 : Int) ≤ (j : Int) := by omega
  have a10 : (j : Int) < (q.length : Int) := by omega
  have m1 : (j + q.length - 1) % q.length < q.length := Nat.mod_lt _ hq0
  have m2 : (j + 1) % q.length < q.length := Nat.mod_lt _ hq0
  have m3 : (i + 1) % p.length < p.length := Nat.mod_lt _ hp0
  generalize hu : (j + q.length - 1) % q.length = u at m1
  generalize hv : (j + 1) % q.length = v at m2
  generalize hy : (i + 1) % p.length = y at m3
  have a1 : (0 : Int) ≤ (u : Int) := Int.natCast_nonneg u
  have a2 : (u : Int) < (q.length : Int) := Int.ofNat_lt.2 m1
  have a3 : (0 : Int) ≤ (v : Int) := Int.natCast_nonneg v
  have a4 : (v : Int) < (q.length : Int) := Int.ofNat_lt.2 m2
  have a5 : (0 : Int) ≤ (y : Int) := Int.natCast_nonneg y
  have a6 : (y : Int) < (p.length : Int) := Int.ofNat_lt.2 m3
  have b1 := rd_has h.hp i hi
  have b2 := rd_has h.hq j hj
  have b3 := rd_has h.hq _ m1
  have b4 := rd_has h.hq _ m2
  have b5 := rd_has h.hp _ m3
  simp only [impl_graph_joins.f, a7, a8, a9, a10, if_true]
  refine Ev.bind (leaps_ev g _ _ b1 b2) ?_
  simp only [onB, backB, hu, hv, hy]
  rcases Bool.eq_false_or_eq_true (isB W A B (rd p (i : Int)) (rd q (j : Int))) with hx | hx
  · simp only [hx, if_true, Bool.true_and, n1, n2, w1, w2, w3, w4, tm, hu, hv, hy, a1, a2, a3, a4, a5, a6, if_false]
    refine Ev.bind (leaps_ev g _ _ b3 b5) ?_
    refine Ev.bind (leaps_ev g _ _ b4 b5) ?_
    exact Ev.now _
  · simp only [hx, Bool.false_eq_true, if_false, Bool.false_and]
    exact Ev.now _
theorem spec_l2 (g : BoardM W H L) {p q : List Int} (h : PQ W H L p q) (i j : Nat) (hi : i < p.length) (hj : j < q.length) (R : Int × Bool) (n : Nat) (hn : n ≤ 100000) (m : Int)
    (hR : Ev (fun k => spec_CountJoins.l1 k p q ((n + jn W A B p q i j : Nat) : Int) (i : Int) (p.length : Int) (i : Int) m ((j + 1 : Nat) : Int) W H L A B) R) :
    Ev (fun k => spec_CountJoins.l2 k p q (n : Int) (i : Int) (j : Int) 0 (p.length : Int) (i : Int) m (j : Int) W H L A B) R := by
  have hq2 := h.q2
  have last : ∀ n' : Nat, n' = n + jn W A B p q i j → Ev (fun k => spec_CountJoins.l2 k p q (n' : Int) (i : Int) (j : Int) 2 (p.length : Int) (i : Int) m (j : Int) W H L A B) R := by
    intro n' e
    refine Ev.step (fun k => by rw [spec_CountJoins.l2]) ?_
    have c : ¬ ((2 : Int) < 2) := by omega
    simp only [c, if_false, w_succ (show j ≤ 4611686018427387904 by omega)]
    rw [e]; exact hR
  have second : ∀ n' : Nat, n' = n + (if onB W A B p q i j = true then 1 else 0) → Ev (fun k => spec_CountJoins.l2 k p q (n' : Int) (i : Int) (j : Int) 1 (p.length : Int) (i : Int) m (j : Int) W H L A B) R := by
    intro n' e
    refine Ev.step (fun k => by rw [spec_CountJoins.l2]) ?_
    have c : ((1 : Int) < 2) := by omega
    have c2 : ((1 : Int) == 1) = true := rfl
    have w : wrap64 ((1 : Int) + 1) = 2 := by rw [wrap64_in _ (by omega)]; rfl
    have hn' : n' ≤ 100001 := by rw [e]; split <;> omega
    simp only [c, c2, if_true, w, blJoin_eq g h i j hi hj, Option.bind_some, w_succ (show n' ≤ 4611686018427387904 by omega)]
    by_cases hb : backB W A B p q i j = true
    · simp only [if_pos hb]
      exact last (n' + 1) (by rw [e]; unfold jn; rw [if_pos hb]; omega)
    · simp only [if_neg hb]
      exact last n' (by rw [e]; unfold jn; rw [if_neg hb]; omega)
  refine Ev.step (fun k => by rw [spec_CountJoins.l2]) ?_
  have c : ((0 : Int) < 2) := by omega
  have c2 : ((0 : Int) == 1) = false := rfl
  have w : wrap64 ((0 : Int) + 1) = 1 := by rw [wrap64_in _ (by omega)]; rfl
  simp only [c, c2, if_true, w, blJoin_eq g h i j hi hj, Option.bind_some, w_succ (show n ≤ 4611686018427387904 by omega), Bool.false_eq_true, if_false]
  by_cases hb : onB W A B p q i j = true
  · simp only [if_pos hb]
    exact second (n + 1) (by rw [if_pos hb])
  · simp only [if_neg hb]
    exact second n (by rw [if_neg hb]; rfl)
theorem spec_l1 (g : BoardM W H L) {p q : List Int} (h : PQ W H L p q) (i : Nat) (hi : i < p.length) (R : Int × Bool) : ∀ (m j : Nat), j + m = q.length → ∀ n : Nat, n + 2 * m ≤ 100000 →
    Ev (fun k => spec_CountJoins.l0 k p q ((n + sumJ W A B p q i m j : Nat) : Int) (p.length : Int) ((i + 1 : Nat) : Int) W H L A B) R →
    Ev (fun k => spec_CountJoins.l1 k p q (n : Int) (i : Int) (p.length : Int) (i : Int) (q.length : Int) (j : Int) W H L A B) R := by
  have hp2 := h.p2
  intro m
  induction m with
  | zero =>
    intro j h1 n hn hR
    refine Ev.step (fun k => by rw [spec_CountJoins.l1]) ?_
    have c : ¬ ((j : Int) < (q.length : Int)) := by omega
    simp only [c, if_false, w_succ (show i ≤ 4611686018427387904 by omega)]
    simpa [sumJ] using hR
  | succ m ih =>
    intro j h1 n hn hR
    refine Ev.step (fun k => by rw [spec_CountJoins.l1]) ?_
    have c : ((j : Int) < (q.length : Int)) := by omega
    simp only [c, if_true]
    have hj := jn_le W A B p q i j
    refine spec_l2 g h i j hi (by omega) R n (by omega) (q.length : Int) (ih (j + 1) (by omega) _ (by omega) ?_)
    rw [sumJ, ← Nat.add_assoc] at hR
    exact hR
theorem spec_l0 (g : BoardM W H L) {p q : List Int} (h : PQ W H L p q) : ∀ (n i : Nat), i + n = p.length → ∀ c : Nat, c + 128 * n ≤ 100000 →
    Ev (fun k => spec_CountJoins.l0 k p q (c : Int) (p.length : Int) (i : Int) W H L A B) (((c + sumI W A B p q n i : Nat) : Int), true) := by
  have hq2 := h.q2
  intro n
  induction n with
  | zero =>
    intro i h1 c hc
    refine Ev.step (fun k => by rw [spec_CountJoins.l0]) ?_
    have c1 : ¬ ((i : Int) < (p.length : Int)) := by omega
    simp only [c1, if_false, sumI, Nat.add_zero]
    exact Ev.now _
  | succ n ih =>
    intro i h1 c hc
    refine Ev.step (fun k => by rw [spec_CountJoins.l0]) ?_
    have c1 : ((i : Int) < (p.length : Int)) := by omega
    simp only [c1, if_true]
    have hs := sumJ_le W A B p q i q.length 0
    have := spec_l1 (A := A) (B := B) g h i (by omega) (((c + sumI W A B p q (n + 1) i : Nat) : Int), true) q.length 0 (by omega) c (by omega) ?_
    · simpa using this
    · rw [sumI, ← Nat.add_assoc]
      exact ih (i + 1) (by omega) _ (by omega)
theorem impl_l1 (g : BoardM W H L) {p q : List Int} (h : PQ W H L p q) (i : Nat) (hi : i < p.length) (R : Int × Bool) : ∀ (m j : Nat), j + m = q.length → ∀ n : Nat, n + 2 * m ≤ 100000 →
    Ev (fun k => impl_CountJoins.l0 k p q ((n + sumJ W A B p q i m j : Nat) : Int) (p.length : Int) ((i + 1 : Nat) : Int) W H L A B (cellsM W H L) (nearM W H L A B)) R →
    Ev (fun k => impl_CountJoins.l1 k p q (n : Int) (i : Int) (p.length : Int) (i : Int) (q.length : Int) (j : Int) W H L A B (cellsM W H L) (nearM W H L A B)) R := by
  have hp2 := h.p2
  have hq2 := h.q2
  intro m
  induction m with
  | zero =>
    intro j h1 n hn hR
    refine Ev.step (fun k => by rw [impl_CountJoins.l1]) ?_
    have c : ¬ ((j : Int) < (q.length : Int)) := by omega
    simp only [c, if_false, w_succ (show i ≤ 4611686018427387904 by omega)]
    simpa [sumJ] using hR
  | succ m ih =>
    intro j h1 n hn hR
    refine Ev.step (fun k => by rw [impl_CountJoins.l1]) ?_
    have c : ((j : Int) < (q.length : Int)) := by omega
    have hj := jn_le W A B p q i j
    rw [sumJ, ← Nat.add_assoc] at hR
    have next : ∀ n' : Nat, n' = n + jn W A B p q i j → Ev (fun k => impl_CountJoins.l1 k p q (n' : Int) (i : Int) (p.length : Int) (i : Int) (q.length : Int) ((j + 1 : Nat) : Int) W H L A B (cellsM W H L) (nearM W H L A B)) R := by
      intro n' e
      rw [e]
      exact ih (j + 1) (by omega) _ (by omega) hR
    simp only [c, if_true]
    refine Ev.bind (joins_ev g h i j hi (by omega)) ?_
    simp only [w_succ (show j ≤ 4611686018427387904 by omega), w_succ (show n ≤ 4611686018427387904 by omega), w_succ (show n + 1 ≤ 4611686018427387904 by omega)]
    by_cases c1 : onB W A B p q i j = true
    · by_cases c2 : backB W A B p q i j = true
      · simp only [if_pos c1, if_pos c2]
        exact next (n + 1 + 1) (by unfold jn; rw [if_pos c1, if_pos c2])
      · simp only [if_pos c1, if_neg c2]
        exact next (n + 1) (by unfold jn; rw [if_pos c1, if_neg c2])
    · by_cases c2 : backB W A B p q i j = true
      · simp only [if_neg c1, if_pos c2]
        exact next (n + 1) (by unfold jn; rw [if_neg c1, if_pos c2])
      · simp only [if_neg c1, if_neg c2]
        exact next n (by unfold jn; rw [if_neg c1, if_neg c2]; rfl)
theorem impl_l0 (g : BoardM W H L) {p q : List Int} (h : PQ W H L p q) : ∀ (n i : Nat), i + n = p.length → ∀ c : Nat, c + 128 * n ≤ 100000 →
    Ev (fun k => impl_CountJoins.l0 k p q (c : Int) (p.length : Int) (i : Int) W H L A B (cellsM W H L) (nearM W H L A B)) (((c + sumI W A B p q n i : Nat) : Int), true) := by
  have hq2 := h.q2
  intro n
  induction n with
  | zero =>
    intro i h1 c hc
    refine Ev.step (fun k => by rw [impl_CountJoins.l0]) ?_
    have c1 : ¬ ((i : Int) < (p.length : Int)) := by omega
    simp only [c1, if_false, sumI, Nat.add_zero]
    exact Ev.now _
  | succ n ih =>
    intro i h1 c hc
    refine Ev.step (fun k => by rw [impl_CountJoins.l0]) ?_
    have c1 : ((i : Int) < (p.length : Int)) := by omega
    simp only [c1, if_true]
    have hs := sumJ_le W A B p q i q.length 0
    have := impl_l1 (A := A) (B := B) g h i (by omega) (((c + sumI W A B p q (n + 1) i : Nat) : Int), true) q.length 0 (by omega) c (by omega) ?_
    · simpa using this
    · rw [sumI, ← Nat.add_assoc]
      exact ih (i + 1) (by omega) _ (by omega)
theorem blTwo_loop (q : List Int) (hq : q.length ≤ 1048576) (rest pre : List Int) (hp : (pre ++ rest).length ≤ 64) : Ev (fun k => spec_blTwo.l0 k q (pre ++ rest) ((pre ++ rest).length : Int) (pre.length : Int)) (disjB rest q) := by
  induction rest generalizing pre with
  | nil =>
    refine Ev.step (fun k => by rw [spec_blTwo.l0]) ?_
    simp only [List.append_nil, nlt_end, if_false, disjB, List.all_nil]
    exact Ev.now _
  | cons c r ih =>
    refine Ev.step (fun k => by rw [spec_blTwo.l0]) ?_
    have h0 : (0 : Int) ≤ (pre.length : Int) := by omega
    have h5 : pre.length ≤ 64 := by simp at hp; omega
    simp only [lt_mid pre c r, h0, if_true, rd_mid, w_succ (show pre.length ≤ 4611686018427387904 by omega)]
    refine Ev.bind (l1Has_ev q c (by omega)) ?_
    have e : disjB (c :: r) q = (!q.contains c && disjB r q) := rfl
    rw [e]
    rcases Bool.eq_false_or_eq_true (q.contains c) with hx | hx
    · simp only [hx, if_true, Bool.not_true, Bool.false_and]
      exact Ev.now _
    · simp only [hx, Bool.false_eq_true, if_false, Bool.not_false, Bool.true_and]
      have := ih (pre ++ [c]) (by simpa using hp)
      simpa using this
theorem blTwo_no {p q : List Int} : Ev (fun k => spec_blTwo.j0 k p q true) false := by
  refine Ev.step (fun k => by rw [spec_blTwo.j0]) ?_
  simp only [if_true]
  exact Ev.now _
end
theorem countJoins_both (W H : Int) (L : List Int) (A B : Int) (p q : List Int) (hl : L.length ≤ 1048576) (hp : p.length ≤ 1048576) (hq : q.length ≤ 1048576) : ∃ (r : Int) (b : Bool), Ev (fun k => spec_CountJoins.f k W H L A B p q) (r, b) ∧ Ev (fun k => impl_CountJoins.f k W H L A B p q) (r, b) := by
  have none_ : ∀ (S : Ev (fun k => spec_blTwo.f k W H L A B p q) false) (I : Ev (fun k => impl_CountJoins.f k W H L A B p q) (0, false)), ∃ (r : Int) (b : Bool), Ev (fun k => spec_CountJoins.f k W H L A B p q) (r, b) ∧ Ev (fun k => impl_CountJoins.f k W H L A B p q) (r, b) := by
    intro S I
    refine ⟨0, false, ?_, I⟩
    unfold spec_CountJoins.f
    refine Ev.bind S ?_
    simp only [Bool.false_eq_true, if_false]
    exact Ev.now _
  have noI : ∀ cs nr, Ev (fun k => impl_CountJoins.j0 k p q true W H L A B cs nr) (0, false) := by
    intro cs nr
    refine Ev.step (fun k => by rw [impl_CountJoins.j0]) ?_
    simp only [if_true]
    exact Ev.now _
  by_cases t1 : Walked W H L A B p
  · by_cases t2 : Walked W H L A B q
    · have g := t1.1.1
      have wp := walkB_has t1.2
      have wq := walkB_has t2.2
      have cp := blClosed_eq g A B p wp.2.2 wp.1 hp
      have cq := blClosed_eq g A B q wq.2.2 wq.1 hq
      have ip := closes_ev g A B p wp.2.2 wp.1 hp
      have iq := closes_ev g A B q wq.2.2 wq.1 hq
      have hd := blTwo_loop q hq p [] (by simpa using wp.2.1)
      have hPQ : PQ W H L p q := ⟨wp.2.2, wq.2.2, wp.1, wp.2.1, wq.1, wq.2.1⟩
      by_cases ap : Apart W H L A B p q
      · have hdt : disjB p q = true := ap.2.2
        rw [hdt] at hd
        rcases Bool.eq_false_or_eq_true (closedB W A B p) with x1 | x1
        · rcases Bool.eq_false_or_eq_true (closedB W A B q) with x2 | x2
          · rw [x1] at cp ip
            rw [x2] at cq iq
            refine ⟨((0 + sumI W A B p q p.length 0 : Nat) : Int), true, ?_, ?_⟩
            · unfold spec_CountJoins.f
              refine Ev.bind (a := true) ?_ ?_
              · unfold spec_blTwo.f
                refine Ev.bind (blWalk_yes t1 hl) ?_
                simp only [if_true]
                refine Ev.bind (blWalk_yes t2 hl) ?_
                simp only [if_true, cp, cq, Option.bind_some, Bool.not_true]
                refine Ev.step (fun k => by rw [spec_blTwo.j0]) ?_
                simp only [Bool.false_eq_true, if_false]
                simpa using hd
              · simp only [if_true]
                exact spec_l0 g hPQ p.length 0 (by omega) 0 (by have := wp.2.1; omega)
            · unfold impl_CountJoins.f
              refine Ev.bind (apart_yes ap hl) ?_
              simp only [if_true]
              refine Ev.bind ip ?_
              simp only [if_true]
              refine Ev.bind iq ?_
              simp only [Bool.not_true]
              refine Ev.step (fun k => by rw [impl_CountJoins.j0]) ?_
              simp only [Bool.false_eq_true, if_false]
              exact impl_l0 g hPQ p.length 0 (by omega) 0 (by have := wp.2.1; omega)
          · rw [x1] at cp ip
            rw [x2] at cq iq
            refine none_ ?_ ?_
            · unfold spec_blTwo.f
              refine Ev.bind (blWalk_yes t1 hl) ?_
              simp only [if_true]
              refine Ev.bind (blWalk_yes t2 hl) ?_
              simp only [if_true, cp, cq, Option.bind_some, Bool.not_false]
              exact blTwo_no
            · unfold impl_CountJoins.f
              refine Ev.bind (apart_yes ap hl) ?_
              simp only [if_true]
              refine Ev.bind ip ?_
              simp only [if_true]
              refine Ev.bind iq ?_
              simp only [Bool.not_false]
              exact noI _ _
        · rw [x1] at cp ip
          refine none_ ?_ ?_
          · unfold spec_blTwo.f
            refine Ev.bind (blWalk_yes t1 hl) ?_
            simp only [if_true]
            refine Ev.bind (blWalk_yes t2 hl) ?_
            simp only [if_true, cp, Option.bind_some, Bool.false_eq_true, if_false]
            exact blTwo_no
          · unfold impl_CountJoins.f
            refine Ev.bind (apart_yes ap hl) ?_
            simp only [if_true]
            refine Ev.bind ip ?_
            simp only [Bool.false_eq_true, if_false]
            exact noI _ _
      · have hdf : disjB p q = false := by
          rcases Bool.eq_false_or_eq_true (disjB p q) with h | h
          · exact absurd ⟨t1, t2.2, h⟩ ap
          · exact h
        rw [hdf] at hd
        refine none_ ?_ ?_
        · unfold spec_blTwo.f
          refine Ev.bind (blWalk_yes t1 hl) ?_
          simp only [if_true]
          refine Ev.bind (blWalk_yes t2 hl) ?_
          simp only [if_true, cp, cq, Option.bind_some]
          cases closedB W A B p with
          | false => simp only [Bool.false_eq_true, if_false]; exact blTwo_no
          | true =>
            simp only [if_true]
            cases closedB W A B q with
            | false => simp only [Bool.not_false]; exact blTwo_no
            | true =>
              simp only [Bool.not_true]
              refine Ev.step (fun k => by rw [spec_blTwo.j0]) ?_
              simp only [Bool.false_eq_true, if_false]
              simpa using hd
        · unfold impl_CountJoins.f
          refine Ev.bind (apart_no ap hl) ?_
          simp only [Bool.false_eq_true, if_false]
          exact Ev.now _
    · have ap : ¬ Apart W H L A B p q := fun h => t2 ⟨h.1.1, h.2.1⟩
      refine none_ ?_ ?_
      · unfold spec_blTwo.f
        refine Ev.bind (blWalk_yes t1 hl) ?_
        simp only [if_true]
        refine Ev.bind (blWalk_no t2 hl) ?_
        simp only [Bool.false_eq_true, if_false]
        exact blTwo_no
      · unfold impl_CountJoins.f
        refine Ev.bind (apart_no ap hl) ?_
        simp only [Bool.false_eq_true, if_false]
        exact Ev.now _
  · have ap : ¬ Apart W H L A B p q := fun h => t1 h.1
    refine none_ ?_ ?_
    · unfold spec_blTwo.f
      refine Ev.bind (blWalk_no t1 hl) ?_
      simp only [Bool.false_eq_true, if_false]
      exact blTwo_no
    · unfold impl_CountJoins.f
      refine Ev.bind (apart_no ap hl) ?_
      simp only [Bool.false_eq_true, if_false]
      exact Ev.now _
theorem FnExactCountJoins : FnExactCountJoinsSaid := by
  intro a0_0 a0_1 l0_2 a1_0 a1_1 l2 l3 _ _ hlen_l0_2 _ _ _ hlen_l2 _ hlen_l3 _
  by_cases hb_l2 : (l2.length : Int) > 1048576
  · refine ⟨0, ?_⟩
    simp [laws_FnExactCountJoins.f, hb_l2]
  have hs_l2 : l2.length ≤ 1048576 := by omega
  by_cases hb_l3 : (l3.length : Int) > 1048576
  · refine ⟨0, ?_⟩
    simp [laws_FnExactCountJoins.f, hb_l3, hb_l2]
  have hs_l3 : l3.length ≤ 1048576 := by omega
  by_cases hb_l0_2 : 1048576 < l0_2.length
  · refine ⟨0, ?_⟩
    simp [laws_FnExactCountJoins.f, szBoard_big a0_0 a0_1 l0_2 hb_l0_2 hlen_l0_2, hb_l2, hb_l3]
  have hs_l0_2 : l0_2.length ≤ 1048576 := by omega
  obtain ⟨r, b, hs, hi⟩ := countJoins_both a0_0 a0_1 l0_2 a1_0 a1_1 l2 l3 hs_l0_2 hs_l2 hs_l3
  refine rounds_of ?_
  have n0 : ¬ (1048576 - (l0_2.length : Int) < 0) := by omega
  have n1 : ¬ (1 + (l0_2.length : Int) < 0) := by omega
  have n2 : ¬ (1 + (l2.length : Int) < 0) := by omega
  have n3 : ¬ (1 + (l3.length : Int) < 0) := by omega
  unfold laws_FnExactCountJoins.f
  repeat (first
    | exact Ev.now _
    | refine Ev.bind (toBoard_ev _ _ _ (by assumption)) ?_
    | refine Ev.bind (eqBoard_ev _ _ _ (by assumption)) ?_
    | refine Ev.bind (markBoard_ev _ _ _ (by assumption)) ?_
    | refine Ev.bind (toIntS_ev _ (by assumption)) ?_
    | refine Ev.bind (eqIntS_ev _ (by assumption)) ?_
    | refine Ev.bind (markIntS_ev _ (by assumption)) ?_
    | refine Ev.bind (heldIntS_ev _ (by assumption)) ?_
    | refine Ev.bind (markIntS_any _ _ (by assumption) (by omega)) ?_
    | refine Ev.bind hs ?_
    | refine Ev.bind hi ?_
    | simp only [Option.bind_some, if_true, if_false, bne_self_eq_false, Bool.false_eq_true, ne_eq, not_true_eq_false, not_false_eq_true, hb_l2, hb_l3, szBoard_fit _ _ _ hs_l0_2, laws_toLeaper.f, n0, n1, n2, n3]
    | (refine Ev.step (fun k => by rw [laws_FnExactCountJoins.j0]) ?_))
end Go.Proofs.Ytbecdckdbeoomaa.Pure

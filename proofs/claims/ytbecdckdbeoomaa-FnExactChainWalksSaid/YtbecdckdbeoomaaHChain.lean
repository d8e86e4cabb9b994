/- When two walks one behind the other are a walk; the conditions stand in each theorem. -/
import Derived.Test.YtbecdckdbeoomaaHPath
import Derived.Test.YtbecdckdbeoomaaHPig
namespace Go.Proofs.Ytbecdckdbeoomaa.H
open Go.RowKit Go.IntWalk Go.Proofs.Ytbecdckdbeoomaa.Q Go.Proofs.YtbecdckdbeoomaaW.PrintWords Go.Proofs.YtbecdckdbeoomaaW.PrintMore
set_option linter.unusedVariables false
set_option linter.unusedSimpArgs false
def disjB (p q : List Int) : Bool := p.all fun c => !q.contains c
section
variable {W H : Int} {L : List Int} {A B : Int}
theorem rd_tail (x : Int) (r : List Int) (j : Nat) : rd (x :: r) ((j + 1 : Nat) : Int) = rd r (j : Int) := by
  unfold rd
  rw [show (((j + 1 : Nat) : Int)).toNat = j + 1 by omega, show ((j : Int)).toNat = j by omega]
  simp [List.getD_eq_getElem?_getD]
theorem pathR_append (v r : List Int) : ∀ x : Int, pathR W H L A B x (r ++ v) = (pathR W H L A B x r && pathR W H L A B (rd (x :: r) (r.length : Int)) v) := by
  induction r with
  | nil => intro x; simp [pathR]; rfl
  | cons y r ih =>
    intro x
    rw [List.cons_append, pathR, pathR, ih y]
    have e : rd (x :: y :: r) ((y :: r).length : Int) = rd (y :: r) (r.length : Int) := rd_tail x (y :: r) r.length
    rw [e]
    simp only [Bool.and_assoc]
theorem norepR_append (u v : List Int) : ∀ pre, norepR pre (u ++ v) = (norepR pre u && norepR (pre ++ u) v) := by
  induction u with
  | nil => intro pre; simp [norepR]
  | cons c r ih =>
    intro pre
    rw [List.cons_append, norepR, norepR, ih]
    simp only [List.append_assoc, List.singleton_append, Bool.and_assoc]
theorem norepR_split (r : List Int) : ∀ pre w, norepR (pre ++ w) r = ((r.all fun c => !pre.contains c) && norepR w r) := by
  induction r with
  | nil => intro pre w; rfl
  | cons c r ih =>
    intro pre w
    rw [norepR, norepR, List.append_assoc, ih, List.all_cons]
    have e : (pre ++ w).contains c = (pre.contains c || w.contains c) := by
      rw [Bool.eq_iff_iff]; simp
    rw [e]
    cases pre.contains c <;> cases w.contains c <;> cases (r.all fun c => !pre.contains c) <;> rfl
theorem disj_flip (p q : List Int) : (q.all fun c => !p.contains c) = disjB p q := by
  unfold disjB
  rw [Bool.eq_iff_iff, List.all_eq_true, List.all_eq_true]
  constructor
  · intro h x hx
    have : ¬ x ∈ q := fun h2 => by have := h x h2; simp at this; exact this hx
    simpa using this
  · intro h x hx
    have : ¬ x ∈ p := fun h2 => by have := h x h2; simp at this; exact this hx
    simpa using this
theorem norep_once (r : List Int) : ∀ pre, norepR pre r = true → ∀ x, r.count x ≤ 1 := by
  induction r with
  | nil => intro pre _ x; simp
  | cons c r ih =>
    intro pre h x
    rw [norepR, Bool.and_eq_true] at h
    have h1 := ih (pre ++ [c]) h.2 x
    rw [List.count_cons]
    by_cases hx : c = x
    · subst hx
      have h2 := h.2
      rw [norepR_split, Bool.and_eq_true] at h2
      have h3 : r.count c = 0 := by
        rw [show pre ++ [c] = pre ++ [c] from rfl] at h
        have h4 := h.2
        rw [show norepR (pre ++ [c]) r = norepR ((pre ++ [c]) ++ []) r by rw [List.append_nil], norepR_split, Bool.and_eq_true] at h4
        refine List.count_eq_zero.2 fun hm => ?_
        have := List.all_eq_true.1 h4.1 c hm
        simp at this
      simp [h3]
    · rw [if_neg (by simpa using hx)]; omega
theorem walk_append {p q : List Int} (hp : walkB W H L A B p = true) (hq : walkB W H L A B q = true) :
    walkB W H L A B (p ++ q) = (decide ((p ++ q).length ≤ 64) && isB W A B (rd p ((p.length - 1 : Nat) : Int)) (rd q 0) && disjB p q) := by
  obtain ⟨p1, p2, p3⟩ := walkB_has hp
  obtain ⟨q1, q2, q3⟩ := walkB_has hq
  unfold walkB at hp hq ⊢
  rw [Bool.and_eq_true] at hp hq
  rw [norepR_append, hp.2, List.nil_append, Bool.true_and]
  have e : norepR p q = disjB p q := by
    have := norepR_split q p []
    rw [List.append_nil, disj_flip, hq.2, Bool.and_true] at this
    exact this
  rw [e]
  congr 1
  cases p with
  | nil => simp at p1
  | cons x r =>
    cases q with
    | nil => simp at q1
    | cons z v =>
      have hp1 := hp.1
      have hq1 := hq.1
      simp only [pathB, Bool.and_eq_true] at hp1 hq1
      rw [List.cons_append, pathB, pathR_append, hp1.1.2, hp1.2, pathR, hq1.1.2, hq1.2]
      have e1 : rd (x :: r) ((((x :: r).length - 1 : Nat)) : Int) = rd (x :: r) (r.length : Int) := by simp
      have e2 : rd (z :: v) 0 = z := rfl
      have e3 : decide ((r ++ z :: v).length ≤ 63) = decide ((x :: (r ++ z :: v)).length ≤ 64) := by
        rw [List.length_cons]
        by_cases h : (r ++ z :: v).length ≤ 63
        · rw [decide_eq_true h, decide_eq_true (by omega)]
        · rw [decide_eq_false h, decide_eq_false (by omega)]
      rw [e1, e2, e3]
      simp only [Bool.and_true, Bool.true_and]
/-- Two walks with no cell in common have few enough cells together. -/
theorem apart_small {p q : List Int} (g : BoardM W H L) (hp : walkB W H L A B p = true) (hq : walkB W H L A B q = true) (hd : disjB p q = true) : (p ++ q).length ≤ 64 := by
  have ha := g.area
  obtain ⟨p1, p2, p3⟩ := walkB_has hp
  obtain ⟨q1, q2, q3⟩ := walkB_has hq
  unfold walkB at hp hq
  rw [Bool.and_eq_true] at hp hq
  have := few_of_once (p ++ q) (W * H).toNat (fun x hx => by
    rcases List.mem_append.1 hx with h | h
    · have := has_range (p3 x h); omega
    · have := has_range (q3 x h); omega) (fun x => by
    rw [List.count_append]
    have h1 := norep_once p [] hp.2 x
    have h2 := norep_once q [] hq.2 x
    by_cases hx : x ∈ p
    · have h3 := List.all_eq_true.1 hd x hx
      have h4 : q.count x = 0 := List.count_eq_zero.2 (by simpa using h3)
      omega
    · have h4 : p.count x = 0 := List.count_eq_zero.2 hx
      omega)
  omega
end
end Go.Proofs.Ytbecdckdbeoomaa.H

/- Two walks without a cell in common: the program's test; the conditions (a board that is one, lengths) stand in each theorem. -/
import Derived.Test.YtbecdckdbeoomaaHWalked
import Derived.Test.YtbecdckdbeoomaaHChain
import Derived.Test.YtbecdckdbeoomaaQ26
namespace Go.Proofs.Ytbecdckdbeoomaa.H
open Go.RowKit Go.IntWalk Go.Proofs.Ytbecdckdbeoomaa.Q Go.Proofs.YtbecdckdbeoomaaW.PrintWords Go.Proofs.YtbecdckdbeoomaaW.PrintMore
set_option linter.unusedVariables false
set_option linter.unusedSimpArgs false
section
variable {W H : Int} {L : List Int} {A B : Int}
theorem apart_loop (q : List Int) (hq : q.length ≤ 1048576) (cs : List Int) (nr : List (List Int)) (rest pre : List Int) (hp : (pre ++ rest).length ≤ 64) :
    Ev (fun k => impl_apart.l0 k q (pre ++ rest) ((pre ++ rest).length : Int) (pre.length : Int) W H L A B cs nr) (if disjB rest q = true then (cs, nr, true) else (([] : List Int), ([] : List (List Int)), false)) := by
  induction rest generalizing pre with
  | nil =>
    refine Ev.step (fun k => by rw [impl_apart.l0]) ?_
    simp only [List.append_nil, nlt_end, if_false, disjB, List.all_nil, if_true]
    exact Ev.now _
  | cons c r ih =>
    refine Ev.step (fun k => by rw [impl_apart.l0]) ?_
    have h0 : (0 : Int) ≤ (pre.length : Int) := by omega
    have h5 : pre.length ≤ 64 := by simp at hp; omega
    simp only [lt_mid pre c r, h0, if_true, rd_mid, w_succ (show pre.length ≤ 4611686018427387904 by omega)]
    refine Ev.bind (contains_ev q c (by omega)) ?_
    have e : disjB (c :: r) q = (!q.contains c && disjB r q) := rfl
    rw [e]
    rcases Bool.eq_false_or_eq_true (q.contains c) with hx | hx
    · simp only [hx, if_true, Bool.not_true, Bool.false_and, Bool.false_eq_true, if_false]
      exact Ev.now _
    · simp only [hx, Bool.false_eq_true, if_false, Bool.not_false, Bool.true_and]
      have := ih (pre ++ [c]) (by simpa using hp)
      simpa using this
def Apart (W H : Int) (L : List Int) (A B : Int) (p q : List Int) : Prop := Walked W H L A B p ∧ walkB W H L A B q = true ∧ disjB p q = true
theorem apart_yes {p q : List Int} (t : Apart W H L A B p q) (hl : L.length ≤ 1048576) : Ev (fun k => impl_apart.f k W H L A B p q) (cellsM W H L, nearM W H L A B, true) := by
  have hp := walkB_has t.1.2
  have hq := walkB_has t.2.1
  unfold impl_apart.f
  refine Ev.bind (walkGraph_yes t.1 hl) ?_
  simp only [if_true]
  have h1 := isWalk_ev t.1.1.1 hl A B q
  rw [t.2.1] at h1
  refine Ev.bind h1 ?_
  simp only [if_true]
  have h2 := apart_loop (W := W) (H := H) (L := L) (A := A) (B := B) q (by omega) (cellsM W H L) (nearM W H L A B) p [] (by simpa using hp.2.1)
  rw [if_pos t.2.2] at h2
  simpa using h2
theorem apart_no {p q : List Int} (t : ¬ Apart W H L A B p q) (hl : L.length ≤ 1048576) : Ev (fun k => impl_apart.f k W H L A B p q) (([] : List Int), ([] : List (List Int)), false) := by
  unfold impl_apart.f
  by_cases t1 : Walked W H L A B p
  · have hp := walkB_has t1.2
    refine Ev.bind (walkGraph_yes t1 hl) ?_
    simp only [if_true]
    have h1 := isWalk_ev t1.1.1 hl A B q
    rcases Bool.eq_false_or_eq_true (walkB W H L A B q) with hx | hx
    · rw [hx] at h1
      have hq := walkB_has hx
      refine Ev.bind h1 ?_
      simp only [if_true]
      have h2 := apart_loop (W := W) (H := H) (L := L) (A := A) (B := B) q (by omega) (cellsM W H L) (nearM W H L A B) p [] (by simpa using hp.2.1)
      rw [if_neg (fun h => t ⟨t1, hx, h⟩)] at h2
      simpa using h2
    · rw [hx] at h1
      refine Ev.bind h1 ?_
      simp only [Bool.false_eq_true, if_false]
      exact Ev.now _
  · refine Ev.bind (walkGraph_no t1 hl) ?_
    simp only [Bool.false_eq_true, if_false]
    exact Ev.now _
end
end Go.Proofs.Ytbecdckdbeoomaa.H

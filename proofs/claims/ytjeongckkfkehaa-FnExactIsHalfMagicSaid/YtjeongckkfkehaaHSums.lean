/- Sums of rows and columns: the program's loop is the reference's, step by step. -/
import Derived.Test.YtjeongckkfkehaaHWalked
import Derived.Test.YtjeongckkfkehaaQ39
import Derived.Test.YtjeongckkfkehaaQ40
namespace Go.Proofs.Ytjeongckkfkehaa.H
open Go.RowKit Go.IntWalk Go.Proofs.Ytjeongckkfkehaa.Q Go.Proofs.YtjeongckkfkehaaW.PrintWords Go.Proofs.YtjeongckkfkehaaW.PrintMore
set_option linter.unusedVariables false
set_option linter.unusedSimpArgs false
theorem sums_l0_same : ∀ (k : Nat) (a b s : List Int) (n i W H : Int) (L : List Int), impl_Board_sums.l0 k a b s n i W H L = spec_blSums.l0 k a b s n i W H L := by
  intro k
  induction k with
  | zero => intro a b s n i W H L; rfl
  | succ k ih => intro a b s n i W H L; rw [impl_Board_sums.l0, spec_blSums.l0]; simp only [ih]
theorem sums_same (k : Nat) (W H : Int) (L s : List Int) : impl_Board_sums.f k W H L s = spec_blSums.f k W H L s := by
  unfold impl_Board_sums.f spec_blSums.f
  simp only [sums_l0_same]
theorem sums_loop {W H : Int} {L : List Int} (g : BoardM W H L) (rest pre a b : List Int) (hr : ∀ x ∈ rest, hasB W H L x = true) (hp : (pre ++ rest).length ≤ 64) (ha : (a.length : Int) = H) (hb : (b.length : Int) = W) :
    ∃ a' b' : List Int, a'.length = a.length ∧ b'.length = b.length ∧ Ev (fun k => spec_blSums.l0 k a b (pre ++ rest) ((pre ++ rest).length : Int) (pre.length : Int) W H L) (a', b') := by
  induction rest generalizing pre a b with
  | nil =>
    refine ⟨a, b, rfl, rfl, Ev.step (fun k => by rw [spec_blSums.l0]) ?_⟩
    simp only [List.append_nil, nlt_end, if_false]
    exact Ev.now _
  | cons c r ih =>
    have h0 : (0 : Int) ≤ (pre.length : Int) := by omega
    have h5 : pre.length ≤ 64 := by simp at hp; omega
    have hc := has_range (hr c (by simp))
    obtain ⟨p1, p2, p3, p4, p5⟩ := cell_bounds g hc
    have b1 := g.1
    have b3 := g.2.2.2.1
    have n0 : ¬ W = 0 := by omega
    have w1 : wrap64 (c / W) = c / W := wrap64_in _ (by omega)
    have q1 : c / W < (a.length : Int) := by omega
    have q2 : c % W < (b.length : Int) := by omega
    obtain ⟨a', b', e1, e2, h⟩ := ih (pre ++ [c]) (a.set (c / W).toNat (wrap64 (rd a (c / W) + ((pre.length + 1 : Nat) : Int)))) (b.set (c % W).toNat (wrap64 (rd b (c % W) + ((pre.length + 1 : Nat) : Int)))) (fun x hx => hr x (by simp [hx])) (by simpa using hp) (by simpa using ha) (by simpa using hb)
    refine ⟨a', b', by simpa using e1, by simpa using e2, Ev.step (fun k => by rw [spec_blSums.l0]) ?_⟩
    simp only [lt_mid pre c r, h0, if_true, rd_mid, n0, if_false, tmod_of hc.1, tdiv_of hc.1, w1, p1, p3, q1, q2, w_succ (show pre.length ≤ 4611686018427387904 by omega)]
    simpa using h
theorem sums_ev {W H : Int} {L : List Int} (g : BoardM W H L) (s : List Int) (hs : ∀ x ∈ s, hasB W H L x = true) (hp : s.length ≤ 64) : ∃ a b : List Int, a.length ≤ 8 ∧ b.length ≤ 8 ∧ Ev (fun k => spec_blSums.f k W H L s) (a, b) ∧ Ev (fun k => impl_Board_sums.f k W H L s) (a, b) := by
  have b1 := g.1
  have b2 := g.2.1
  have b3 := g.2.2.1
  have b4 := g.2.2.2.1
  obtain ⟨a, b, e1, e2, h⟩ := sums_loop g s [] (List.replicate H.toNat 0) (List.replicate W.toNat 0) hs (by simpa using hp) (by simp; omega) (by simp; omega)
  have h1 : 0 ≤ H := by omega
  have h2 : H.toNat ≤ 35184372088832 := by omega
  have h3 : 0 ≤ W := by omega
  have h4 : W.toNat ≤ 35184372088832 := by omega
  have hS : Ev (fun k => spec_blSums.f k W H L s) (a, b) := by
    unfold spec_blSums.f
    simp only [h1, h2, h3, h4, if_true]
    simpa using h
  refine ⟨a, b, by rw [e1]; simp; omega, by rw [e2]; simp; omega, hS, ?_⟩
  simp only [sums_same]
  exact hS
theorem sums_ev' {W H : Int} {L : List Int} (g : BoardM W H L) (s : List Int) (hs : ∀ x ∈ s, hasB W H L x = true) (hp : s.length ≤ 64) : ∃ a b : List Int, a.length ≤ 8 ∧ b.length ≤ 8 ∧ Ev (fun k => spec_blSums.f k W H L s) (a, b) ∧ Ev (fun k => impl_Board_sums.f k W H L s) (a, b) ∧ (a.length : Int) = H ∧ (b.length : Int) = W := by
  have b1 := g.1
  have b2 := g.2.1
  have b3 := g.2.2.1
  have b4 := g.2.2.2.1
  obtain ⟨a, b, e1, e2, h⟩ := sums_loop g s [] (List.replicate H.toNat 0) (List.replicate W.toNat 0) hs (by simpa using hp) (by simp; omega) (by simp; omega)
  have h1 : 0 ≤ H := by omega
  have h2 : H.toNat ≤ 35184372088832 := by omega
  have h3 : 0 ≤ W := by omega
  have h4 : W.toNat ≤ 35184372088832 := by omega
  have hS : Ev (fun k => spec_blSums.f k W H L s) (a, b) := by
    unfold spec_blSums.f
    simp only [h1, h2, h3, h4, if_true]
    simpa using h
  refine ⟨a, b, by rw [e1]; simp; omega, by rw [e2]; simp; omega, hS, ?_, by rw [e1]; simp; omega, by rw [e2]; simp; omega⟩
  simp only [sums_same]
  exact hS
end Go.Proofs.Ytjeongckkfkehaa.H

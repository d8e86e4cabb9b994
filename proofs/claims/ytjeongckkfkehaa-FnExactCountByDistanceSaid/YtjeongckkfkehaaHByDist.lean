/- The program's count of cells by their distances. -/
import Derived.Test.YtjeongckkfkehaaHCount
import Derived.Test.YtjeongckkfkehaaHMax
import Derived.Test.YtjeongckkfkehaaQ30
namespace Go.Proofs.Ytjeongckkfkehaa.H
open Go.RowKit Go.IntWalk Go.Proofs.Ytjeongckkfkehaa.Q Go.Proofs.YtjeongckkfkehaaW.PrintWords Go.Proofs.YtjeongckkfkehaaW.PrintMore
set_option linter.unusedVariables false
set_option linter.unusedSimpArgs false
theorem byDist_loop (n : Nat) (hn : n ≤ 1000) (rest pre : List Int) (hr : ∀ x ∈ rest, x < (n : Int)) (hp : (pre ++ rest).length ≤ 1000) :
    Ev (fun k => impl_byDistance.l0 k (cntL pre n) (pre ++ rest) ((pre ++ rest).length : Int) (pre.length : Int)) (cntL (pre ++ rest) n) := by
  induction rest generalizing pre with
  | nil =>
    refine Ev.step (fun k => by rw [impl_byDistance.l0]) ?_
    simp only [List.append_nil, nlt_end, if_false]
    exact Ev.now _
  | cons x r ih =>
    refine Ev.step (fun k => by rw [impl_byDistance.l0]) ?_
    have h0 : (0 : Int) ≤ (pre.length : Int) := by omega
    have h5 : pre.length ≤ 1000 := by simp at hp; omega
    have hx := hr x (by simp)
    have go := ih (pre ++ [x]) (fun y hy => hr y (by simp [hy])) (by simpa using hp)
    simp only [lt_mid pre x r, h0, if_true, rd_mid, w_succ (show pre.length ≤ 4611686018427387904 by omega)]
    by_cases c : x ≥ 0
    · have c' : 0 ≤ x := c
      have c2 : x < ((cntL pre n).length : Int) := by rw [cntL_length]; exact hx
      have hb := cntOf_le pre x
      have w : wrap64 (cntOf pre x + 1) = cntOf pre x + 1 := wrap64_in _ (by omega)
      simp only [c, c', c2, if_true, cntL_rd pre n x ⟨c', hx⟩, w, cntL_put pre n x ⟨c', hx⟩]
      simpa using go
    · rw [cntL_neg pre n x (by omega)] at go
      simp only [c, if_false]
      simpa using go
theorem byDistance_ev (l : List Int) (hl : l.length ≤ 1000) (h0 : 0 < l.length) (hM : 0 ≤ Lib.maxOf l) (hM2 : Lib.maxOf l ≤ 500) : Ev (fun k => impl_byDistance.f k l) (cntL l (mostOf l)) := by
  obtain ⟨m1, m2⟩ := maxOf_spec l h0
  obtain ⟨s1, s2⟩ := mostOf_spec l
  have e : mostOf l = (Lib.maxOf l + 1).toNat := by
    have h1 := s1 _ m2
    have h2 := s2 (Lib.maxOf l + 1).toNat (fun x hx => by have := m1 x hx; omega)
    omega
  have w : wrap64 (Lib.maxOf l + 1) = Lib.maxOf l + 1 := wrap64_in _ (by omega)
  have c1 : 0 ≤ Lib.maxOf l + 1 := by omega
  have c2 : (Lib.maxOf l + 1).toNat ≤ 35184372088832 := by omega
  unfold impl_byDistance.f
  simp only [slices_Max_int_int.f, h0, if_true, Option.bind_some, w, c1, c2]
  rw [← e]
  have z : List.replicate (mostOf l) (0 : Int) = cntL [] (mostOf l) := by
    refine List.ext_getElem (by simp [cntL_length]) fun i h1 h2 => ?_
    rw [cntL_get]
    simp [cntOf]
  rw [z]
  have := byDist_loop (mostOf l) (by omega) l [] (fun x hx => s1 x hx) (by simpa using hl)
  simpa using this
end Go.Proofs.Ytjeongckkfkehaa.H

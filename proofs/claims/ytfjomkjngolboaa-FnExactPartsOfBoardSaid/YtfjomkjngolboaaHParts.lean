/- Parts of a board, told alike by the reference and the program: both go through the cells in the same order. -/
import Derived.Test.YtfjomkjngolboaaHFar
import Derived.Test.YtfjomkjngolboaaQ4
import Derived.Test.YtfjomkjngolboaaQ8
namespace Go.Proofs.Ytfjomkjngolboaa.H
open Go.RowKit Go.IntWalk Go.Proofs.Ytfjomkjngolboaa.Q Go.Proofs.YtfjomkjngolboaaW.PrintWords Go.Proofs.YtfjomkjngolboaaW.PrintMore
set_option linter.unusedVariables false
set_option linter.unusedSimpArgs false
def pRow : Int → List Int → List Bool → List Int → List Bool × List Int
  | _, [], s, p => (s, p)
  | i, x :: r, s, p => if x ≥ 0 then pRow (i + 1) r (s.set i.toNat true) (p ++ [i]) else pRow (i + 1) r s p
def partsR (far : Int → List Int) : List Int → List Bool → List (List Int) → List (List Int)
  | [], _, out => out
  | c :: r, s, out => if rdOf false s c = true then partsR far r s out else partsR far r (pRow 0 (far c) s []).1 (out ++ [(pRow 0 (far c) s []).2])
theorem pRow_length (l : List Int) : ∀ i s p, (pRow i l s p).1.length = s.length := by
  induction l with
  | nil => intro i s p; rfl
  | cons x r ih => intro i s p; rw [pRow]; split <;> rw [ih] <;> simp
theorem pRow_small (l : List Int) : ∀ i s p, (pRow i l s p).2.length ≤ p.length + l.length := by
  induction l with
  | nil => intro i s p; simp [pRow]
  | cons x r ih =>
    intro i s p
    rw [pRow]
    split
    · have := ih (i + 1) (s.set i.toNat true) (p ++ [i]); simp at this ⊢; omega
    · have := ih (i + 1) s p; simp; omega
theorem partsR_length (far : Int → List Int) (cs : List Int) : ∀ s out, (partsR far cs s out).length ≤ out.length + cs.length := by
  induction cs with
  | nil => intro s out; simp [partsR]
  | cons c r ih =>
    intro s out
    rw [partsR]
    split
    · have := ih s out; simp; omega
    · have := ih (pRow 0 (far c) s []).1 (out ++ [(pRow 0 (far c) s []).2]); simp at this ⊢; omega
section
variable {W H : Int} {L : List Int} {A B : Int}
theorem faParts_l1 (cs : List Int) (i : Nat) (hi : i ≤ 64) (out : List (List Int)) (ho : out.length ≤ 64) (R : List (List Int)) (rest pre : List Int) (hp : (pre ++ rest).length ≤ 64) : ∀ (s : List Bool) (p : List Int), s.length = (pre ++ rest).length → p.length ≤ pre.length →
    Ev (fun k => spec_faParts.l0 k (pRow (pre.length : Int) rest s p).1 (out ++ [(pRow (pre.length : Int) rest s p).2]) cs (cs.length : Int) ((i + 1 : Nat) : Int) W H L A B) R →
    Ev (fun k => spec_faParts.l1 k s out p cs (cs.length : Int) (i : Int) (pre ++ rest) ((pre ++ rest).length : Int) (pre.length : Int) W H L A B) R := by
  induction rest generalizing pre with
  | nil =>
    intro s p hs hpl hR
    refine Ev.step (fun k => by rw [spec_faParts.l1]) ?_
    have h1 : out.length < 5864062014805 := by omega
    simp only [List.append_nil, nlt_end, if_false, h1, if_true, w_succ (show i ≤ 4611686018427387904 by omega)]
    simpa [pRow] using hR
  | cons x r ih =>
    intro s p hs hpl hR
    refine Ev.step (fun k => by rw [spec_faParts.l1]) ?_
    have h0 : (0 : Int) ≤ (pre.length : Int) := by omega
    have h5 : pre.length ≤ 64 := by simp at hp; omega
    have h6 : p.length < 17592186044416 := by omega
    have h7 : (pre.length : Int) < (s.length : Int) := by simp at hs; omega
    simp only [lt_mid pre x r, h0, if_true, rd_mid, w_succ (show pre.length ≤ 4611686018427387904 by omega)]
    rw [pRow] at hR
    by_cases c : x ≥ 0
    · simp only [c, if_true, h6, h7] at hR ⊢
      have := ih (pre ++ [x]) (by simpa using hp) (s.set ((pre.length : Int)).toNat true) (p ++ [(pre.length : Int)]) (by simpa using hs) (by simp; omega) (by simpa using hR)
      simpa using this
    · simp only [c, if_false] at hR ⊢
      have := ih (pre ++ [x]) (by simpa using hp) s p (by simpa using hs) (by simp; omega) (by simpa using hR)
      simpa using this
theorem faParts_l0 (g : BoardM W H L) (hl : L.length ≤ 1048576) (rest pre : List Int) (hr : ∀ c ∈ rest, hasB W H L c = true) (hp : (pre ++ rest).length ≤ 64) : ∀ (s : List Bool) (out : List (List Int)), (s.length : Int) = W * H → out.length ≤ pre.length →
    Ev (fun k => spec_faParts.l0 k s out (pre ++ rest) ((pre ++ rest).length : Int) (pre.length : Int) W H L A B) (partsR (farM W H L A B) rest s out) := by
  have ha := g.area
  induction rest generalizing pre with
  | nil =>
    intro s out hs ho
    refine Ev.step (fun k => by rw [spec_faParts.l0]) ?_
    simp only [List.append_nil, nlt_end, if_false, partsR]
    exact Ev.now _
  | cons c r ih =>
    intro s out hs ho
    refine Ev.step (fun k => by rw [spec_faParts.l0]) ?_
    have h0 : (0 : Int) ≤ (pre.length : Int) := by omega
    have h5 : pre.length ≤ 64 := by simp at hp; omega
    have hc := has_range (hr c (by simp))
    have h7 : c < (s.length : Int) := by omega
    have hf := farM_keep (A := A) (B := B) g hc
    simp only [lt_mid pre c r, h0, if_true, rd_mid, hc.1, h7, w_succ (show pre.length ≤ 4611686018427387904 by omega), partsR]
    by_cases d : rdOf false s c = true
    · simp only [d, if_true]
      have := ih (pre ++ [c]) (fun x hx => hr x (by simp [hx])) (by simpa using hp) s out hs (by simp; omega)
      simpa using this
    · simp only [d, if_false]
      refine Ev.bind (faFrom_ev g hl c hc) ?_
      have := ih (pre ++ [c]) (fun x hx => hr x (by simp [hx])) (by simpa using hp) (pRow 0 (farM W H L A B c) s []).1 (out ++ [(pRow 0 (farM W H L A B c) s []).2]) (by rw [pRow_length]; exact hs) (by simp; omega)
      have := faParts_l1 (W := W) (H := H) (L := L) (A := A) (B := B) (pre ++ c :: r) pre.length h5 out (by omega) _ (farM W H L A B c) [] (by simp; omega) s [] (by simp; omega) (by simp) (by simpa using this)
      simpa using this
theorem faParts_ev (g : BoardM W H L) (hl : L.length ≤ 1048576) : Ev (fun k => spec_faParts.f k W H L A B) (partsR (farM W H L A B) (cellsM W H L) (List.replicate (W * H).toNat false) []) := by
  have ha := g.area
  have h1 : 0 ≤ W * H := by omega
  have h2 : (W * H).toNat ≤ 281474976710656 := by omega
  unfold spec_faParts.f
  simp only [g.wrapArea, h1, h2, if_true]
  refine Ev.bind (boCells_ev g hl) ?_
  have := faParts_l0 (A := A) (B := B) g hl (cellsM W H L) [] (fun c hc => mem_cellsM.1 hc) (by simpa using cellsM_length g) (List.replicate (W * H).toNat false) [] (by simp; omega) (by simp)
  simpa using this
theorem parts_l1 (cs : List Int) (i : Nat) (hi : i ≤ 64) (out : List (List Int)) (ho : out.length ≤ 64) (R : List (List Int)) (rest pre : List Int) (hp : (pre ++ rest).length ≤ 64) : ∀ (s : List Bool) (p : List Int), s.length = (pre ++ rest).length → p.length ≤ pre.length →
    Ev (fun k => impl_graph_parts.l0 k (out ++ [(pRow (pre.length : Int) rest s p).2]) (pRow (pre.length : Int) rest s p).1 cs (cs.length : Int) ((i + 1 : Nat) : Int) W H L A B (cellsM W H L) (nearM W H L A B)) R →
    Ev (fun k => impl_graph_parts.l1 k out s p cs (cs.length : Int) (i : Int) (pre ++ rest) ((pre ++ rest).length : Int) (pre.length : Int) W H L A B (cellsM W H L) (nearM W H L A B)) R := by
  induction rest generalizing pre with
  | nil =>
    intro s p hs hpl hR
    refine Ev.step (fun k => by rw [impl_graph_parts.l1]) ?_
    have h1 : out.length < 5864062014805 := by omega
    simp only [List.append_nil, nlt_end, if_false, h1, if_true, w_succ (show i ≤ 4611686018427387904 by omega)]
    simpa [pRow] using hR
  | cons x r ih =>
    intro s p hs hpl hR
    refine Ev.step (fun k => by rw [impl_graph_parts.l1]) ?_
    have h0 : (0 : Int) ≤ (pre.length : Int) := by omega
    have h5 : pre.length ≤ 64 := by simp at hp; omega
    have h6 : p.length < 17592186044416 := by omega
    have h7 : (pre.length : Int) < (s.length : Int) := by simp at hs; omega
    simp only [lt_mid pre x r, h0, if_true, rd_mid, w_succ (show pre.length ≤ 4611686018427387904 by omega)]
    rw [pRow] at hR
    by_cases c : x ≥ 0
    · simp only [c, if_true, h6, h7] at hR ⊢
      have := ih (pre ++ [x]) (by simpa using hp) (s.set ((pre.length : Int)).toNat true) (p ++ [(pre.length : Int)]) (by simpa using hs) (by simp; omega) (by simpa using hR)
      simpa using this
    · simp only [c, if_false] at hR ⊢
      have := ih (pre ++ [x]) (by simpa using hp) s p (by simpa using hs) (by simp; omega) (by simpa using hR)
      simpa using this
theorem parts_l0 (g : BoardM W H L) (rest pre : List Int) (hr : ∀ c ∈ rest, hasB W H L c = true) (hp : (pre ++ rest).length ≤ 64) : ∀ (s : List Bool) (out : List (List Int)), (s.length : Int) = W * H → out.length ≤ pre.length →
    Ev (fun k => impl_graph_parts.l0 k out s (pre ++ rest) ((pre ++ rest).length : Int) (pre.length : Int) W H L A B (cellsM W H L) (nearM W H L A B)) (partsR (farM W H L A B) rest s out) := by
  have ha := g.area
  induction rest generalizing pre with
  | nil =>
    intro s out hs ho
    refine Ev.step (fun k => by rw [impl_graph_parts.l0]) ?_
    simp only [List.append_nil, nlt_end, if_false, partsR]
    exact Ev.now _
  | cons c r ih =>
    intro s out hs ho
    refine Ev.step (fun k => by rw [impl_graph_parts.l0]) ?_
    have h0 : (0 : Int) ≤ (pre.length : Int) := by omega
    have h5 : pre.length ≤ 64 := by simp at hp; omega
    have hh := hr c (by simp)
    have hc := has_range hh
    have h7 : c < (s.length : Int) := by omega
    have hf := farM_keep (A := A) (B := B) g hc
    simp only [lt_mid pre c r, h0, if_true, rd_mid, hc.1, h7, w_succ (show pre.length ≤ 4611686018427387904 by omega), partsR]
    by_cases d : rdOf false s c = true
    · simp only [d, if_true]
      have := ih (pre ++ [c]) (fun x hx => hr x (by simp [hx])) (by simpa using hp) s out hs (by simp; omega)
      simpa using this
    · simp only [d, if_false]
      refine Ev.bind (far_ev g c hh) ?_
      have := ih (pre ++ [c]) (fun x hx => hr x (by simp [hx])) (by simpa using hp) (pRow 0 (farM W H L A B c) s []).1 (out ++ [(pRow 0 (farM W H L A B c) s []).2]) (by rw [pRow_length]; exact hs) (by simp; omega)
      have := parts_l1 (W := W) (H := H) (L := L) (A := A) (B := B) (pre ++ c :: r) pre.length h5 out (by omega) _ (farM W H L A B c) [] (by simp; omega) s [] (by simp; omega) (by simp) (by simpa using this)
      simpa using this
theorem parts_ev (g : BoardM W H L) : Ev (fun k => impl_graph_parts.f k W H L A B (cellsM W H L) (nearM W H L A B)) (partsR (farM W H L A B) (cellsM W H L) (List.replicate (W * H).toNat false) []) := by
  have ha := g.area
  have h1 : (0 : Int) ≤ ((nearM W H L A B).length : Int) := by omega
  have h3 : (((nearM W H L A B).length : Int)).toNat = (W * H).toNat := by rw [nearM_length]; omega
  have h2 : (W * H).toNat ≤ 281474976710656 := by omega
  unfold impl_graph_parts.f
  simp only [h1, h3, h2, if_true]
  have := parts_l0 (A := A) (B := B) g (cellsM W H L) [] (fun c hc => mem_cellsM.1 hc) (by simpa using cellsM_length g) (List.replicate (W * H).toNat false) [] (by simp; omega) (by simp)
  simpa using this
end
end Go.Proofs.Ytfjomkjngolboaa.H

/- The program's count of paths of so many leaps, as rounds of one plain step over the cells; the conditions (a board that is one, lengths) stand in each theorem. -/
import Derived.Test.YtjeongckkfkehaaHTwo
import Derived.Test.YtjeongckkfkehaaQ26
namespace Go.Proofs.Ytjeongckkfkehaa.H
open Go.RowKit Go.IntWalk Go.Proofs.Ytjeongckkfkehaa.Q Go.Proofs.YtjeongckkfkehaaW.PrintWords Go.Proofs.YtjeongckkfkehaaW.PrintMore
set_option linter.unusedVariables false
set_option linter.unusedSimpArgs false
def wadd (vc : Int) (ds o : List Int) : List Int := ds.foldl (fun o d => o.set d.toNat (wrap64 (rd o d + vc))) o
def WInv (W H : Int) (L o : List Int) : Prop := (o.length : Int) = W * H ∧ (∀ i : Nat, i < o.length → I64 (rd o i)) ∧ (∀ i : Nat, i < o.length → rd o i ≠ 0 → hasB W H L i = true)
theorem wrap64_i64 (z : Int) : I64 (wrap64 z) := by unfold wrap64 I64; omega
theorem wInv_set {W H : Int} {L o : List Int} (h : WInv W H L o) {d z : Int} (hd : hasB W H L d = true) (hz : I64 z) : WInv W H L (o.set d.toNat z) := by
  have hr := has_range hd
  have hr' : 0 ≤ d ∧ d < (o.length : Int) := ⟨hr.1, by rw [h.1]; exact hr.2⟩
  refine ⟨by simpa using h.1, fun i hi => ?_, fun i hi hne => ?_⟩
  · rw [rd_set o d z hr' i]
    split
    · exact hz
    · exact h.2.1 i (by simpa using hi)
  · rw [rd_set o d z hr' i] at hne
    split at hne
    · rename_i e; rw [e]; exact hd
    · exact h.2.2 i (by simpa using hi) hne
theorem wInv_wadd {W H : Int} {L : List Int} (vc : Int) (ds : List Int) : ∀ o, (∀ d ∈ ds, hasB W H L d = true) → WInv W H L o → WInv W H L (wadd vc ds o) := by
  induction ds with
  | nil => intro o _ h; exact h
  | cons d r ih => intro o hd h; exact ih _ (fun x hx => hd x (by simp [hx])) (wInv_set h (hd d (by simp)) (wrap64_i64 _))
theorem set_same {W H : Int} {L o : List Int} (h : WInv W H L o) {d : Int} (hd : hasB W H L d = true) : o.set d.toNat (wrap64 (rd o d + 0)) = o := by
  have hr := has_range hd
  have hlt : d.toNat < o.length := by have := h.1; omega
  have h1 : I64 (rd o d) := by
    have := h.2.1 d.toNat hlt
    rwa [show ((d.toNat : Nat) : Int) = d by omega] at this
  rw [show rd o d + 0 = rd o d by omega, wrap64_in _ h1]
  have e : rd o d = o[d.toNat] := by unfold rd; rw [List.getD_eq_getElem?_getD, List.getElem?_eq_getElem hlt]; rfl
  rw [e]
  exact List.set_getElem_self hlt
theorem wadd_zero {W H : Int} {L : List Int} (ds : List Int) : ∀ o, (∀ d ∈ ds, hasB W H L d = true) → WInv W H L o → wadd 0 ds o = o := by
  induction ds with
  | nil => intro o _ _; rfl
  | cons d r ih =>
    intro o hd h
    show wadd 0 r (o.set d.toNat (wrap64 (rd o d + 0))) = o
    rw [set_same h (hd d (by simp))]
    exact ih o (fun x hx => hd x (by simp [hx])) h
def wfold (nr : List (List Int)) (v : List Int) (cs : List Nat) (o : List Int) : List Int := cs.foldl (fun o (c : Nat) => wadd (rd v (c : Int)) (rd_L1 nr (c : Int)) o) o
def wstep (nr : List (List Int)) (v : List Int) : List Int := wfold nr v (List.range' 0 v.length) (List.replicate v.length 0)
def wit (nr : List (List Int)) : Nat → List Int → List Int
  | 0, v => v
  | m + 1, v => wit nr m (wstep nr v)
theorem wInv_zeros {W H : Int} {L : List Int} (n : Nat) (h : (n : Int) = W * H) : WInv W H L (List.replicate n 0) := by
  have e : ∀ i : Nat, rd (List.replicate n 0) (i : Int) = 0 := by
    intro i
    unfold rd
    rw [List.getD_eq_getElem?_getD, List.getElem?_replicate]
    split <;> rfl
  refine ⟨by simpa using h, fun i _ => ?_, fun i _ hne => absurd (e i) hne⟩
  rw [e i]; unfold I64; omega
theorem wInv_fold {W H : Int} {L : List Int} {A B : Int} (v : List Int) (cs : List Nat) : ∀ o, (∀ c ∈ cs, (c : Int) < W * H) → WInv W H L o → WInv W H L (wfold (nearM W H L A B) v cs o) := by
  induction cs with
  | nil => intro o _ h; exact h
  | cons c r ih =>
    intro o hc h
    exact ih _ (fun x hx => hc x (by simp [hx])) (wInv_wadd _ _ _ (near_has (c : Int) ⟨by omega, hc c (by simp)⟩) h)
theorem wInv_step {W H : Int} {L : List Int} {A B : Int} {v : List Int} (h : WInv W H L v) : WInv W H L (wstep (nearM W H L A B) v) := by
  refine wInv_fold v _ _ (fun c hc => ?_) (wInv_zeros _ h.1)
  have := List.mem_range'.1 hc
  obtain ⟨i, hi, rfl⟩ := this
  have := h.1
  omega
section
variable {W H : Int} {L : List Int} {A B : Int}
theorem ways_l2 (g : BoardM W H L) (tt n vc : Int) (v : List Int) (i c : Nat) (hc : c ≤ 64) (R : Int) (rest pre o : List Int) (hr : ∀ d ∈ rest, hasB W H L d = true) (hp : (pre ++ rest).length ≤ 64) (ho : (o.length : Int) = W * H)
    (hR : Ev (fun k => impl_graph_ways.l1 k tt (wadd vc rest o) n (i : Int) v (v.length : Int) ((c + 1 : Nat) : Int) W H L A B (cellsM W H L) (nearM W H L A B)) R) :
    Ev (fun k => impl_graph_ways.l2 k tt o vc n (i : Int) v (v.length : Int) (c : Int) (pre ++ rest) ((pre ++ rest).length : Int) (pre.length : Int) W H L A B (cellsM W H L) (nearM W H L A B)) R := by
  induction rest generalizing pre o with
  | nil =>
    refine Ev.step (fun k => by rw [impl_graph_ways.l2]) ?_
    simp only [List.append_nil, nlt_end, if_false, w_succ (show c ≤ 4611686018427387904 by omega)]
    exact hR
  | cons d r ih =>
    refine Ev.step (fun k => by rw [impl_graph_ways.l2]) ?_
    have h0 : (0 : Int) ≤ (pre.length : Int) := by omega
    have h5 : pre.length ≤ 64 := by simp at hp; omega
    have hd := has_range (hr d (by simp))
    have hd2 : d < (o.length : Int) := by omega
    simp only [lt_mid pre d r, h0, if_true, rd_mid, hd.1, hd2, w_succ (show pre.length ≤ 4611686018427387904 by omega)]
    have := ih (pre ++ [d]) (o.set d.toNat (wrap64 (rd o d + vc))) (fun x hx => hr x (by simp [hx])) (by simpa using hp) (by simpa using ho) hR
    simpa using this
theorem ways_l1 (g : BoardM W H L) (tt n : Int) (v : List Int) (hv : (v.length : Int) = W * H) (i : Nat) (hi : i ≤ 64) (R : Int) : ∀ (m c : Nat), m + c = v.length → ∀ o : List Int, (o.length : Int) = W * H →
    Ev (fun k => impl_graph_ways.l0 k tt (wfold (nearM W H L A B) v (List.range' c m) o) n ((i + 1 : Nat) : Int) W H L A B (cellsM W H L) (nearM W H L A B)) R →
    Ev (fun k => impl_graph_ways.l1 k tt o n (i : Int) v (v.length : Int) (c : Int) W H L A B (cellsM W H L) (nearM W H L A B)) R := by
  have ha := g.area
  intro m
  induction m with
  | zero =>
    intro c h1 o ho hR
    refine Ev.step (fun k => by rw [impl_graph_ways.l1]) ?_
    have h3 : ¬ ((c : Int) < (v.length : Int)) := by omega
    simp only [h3, if_false, w_succ (show i ≤ 4611686018427387904 by omega)]
    simpa [wfold] using hR
  | succ m ih =>
    intro c h1 o ho hR
    refine Ev.step (fun k => by rw [impl_graph_ways.l1]) ?_
    have h3 : (c : Int) < (v.length : Int) := by omega
    have h4 : (0 : Int) ≤ (c : Int) := by omega
    have h5 : (c : Int) < ((nearM W H L A B).length : Int) := by rw [nearM_length]; omega
    simp only [h3, h4, h5, if_true]
    have hrow := near_has (W := W) (H := H) (L := L) (A := A) (B := B) (c : Int) ⟨h4, by omega⟩
    have hsm := near_small g A B (c : Int) ⟨h4, by omega⟩
    have hlen : ∀ (ds o : List Int), (wadd (rd v (c : Int)) ds o).length = o.length := by
      intro ds
      induction ds with
      | nil => intro o; rfl
      | cons d r ih => intro o; show (wadd _ r _).length = _; rw [ih]; simp
    have := ways_l2 (A := A) (B := B) g tt n (rd v (c : Int)) v i c (by omega) R (rd_L1 (nearM W H L A B) (c : Int)) [] o hrow (by simpa using hsm) ho ?_
    · simpa using this
    · refine ih (c + 1) (by omega) _ (by rw [hlen]; exact ho) ?_
      rw [List.range'_succ] at hR
      exact hR
theorem ways_l0 (g : BoardM W H L) (tt n : Int) (htt : hasB W H L tt = true) (hn : n ≤ 64) : ∀ (m i : Nat), (m : Int) + i = n → ∀ v : List Int, (v.length : Int) = W * H →
    Ev (fun k => impl_graph_ways.l0 k tt v n (i : Int) W H L A B (cellsM W H L) (nearM W H L A B)) (rd (wit (nearM W H L A B) m v) tt) := by
  have ha := g.area
  have hr := has_range htt
  intro m
  induction m with
  | zero =>
    intro i h1 v hv
    refine Ev.step (fun k => by rw [impl_graph_ways.l0]) ?_
    have h3 : ¬ ((i : Int) < n) := by omega
    have h4 : tt < (v.length : Int) := by omega
    simp only [h3, if_false, hr.1, h4, if_true, wit]
    exact Ev.now _
  | succ m ih =>
    intro i h1 v hv
    refine Ev.step (fun k => by rw [impl_graph_ways.l0]) ?_
    have h3 : (i : Int) < n := by omega
    have h4 : (0 : Int) ≤ (v.length : Int) := by omega
    have h5 : v.length ≤ 35184372088832 := by omega
    have h6 : ((v.length : Int)).toNat = v.length := by omega
    simp only [h3, h4, h5, if_true, h6]
    have hw : ((wstep (nearM W H L A B) v).length : Int) = W * H := by
      have hlen : ∀ (vc : Int) (ds o : List Int), (wadd vc ds o).length = o.length := by
        intro vc ds
        induction ds with
        | nil => intro o; rfl
        | cons d r ih => intro o; show (wadd _ r _).length = _; rw [ih]; simp
      have hlen2 : ∀ (cs : List Nat) (o : List Int), (wfold (nearM W H L A B) v cs o).length = o.length := by
        intro cs
        induction cs with
        | nil => intro o; rfl
        | cons c r ih => intro o; show (wfold _ v r _).length = _; rw [ih, hlen]
      rw [wstep, hlen2]; simpa using hv
    have := ways_l1 (A := A) (B := B) g tt n v hv i (by omega) (rd (wit (nearM W H L A B) (m + 1) v) tt) v.length 0 rfl (List.replicate v.length 0) (by simpa using hv) (ih (i + 1) (by omega) (wstep (nearM W H L A B) v) hw)
    simpa using this
end
end Go.Proofs.Ytjeongckkfkehaa.H

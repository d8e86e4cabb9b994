/- CountPaths: the program and the reference count alike, so the law's function answers true for all arguments. -/
import Derived.Test.YtekajjhjjnfdpaaStateFnExactCountPaths
import Derived.Test.YtekajjhjjnfdpaaHTwo
import Derived.Test.YtekajjhjjnfdpaaQ20
import Derived.Test.YtekajjhjjnfdpaaQ21
namespace Go.Proofs.Ytekajjhjjnfdpaa.Pure
open Go.RowKit Go.IntWalk Go.Proofs.Ytekajjhjjnfdpaa.Q Go.Proofs.Ytekajjhjjnfdpaa.H Go.Proofs.YtekajjhjjnfdpaaW.PrintWords Go.Proofs.YtekajjhjjnfdpaaW.PrintMore
set_option linter.unusedVariables false
set_option linter.unusedSimpArgs false
def wadd (vc : Int) (ds o : List Int) : List Int := ds.foldl (fun o d => o.set d.toNat (wrap64 (rd o d + vc))) o
def WInv (W H : Int) (L o : List Int) : Prop := (o.length : Int) = W * H ∧ (∀ i : Nat, i < o.length → I64 (rd o i)) ∧ (∀ i : Nat, i < o.length → rd o i ≠ 0 → hasB W H L i = true)
theorem wrap64_i64 (z : Int) : I64 (wrap64 z) := by unfold wrap64 I64; omega
theorem wInv_set {W H : Int} {L o : List Int} (h : WInv W H L o) {d z : Int} (hd : hasB W H L d = true) (hz : I64 z) : WInv W H L (o.set d.toNat z) := by
  have hr := has_range hd
  have hr' : 0 ≤ d ∧ d < (o.length : Int) := ⟨hr.1, by rw [h.1]; exact hr.2⟩
  refine ⟨by simpa using h.1, fun i hi => ?_, fun i hi hne => ?_⟩
  · rw [rd_set o d z hr' i]
    split
    · exact hz
    · exact h.2.1 i (by simpa using hi)
  · rw [rd_set o d z hr' i] at hne
    split at hne
    · rename_i e; rw [e]; exact hd
    · exact h.2.2 i (by simpa using hi) hne
theorem wInv_wadd {W H : Int} {L : List Int} (vc : Int) (ds : List Int) : ∀ o, (∀ d ∈ ds, hasB W H L d = true) → WInv W H L o → WInv W H L (wadd vc ds o) := by
  induction ds with
  | nil => intro o _ h; exact h
  | cons d r ih => intro o hd h; exact ih _ (fun x hx => hd x (by simp [hx])) (wInv_set h (hd d (by simp)) (wrap64_i64 _))
theorem set_same {W H : Int} {L o : List Int} (h : WInv W H L o) {d : Int} (hd : hasB W H L d = true) : o.set d.toNat (wrap64 (rd o d + 0)) = o := by
  have hr := has_range hd
  have hlt : d.toNat < o.length := by have := h.1; omega
  have h1 : I64 (rd o d) := by
    have := h.2.1 d.toNat hlt
    rwa [show ((d.toNat : Nat) : Int) = d by omega] at this
  rw [show rd o d + 0 = rd o d by omega, wrap64_in _ h1]
  have e : rd o d = o[d.toNat] := by unfold rd; rw [List.getD_eq_getElem?_getD, List.getElem?_eq_getElem hlt]; rfl
  rw [e]
  exact List.set_getElem_self hlt
theorem wadd_zero {W H : Int} {L : List Int} (ds : List Int) : ∀ o, (∀ d ∈ ds, hasB W H L d = true) → WInv W H L o → wadd 0 ds o = o := by
  induction ds with
  | nil => intro o _ _; rfl
  | cons d r ih =>
    intro o hd h
    show wadd 0 r (o.set d.toNat (wrap64 (rd o d + 0))) = o
    rw [set_same h (hd d (by simp))]
    exact ih o (fun x hx => hd x (by simp [hx])) h
def wfold (nr : List (List Int)) (v : List Int) (cs : List Nat) (o : List Int) : List Int := cs.foldl (fun o (c : Nat) => wadd (rd v (c : Int)) (rd_L1 nr (c : Int)) o) o
def wstep (nr : List (List Int)) (v : List Int) : List Int := wfold nr v (List.range' 0 v.length) (List.replicate v.length 0)
def wit (nr : List (List Int)) : Nat → List Int → List Int
  | 0, v => v
  | m + 1, v => wit nr m (wstep nr v)
theorem wInv_zeros {W H : Int} {L : List Int} (n : Nat) (h : (n : Int) = W * H) : WInv W H L (List.replicate n 0) := by
  have e : ∀ i : Nat, rd (List.replicate n 0) (i : Int) = 0 := by
    intro i
    unfold rd
    rw [List.getD_eq_getElem?_getD, List.getElem?_replicate]
    split <;> rfl
  refine ⟨by simpa using h, fun i _ => ?_, fun i _ hne => absurd (e i) hne⟩
  rw [e i]; unfold I64; omega
theorem wInv_fold {W H : Int} {L : List Int} {A B : Int} (v : List Int) (cs : List Nat) : ∀ o, (∀ c ∈ cs, (c : Int) < W * H) → WInv W H L o → WInv W H L (wfold (nearM W H L A B) v cs o) := by
  induction cs with
  | nil => intro o _ h; exact h
  | cons c r ih =>
    intro o hc h
    exact ih _ (fun x hx => hc x (by simp [hx])) (wInv_wadd _ _ _ (near_has (c : Int) ⟨by omega, hc c (by simp)⟩) h)
theorem wInv_step {W H : Int} {L : List Int} {A B : Int} {v : List Int} (h : WInv W H L v) : WInv W H L (wstep (nearM W H L A B) v) := by
  refine wInv_fold v _ _ (fun c hc => ?_) (wInv_zeros _ h.1)
  have := List.mem_range'.1 hc
  obtain ⟨i, hi, rfl⟩ := this
  have := h.1
  omega
section
variable {W H : Int} {L : List Int} {A B : Int}
theorem ways_l2 (g : BoardM W H L) (tt n vc : Int) (v : List Int) (i c : Nat) (hc : c ≤ 64) (R : Int) (rest pre o : List Int) (hr : ∀ d ∈ rest, hasB W H L d = true) (hp : (pre ++ rest).length ≤ 64) (ho : (o.length : Int) = W * H)
    (hR : Ev (fun k => impl_graph_ways.l1 k tt (wadd vc rest o) n (i : Int) v (v.length : Int) ((c + 1 : Nat) : Int) W H L A B (cellsM W H L) (nearM W H L A B)) R) :
    Ev (fun k => impl_graph_ways.l2 k tt o vc n (i : Int) v (v.length : Int) (c : Int) (pre ++ rest) ((pre ++ rest).length : Int) (pre.length : Int) W H L A B (cellsM W H L) (nearM W H L A B)) R := by
  induction rest generalizing pre o with
  | nil =>
    refine Ev.step (fun k => by rw [impl_graph_ways.l2]) ?_
    simp only [List.append_nil, nlt_end, if_false, w_succ (show c ≤ 4611686018427387904 by omega)]
    exact hR
  | cons d r ih =>
    refine Ev.step (fun k => by rw [impl_graph_ways.l2]) ?_
    have h0 : (0 : Int) ≤ (pre.length : Int) := by omega
    have h5 : pre.length ≤ 64 := by simp at hp; omega
    have hd := has_range (hr d (by simp))
    have hd2 : d < (o.length : Int) := by omega
    simp only [lt_mid pre d r, h0, if_true, rd_mid, hd.1, hd2, w_succ (show pre.length ≤ 4611686018427387904 by omega)]
    have := ih (pre ++ [d]) (o.set d.toNat (wrap64 (rd o d + vc))) (fun x hx => hr x (by simp [hx])) (by simpa using hp) (by simpa using ho) hR
    simpa using this
theorem ways_l1 (g : BoardM W H L) (tt n : Int) (v : List Int) (hv : (v.length : Int) = W * H) (i : Nat) (hi : i ≤ 64) (R : Int) : ∀ (m c : Nat), m + c = v.length → ∀ o : List Int, (o.length : Int) = W * H →
    Ev (fun k => impl_graph_ways.l0 k tt (wfold (nearM W H L A B) v (List.range' c m) o) n ((i + 1 : Nat) : Int) W H L A B (cellsM W H L) (nearM W H L A B)) R →
    Ev (fun k => impl_graph_ways.l1 k tt o n (i : Int) v (v.length : Int) (c : Int) W H L A B (cellsM W H L) (nearM W H L A B)) R := by
  have ha := g.area
  intro m
  induction m with
  | zero =>
    intro c h1 o ho hR
    refine Ev.step (fun k => by rw [impl_graph_ways.l1]) ?_
    have h3 : ¬ ((c : Int) < (v.length : Int)) := by omega
    simp only [h3, if_false, w_succ (show i ≤ 4611686018427387904 by omega)]
    simpa [wfold] using hR
  | succ m ih =>
    intro c h1 o ho hR
    refine Ev.step (fun k => by rw [impl_graph_ways.l1]) ?_
    have h3 : (c : Int) < (v.length : Int) := by omega
    have h4 : (0 : Int) ≤ (c : Int) := by omega
    have h5 : (c : Int) < ((nearM W H L A B).length : Int) := by rw [nearM_length]; omega
    simp only [h3, h4, h5, if_true]
    have hrow := near_has (W := W) (H := H) (L := L) (A := A) (B := B) (c : Int) ⟨h4, by omega⟩
    have hsm := near_small g A B (c : Int) ⟨h4, by omega⟩
    have hlen : ∀ (ds o : List Int), (wadd (rd v (c : Int)) ds o).length = o.length := by
      intro ds
      induction ds with
      | nil => intro o; rfl
      | cons d r ih => intro o; show (wadd _ r _).length = _; rw [ih]; simp
    have := ways_l2 (A := A) (B := B) g tt n (rd v (c : Int)) v i c (by omega) R (rd_L1 (nearM W H L A B) (c : Int)) [] o hrow (by simpa using hsm) ho ?_
    · simpa using this
    · refine ih (c + 1) (by omega) _ (by rw [hlen]; exact ho) ?_
      rw [List.range'_succ] at hR
      exact hR
theorem ways_l0 (g : BoardM W H L) (tt n : Int) (htt : hasB W H L tt = true) (hn : n ≤ 12) : ∀ (m i : Nat), (m : Int) + i = n → ∀ v : List Int, (v.length : Int) = W * H →
    Ev (fun k => impl_graph_ways.l0 k tt v n (i : Int) W H L A B (cellsM W H L) (nearM W H L A B)) (rd (wit (nearM W H L A B) m v) tt) := by
  have ha := g.area
  have hr := has_range htt
  intro m
  induction m with
  | zero =>
    intro i h1 v hv
    refine Ev.step (fun k => by rw [impl_graph_ways.l0]) ?_
    have h3 : ¬ ((i : Int) < n) := by omega
    have h4 : tt < (v.length : Int) := by omega
    simp only [h3, if_false, hr.1, h4, if_true, wit]
    exact Ev.now _
  | succ m ih =>
    intro i h1 v hv
    refine Ev.step (fun k => by rw [impl_graph_ways.l0]) ?_
    have h3 : (i : Int) < n := by omega
    have h4 : (0 : Int) ≤ (v.length : Int) := by omega
    have h5 : v.length ≤ 35184372088832 := by omega
    have h6 : ((v.length : Int)).toNat = v.length := by omega
    simp only [h3, h4, h5, if_true, h6]
    have hw : ((wstep (nearM W H L A B) v).length : Int) = W * H := by
      have hlen : ∀ (vc : Int) (ds o : List Int), (wadd vc ds o).length = o.length := by
        intro vc ds
        induction ds with
        | nil => intro o; rfl
        | cons d r ih => intro o; show (wadd _ r _).length = _; rw [ih]; simp
      have hlen2 : ∀ (cs : List Nat) (o : List Int), (wfold (nearM W H L A B) v cs o).length = o.length := by
        intro cs
        induction cs with
        | nil => intro o; rfl
        | cons c r ih => intro o; show (wfold _ v r _).length = _; rw [ih, hlen]
      rw [wstep, hlen2]; simpa using hv
    have := ways_l1 (A := A) (B := B) g tt n v hv i (by omega) (rd (wit (nearM W H L A B) (m + 1) v) tt) v.length 0 rfl (List.replicate v.length 0) (by simpa using hv) (ih (i + 1) (by omega) (wstep (nearM W H L A B) v) hw)
    simpa using this
theorem specPaths_l2 (g : BoardM W H L) (tt n vc : Int) (v : List Int) (c : Nat) (hc : c ≤ 64) (R : Int × Bool) (rest pre o : List Int) (hr : ∀ d ∈ rest, hasB W H L d = true) (hp : (pre ++ rest).length ≤ 64) (ho : (o.length : Int) = W * H)
    (hR : Ev (fun k => spec_CountPaths.l1 k tt n (wadd vc rest o) v (v.length : Int) ((c + 1 : Nat) : Int) W H L A B) R) :
    Ev (fun k => spec_CountPaths.l2 k tt n o vc v (v.length : Int) (c : Int) (pre ++ rest) ((pre ++ rest).length : Int) (pre.length : Int) W H L A B) R := by
  induction rest generalizing pre o with
  | nil =>
    refine Ev.step (fun k => by rw [spec_CountPaths.l2]) ?_
    simp only [List.append_nil, nlt_end, if_false, w_succ (show c ≤ 4611686018427387904 by omega)]
    exact hR
  | cons d r ih =>
    refine Ev.step (fun k => by rw [spec_CountPaths.l2]) ?_
    have h0 : (0 : Int) ≤ (pre.length : Int) := by omega
    have h5 : pre.length ≤ 64 := by simp at hp; omega
    have hd := has_range (hr d (by simp))
    have hd2 : d < (o.length : Int) := by omega
    simp only [lt_mid pre d r, h0, if_true, rd_mid, hd.1, hd2, w_succ (show pre.length ≤ 4611686018427387904 by omega)]
    have := ih (pre ++ [d]) (o.set d.toNat (wrap64 (rd o d + vc))) (fun x hx => hr x (by simp [hx])) (by simpa using hp) (by simpa using ho) hR
    simpa using this
theorem specPaths_l1 (g : BoardM W H L) (hl : L.length ≤ 1048576) (tt n : Int) (hn : -100 ≤ n ∧ n ≤ 100) (v : List Int) (hv : WInv W H L v) (R : Int × Bool) : ∀ (m c : Nat), m + c = v.length → ∀ o : List Int, WInv W H L o →
    Ev (fun k => spec_CountPaths.l0 k tt (n - 1) (wfold (nearM W H L A B) v (List.range' c m) o) W H L A B) R →
    Ev (fun k => spec_CountPaths.l1 k tt n o v (v.length : Int) (c : Int) W H L A B) R := by
  have ha := g.area
  have hv1 := hv.1
  intro m
  induction m with
  | zero =>
    intro c h1 o ho hR
    refine Ev.step (fun k => by rw [spec_CountPaths.l1]) ?_
    have h3 : ¬ ((c : Int) < (v.length : Int)) := by omega
    have e : wrap64 (n - 1) = n - 1 := wrap64_in _ (by omega)
    simp only [h3, if_false, e]
    simpa [wfold] using hR
  | succ m ih =>
    intro c h1 o ho hR
    refine Ev.step (fun k => by rw [spec_CountPaths.l1]) ?_
    have h3 : (c : Int) < (v.length : Int) := by omega
    have h4 : (0 : Int) ≤ (c : Int) := by omega
    have hrow := near_has (W := W) (H := H) (L := L) (A := A) (B := B) (c : Int) ⟨h4, by omega⟩
    have hR' : Ev (fun k => spec_CountPaths.l0 k tt (n - 1) (wfold (nearM W H L A B) v (List.range' (c + 1) m) (wadd (rd v (c : Int)) (rd_L1 (nearM W H L A B) (c : Int)) o)) W H L A B) R := by
      rw [List.range'_succ] at hR
      exact hR
    simp only [h3, h4, if_true]
    by_cases hz : rd v (c : Int) = 0
    · rw [hz, wadd_zero _ _ hrow ho] at hR'
      simp only [hz, if_true, w_succ (show c ≤ 4611686018427387904 by omega)]
      exact ih (c + 1) (by omega) o ho hR'
    · have hhas := hv.2.2 c (by omega) hz
      simp only [hz, if_false]
      refine Ev.bind (boLeaps_ev g hl A B (c : Int) ⟨h4, by omega⟩) ?_
      have e : rd_L1 (nearM W H L A B) (c : Int) = leapsM W H L A B (c : Int) := near_at hhas
      rw [e] at hrow hR'
      have := specPaths_l2 (A := A) (B := B) g tt n (rd v (c : Int)) v c (by omega) R (leapsM W H L A B (c : Int)) [] o hrow (by simpa using leapsM_length g A B (c : Int)) ho.1 ?_
      · simpa using this
      · exact ih (c + 1) (by omega) _ (wInv_wadd _ _ _ hrow ho) hR'
theorem specPaths_l0 (g : BoardM W H L) (hl : L.length ≤ 1048576) (tt : Int) (htt : hasB W H L tt = true) : ∀ (m : Nat), m ≤ 12 → ∀ v : List Int, WInv W H L v →
    Ev (fun k => spec_CountPaths.l0 k tt (m : Int) v W H L A B) (rd (wit (nearM W H L A B) m v) tt, true) := by
  have ha := g.area
  have hr := has_range htt
  intro m
  induction m with
  | zero =>
    intro _ v hv
    have hv1 := hv.1
    refine Ev.step (fun k => by rw [spec_CountPaths.l0]) ?_
    have h3 : ¬ (((0 : Nat) : Int) > 0) := by omega
    have h4 : tt < (v.length : Int) := by omega
    simp only [h3, if_false, hr.1, h4, if_true, wit]
    exact Ev.now _
  | succ m ih =>
    intro hm v hv
    have hv1 := hv.1
    refine Ev.step (fun k => by rw [spec_CountPaths.l0]) ?_
    have h3 : ((m + 1 : Nat) : Int) > 0 := by omega
    have h4 : (0 : Int) ≤ (v.length : Int) := by omega
    have h5 : v.length ≤ 35184372088832 := by omega
    have h6 : ((v.length : Int)).toNat = v.length := by omega
    simp only [h3, h4, h5, if_true, h6]
    have e : ((m + 1 : Nat) : Int) - 1 = (m : Int) := by omega
    have := specPaths_l1 (A := A) (B := B) g hl tt ((m + 1 : Nat) : Int) (by omega) v hv (rd (wit (nearM W H L A B) (m + 1) v) tt, true) v.length 0 rfl (List.replicate v.length 0) (wInv_zeros _ hv1) (by
      rw [e]
      exact ih (by omega) (wstep (nearM W H L A B) v) (wInv_step hv))
    simpa using this
end
theorem countPaths_both (W H : Int) (L : List Int) (A B x y n : Int) (hl : L.length ≤ 1048576) : ∃ (r : Int) (b : Bool), Ev (fun k => spec_CountPaths.f k W H L A B x y n) (r, b) ∧ Ev (fun k => impl_CountPaths.f k W H L A B x y n) (r, b) := by
  have noS : Ev (fun k => spec_CountPaths.j0 k x y n true W H L A B) (0, false) := by
    refine Ev.step (fun k => by rw [spec_CountPaths.j0]) ?_
    simp only [if_true]
    exact Ev.now _
  by_cases t : AskM W H L A B x y
  · have g := t.1.1
    have ha := g.area
    have hx := has_range t.2.1
    by_cases hn : 0 ≤ n ∧ n ≤ 12
    · have hz : WInv W H L ((List.replicate (W * H).toNat 0).set x.toNat 1) := wInv_set (wInv_zeros _ (by omega)) t.2.1 (by unfold I64; omega)
      refine ⟨rd (wit (nearM W H L A B) n.toNat ((List.replicate (W * H).toNat 0).set x.toNat 1)) y, true, ?_, ?_⟩
      · unfold spec_CountPaths.f
        refine Ev.bind (faAsked_yes t hl) ?_
        have h1 : (decide (0 ≤ n) && decide (n ≤ 12)) = true := by simp [hn]
        simp only [if_true, l1In_eq, Option.bind_some, h1, Bool.not_true]
        refine Ev.step (fun k => by rw [spec_CountPaths.j0]) ?_
        have h2 : 0 ≤ W * H := by omega
        have h3 : (W * H).toNat ≤ 35184372088832 := by omega
        have h4 : x < ((List.replicate (W * H).toNat (0 : Int)).length : Int) := by simp; omega
        simp only [Bool.false_eq_true, if_false, g.wrapArea, h2, h3, if_true, Option.bind_some, hx.1, h4]
        have := specPaths_l0 (A := A) (B := B) g hl y t.2.2 n.toNat (by omega) _ hz
        rwa [show ((n.toNat : Nat) : Int) = n by omega] at this
      · unfold impl_CountPaths.f
        refine Ev.bind (implTwo_yes t hl) ?_
        have h1 : ¬ n < 0 := by omega
        have h2 : ¬ n > 12 := by omega
        simp only [if_true, h1, h2, if_false]
        refine Ev.bind (a := rd (wit (nearM W H L A B) n.toNat ((List.replicate (W * H).toNat 0).set x.toNat 1)) y) ?_ (Ev.now _)
        unfold impl_graph_ways.f
        have h3 : (0 : Int) ≤ ((nearM W H L A B).length : Int) := by omega
        have h4 : (((nearM W H L A B).length : Int)).toNat = (W * H).toNat := by rw [nearM_length]; omega
        have h5 : (W * H).toNat ≤ 35184372088832 := by omega
        have h6 : x < ((List.replicate (W * H).toNat (0 : Int)).length : Int) := by simp; omega
        simp only [h3, h4, h5, h6, hx.1, if_true, Option.bind_some]
        exact ways_l0 (A := A) (B := B) g y n t.2.2 hn.2 n.toNat 0 (by omega) _ (by have := hz.1; simpa using this)
    · refine ⟨0, false, ?_, ?_⟩
      · unfold spec_CountPaths.f
        refine Ev.bind (faAsked_yes t hl) ?_
        have h1 : (decide (0 ≤ n) && decide (n ≤ 12)) = false := by simp; omega
        simp only [if_true, l1In_eq, Option.bind_some, h1, Bool.not_false]
        exact noS
      · unfold impl_CountPaths.f
        refine Ev.bind (implTwo_yes t hl) ?_
        simp only [if_true]
        by_cases h1 : n < 0
        · simp only [h1, if_true]
          exact Ev.now _
        · have h2 : n > 12 := by omega
          simp only [h1, h2, if_true, if_false]
          exact Ev.now _
  · refine ⟨0, false, ?_, ?_⟩
    · unfold spec_CountPaths.f
      refine Ev.bind (faAsked_no t hl) ?_
      simp only [Bool.false_eq_true, if_false]
      exact noS
    · unfold impl_CountPaths.f
      refine Ev.bind (implTwo_no t hl) ?_
      simp only [Bool.false_eq_true, if_false]
      exact Ev.now _
theorem FnExactCountPaths : FnExactCountPathsSaid := by
  intro a0_0 a0_1 l0_2 a1_0 a1_1 a2 a3 a4 _ _ hlen_l0_2 _ _ _ _ _ _
  by_cases hb_l0_2 : 1048576 < l0_2.length
  · refine ⟨0, ?_⟩
    simp [laws_FnExactCountPaths.f, szBoard_big a0_0 a0_1 l0_2 hb_l0_2 hlen_l0_2]
  have hs_l0_2 : l0_2.length ≤ 1048576 := by omega
  obtain ⟨r, b, hs, hi⟩ := countPaths_both a0_0 a0_1 l0_2 a1_0 a1_1 a2 a3 a4 hs_l0_2
  refine Ev.rounds ?_
  have n0 : ¬ (1048576 - (l0_2.length : Int) < 0) := by omega
  have n1 : ¬ (1 + (l0_2.length : Int) < 0) := by omega
  unfold laws_FnExactCountPaths.f
  repeat (first
    | exact Ev.now _
    | refine Ev.bind (toBoard_ev _ _ _ (by assumption)) ?_
    | refine Ev.bind (eqBoard_ev _ _ _ (by assumption)) ?_
    | refine Ev.bind (markBoard_ev _ _ _ (by assumption)) ?_
    | refine Ev.bind (toIntS_ev _ (by assumption)) ?_
    | refine Ev.bind (eqIntS_ev _ (by assumption)) ?_
    | refine Ev.bind (markIntS_ev _ (by assumption)) ?_
    | refine Ev.bind (heldIntS_ev _ (by assumption)) ?_
    | refine Ev.bind hs ?_
    | refine Ev.bind hi ?_
    | simp only [Option.bind_some, if_true, if_false, bne_self_eq_false, Bool.false_eq_true, ne_eq, not_true_eq_false, not_false_eq_true, szBoard_fit _ _ _ hs_l0_2, laws_toLeaper.f, n0, n1]
    | (refine Ev.step (fun k => by rw [laws_FnExactCountPaths.j0]) ?_))
end Go.Proofs.Ytekajjhjjnfdpaa.Pure

/- Distances on a board that goes around: the reference's loop and the program's come to the same list. -/
import Derived.Test.YtekajjhjjnfdpaaHRing
import Derived.Test.YtekajjhjjnfdpaaQ41
import Derived.Test.YtekajjhjjnfdpaaQ44
namespace Go.Proofs.Ytekajjhjjnfdpaa.H
open Go.RowKit Go.IntWalk Go.Proofs.Ytekajjhjjnfdpaa.Q Go.Proofs.YtekajjhjjnfdpaaW.PrintWords Go.Proofs.YtekajjhjjnfdpaaW.PrintMore
set_option linter.unusedVariables false
set_option linter.unusedSimpArgs false
def farR (W H : Int) (ax ay : Bool) (A B c : Int) : List Int := farG (rowA W H ax ay A B) (W * H).toNat c
section
variable {W H : Int} {ax ay : Bool} {A B : Int}
theorem rowA_in' (g : Ring W H) (c : Int) : ∀ d ∈ rowA W H ax ay A B c, 0 ≤ d ∧ d < ((W * H).toNat : Int) := fun d hd => by
  have := rowA_in g c d hd; omega
theorem set_fill (pre rest : Nat) : (List.replicate pre (-1 : Int) ++ List.replicate (rest + 1) (0 : Int)).set ((pre : Int)).toNat (-1) = List.replicate (pre + 1) (-1 : Int) ++ List.replicate rest (0 : Int) := by
  have e : ((pre : Int)).toNat = pre := by omega
  rw [e, List.set_append_right _ _ (by simp)]
  simp only [List.length_replicate, Nat.sub_self, List.replicate_succ, List.set_cons_zero]
  rw [← List.replicate_succ, List.replicate_succ', List.append_assoc]
  rfl
theorem arFrom_l2 (g : Ring W H) (h : Int) (R : List Int) (done : List Int) (rest pre : List Int) (hr : ∀ d ∈ rest, 0 ≤ d ∧ d < ((W * H).toNat : Int)) (hp : (pre ++ rest).length ≤ 144) : ∀ (o q : List Int), BI (W * H).toNat o (h :: q) → done.length + q.length + negs o ≤ 144 →
    Ev (fun k => spec_arFrom.l1 k (bIn h rest o q).1 (done ++ h :: (bIn h rest o q).2) ((done.length + 1 : Nat) : Int) W H ax ay A B) R →
    Ev (fun k => spec_arFrom.l2 k o (done ++ h :: q) (done.length : Int) (pre ++ rest) ((pre ++ rest).length : Int) (pre.length : Int) W H ax ay A B) R := by
  have ha := g.area
  induction rest generalizing pre with
  | nil =>
    intro o q b hs hR
    refine Ev.step (fun k => by rw [spec_arFrom.l2]) ?_
    simp only [List.append_nil, nlt_end, if_false, w_succ (show done.length ≤ 4611686018427387904 by omega)]
    exact hR
  | cons d r ih =>
    intro o q b hs hR
    refine Ev.step (fun k => by rw [spec_arFrom.l2]) ?_
    have h0 : (0 : Int) ≤ (pre.length : Int) := by omega
    have h5 : pre.length ≤ 144 := by simp at hp; omega
    have hd := hr d (by simp)
    have hd2 : d < (o.length : Int) := by rw [b.len]; exact hd.2
    have hh := (b.que h (by simp)).1
    have hh2 : h < (o.length : Int) := by rw [b.len]; exact hh.2
    have hdn : (0 : Int) ≤ (done.length : Int) := by omega
    have hlen : (done ++ h :: q).length < 17592186044416 := by simp; omega
    simp only [lt_mid pre d r, h0, if_true, rd_mid, hd.1, hd2, w_succ (show pre.length ≤ 4611686018427387904 by omega)]
    by_cases c : rd o d < 0
    · obtain ⟨b1, b2, b3⟩ := b.put (by omega) hd c
      rw [bIn, if_pos c] at hR
      simp only [c, if_true, hdn, lt_mid done h q, rd_mid, hh.1, hh2, hlen]
      have := ih (pre ++ [d]) (fun x hx => hr x (by simp [hx])) (by simpa using hp) _ _ b1 (by simp at b2 ⊢; omega) hR
      simpa using this
    · rw [bIn, if_neg c] at hR
      simp only [c, if_false]
      have := ih (pre ++ [d]) (fun x hx => hr x (by simp [hx])) (by simpa using hp) o q b hs hR
      simpa using this
theorem arFrom_l1 (g : Ring W H) (l : Leap A B) : ∀ (f : Nat) (o q done : List Int), BI (W * H).toNat o q → q.length + negs o ≤ f → done.length + q.length + negs o ≤ 144 →
    Ev (fun k => spec_arFrom.l1 k o (done ++ q) (done.length : Int) W H ax ay A B) (bfs (rowA W H ax ay A B) (f + 1) o q) := by
  have ha := g.area
  intro f
  induction f with
  | zero =>
    intro o q done b hm hs
    obtain rfl : q = [] := List.eq_nil_of_length_eq_zero (by omega)
    refine Ev.step (fun k => by rw [spec_arFrom.l1]) ?_
    simp only [List.append_nil, nlt_end, if_false, bfs]
    exact Ev.now _
  | succ f ih =>
    intro o q done b hm hs
    cases q with
    | nil =>
      refine Ev.step (fun k => by rw [spec_arFrom.l1]) ?_
      simp only [List.append_nil, nlt_end, if_false, bfs]
      exact Ev.now _
    | cons h q =>
      refine Ev.step (fun k => by rw [spec_arFrom.l1]) ?_
      have hdn : (0 : Int) ≤ (done.length : Int) := by omega
      have hh := (b.que h (by simp)).1
      simp only [lt_mid done h q, hdn, if_true, rd_mid]
      refine Ev.bind (arLeaps_ev g l h ⟨hh.1, by omega⟩) ?_
      obtain ⟨b1, b2⟩ := bIn_keep (by omega) (rowA W H ax ay A B h) (rowA_in' g h) o q b
      have hs' : done.length + q.length + negs o ≤ 144 := by simp at hs; omega
      have := arFrom_l2 (ax := ax) (ay := ay) (A := A) (B := B) g h (bfs (rowA W H ax ay A B) (f + 1) (bIn h (rowA W H ax ay A B h) o q).1 (bIn h (rowA W H ax ay A B h) o q).2) done (rowA W H ax ay A B h) [] (rowA_in' g h) (by simpa using (Nat.le_trans (rowA_length l h) (by omega) : (rowA W H ax ay A B h).length ≤ 144)) o q b hs' ?_
      · have e : bfs (rowA W H ax ay A B) (f + 1 + 1) o (h :: q) = bfs (rowA W H ax ay A B) (f + 1) (bIn h (rowA W H ax ay A B h) o q).1 (bIn h (rowA W H ax ay A B h) o q).2 := rfl
        rw [e]
        simpa using this
      · have := ih _ _ (done ++ [h]) b1.pop (by simp at hm; omega) (by simp at hs ⊢; omega)
        simpa using this
theorem arFrom_l0 (g : Ring W H) (c : Int) (hc : 0 ≤ c ∧ c < W * H) (R : List Int) : ∀ (rest pre : Nat), pre + rest = (W * H).toNat →
    Ev (fun k => spec_arFrom.l1 k (start (W * H).toNat c) [c] 0 W H ax ay A B) R →
    Ev (fun k => spec_arFrom.l0 k c (List.replicate pre (-1) ++ List.replicate rest 0) ((W * H).toNat : Int) (pre : Int) W H ax ay A B) R := by
  have ha := g.area
  intro rest
  induction rest with
  | zero =>
    intro pre h1 hR
    refine Ev.step (fun k => by rw [spec_arFrom.l0]) ?_
    have h3 : ¬ ((pre : Int) < ((W * H).toNat : Int)) := by omega
    have h4 : c < ((List.replicate pre (-1 : Int)).length : Int) := by simp; omega
    have h5 : pre = (W * H).toNat := by omega
    simp only [h3, if_false, List.replicate_zero, List.append_nil, hc.1, h4, if_true]
    rw [h5]
    exact hR
  | succ rest ih =>
    intro pre h1 hR
    refine Ev.step (fun k => by rw [spec_arFrom.l0]) ?_
    have h3 : (pre : Int) < ((W * H).toNat : Int) := by omega
    have h4 : (0 : Int) ≤ (pre : Int) := by omega
    have h5 : (pre : Int) < ((List.replicate pre (-1 : Int) ++ List.replicate (rest + 1) (0 : Int)).length : Int) := by simp; omega
    simp only [h3, h4, h5, if_true, set_fill, w_succ (show pre ≤ 4611686018427387904 by omega)]
    exact ih (pre + 1) (by omega) hR
theorem arFrom_ev (g : Ring W H) (l : Leap A B) (c : Int) (hc : 0 ≤ c ∧ c < W * H) : Ev (fun k => spec_arFrom.f k W H ax ay A B c) (farR W H ax ay A B c) := by
  have ha := g.area
  unfold spec_arFrom.f
  have h1 : 0 ≤ W * H := by omega
  have h2 : (W * H).toNat ≤ 35184372088832 := by omega
  simp only [g.wrapArea, h1, h2, if_true, Option.bind_some, List.length_replicate]
  have hc' : 0 ≤ c ∧ c < ((W * H).toNat : Int) := by omega
  have b := start_ok hc'
  have := arFrom_l0 (ax := ax) (ay := ay) (A := A) (B := B) g c hc (farR W H ax ay A B c) (W * H).toNat 0 (by omega) ?_
  · simpa using this
  · have := arFrom_l1 (ax := ax) (ay := ay) (A := A) (B := B) g l (W * H).toNat _ _ [] b b.siz (by have := b.siz; simp at this ⊢; omega)
    simpa [farR, farG] using this
theorem farAround_l2 (g : Ring W H) (N : List (List Int)) (h : Int) (R : List Int) (rest pre : List Int) (hr : ∀ d ∈ rest, 0 ≤ d ∧ d < ((W * H).toNat : Int)) (hp : (pre ++ rest).length ≤ 144) : ∀ (o q : List Int), BI (W * H).toNat o (h :: q) →
    Ev (fun k => impl_farAround.l1 k N (bIn h rest o q).1 (bIn h rest o q).2) R →
    Ev (fun k => impl_farAround.l2 k N o (h :: q) (pre ++ rest) ((pre ++ rest).length : Int) (pre.length : Int)) R := by
  have ha := g.area
  induction rest generalizing pre with
  | nil =>
    intro o q b hR
    refine Ev.step (fun k => by rw [impl_farAround.l2]) ?_
    have h1 : (1 : Int) ≤ ((h :: q).length : Int) := by simp; omega
    have e : (h :: q).drop ((1 : Int)).toNat = q := rfl
    simp only [List.append_nil, nlt_end, if_false, h1, if_true, e]
    exact hR
  | cons d r ih =>
    intro o q b hR
    refine Ev.step (fun k => by rw [impl_farAround.l2]) ?_
    have h0 : (0 : Int) ≤ (pre.length : Int) := by omega
    have h5 : pre.length ≤ 144 := by simp at hp; omega
    have hd := hr d (by simp)
    have hd2 : d < (o.length : Int) := by rw [b.len]; exact hd.2
    have hh := (b.que h (by simp)).1
    have hh2 : h < (o.length : Int) := by rw [b.len]; exact hh.2
    have hq : (0 : Int) < ((h :: q).length : Int) := by simp only [List.length_cons]; omega
    have hlen : (h :: q).length < 17592186044416 := by have := b.siz; simp at this ⊢; omega
    have e0 : rd (h :: q) 0 = h := rfl
    simp only [lt_mid pre d r, h0, if_true, rd_mid, hd.1, hd2, w_succ (show pre.length ≤ 4611686018427387904 by omega)]
    by_cases c : rd o d < 0
    · obtain ⟨b1, b2, b3⟩ := b.put (by omega) hd c
      rw [bIn, if_pos c] at hR
      simp only [c, if_true, hq, e0, hh.1, hh2, hlen]
      have := ih (pre ++ [d]) (fun x hx => hr x (by simp [hx])) (by simpa using hp) _ _ b1 hR
      simpa using this
    · rw [bIn, if_neg c] at hR
      simp only [c, if_false]
      have := ih (pre ++ [d]) (fun x hx => hr x (by simp [hx])) (by simpa using hp) o q b hR
      simpa using this
theorem farAround_l1 (g : Ring W H) (l : Leap A B) : ∀ (f : Nat) (o q : List Int), BI (W * H).toNat o q → q.length + negs o ≤ f →
    Ev (fun k => impl_farAround.l1 k (rowsA W H ax ay A B) o q) (bfs (rowA W H ax ay A B) (f + 1) o q) := by
  have ha := g.area
  have emp : ∀ f o, Ev (fun k => impl_farAround.l1 k (rowsA W H ax ay A B) o []) (bfs (rowA W H ax ay A B) (f + 1) o []) := by
    intro f o
    refine Ev.step (fun k => by rw [impl_farAround.l1]) ?_
    have h1 : ¬ ((([] : List Int).length : Int) > 0) := by simp
    simp only [h1, if_false, bfs]
    exact Ev.now _
  intro f
  induction f with
  | zero =>
    intro o q b hm
    obtain rfl : q = [] := List.eq_nil_of_length_eq_zero (by omega)
    exact emp _ _
  | succ f ih =>
    intro o q b hm
    cases q with
    | nil => exact emp _ _
    | cons h q =>
      refine Ev.step (fun k => by rw [impl_farAround.l1]) ?_
      have h1 : (((h :: q).length : Int) > 0) := by simp only [List.length_cons]; omega
      have h2 : (0 : Int) < ((h :: q).length : Int) := h1
      have e0 : rd (h :: q) 0 = h := rfl
      have hh := (b.que h (by simp)).1
      have hn : h < ((rowsA W H ax ay A B).length : Int) := by rw [rowsA_length]; exact hh.2
      have hrow := rowsA_get (W := W) (H := H) (ax := ax) (ay := ay) (A := A) (B := B) h ⟨hh.1, by omega⟩
      simp only [h1, h2, if_true, e0, hh.1, hn, hrow]
      obtain ⟨b1, b2⟩ := bIn_keep (by omega) (rowA W H ax ay A B h) (rowA_in' g h) o q b
      have := farAround_l2 (W := W) (H := H) g (rowsA W H ax ay A B) h (bfs (rowA W H ax ay A B) (f + 1) (bIn h (rowA W H ax ay A B h) o q).1 (bIn h (rowA W H ax ay A B h) o q).2) (rowA W H ax ay A B h) [] (rowA_in' g h) (by simpa using (Nat.le_trans (rowA_length l h) (by omega) : (rowA W H ax ay A B h).length ≤ 144)) o q b ?_
      · have e : bfs (rowA W H ax ay A B) (f + 1 + 1) o (h :: q) = bfs (rowA W H ax ay A B) (f + 1) (bIn h (rowA W H ax ay A B h) o q).1 (bIn h (rowA W H ax ay A B h) o q).2 := rfl
        rw [e]
        simpa using this
      · exact ih _ _ b1.pop (by simp at hm; omega)
theorem farAround_l0 (g : Ring W H) (N : List (List Int)) (c : Int) (hc : 0 ≤ c ∧ c < W * H) (R : List Int) : ∀ (rest pre : Nat), pre + rest = (W * H).toNat →
    Ev (fun k => impl_farAround.l1 k N (start (W * H).toNat c) [c]) R →
    Ev (fun k => impl_farAround.l0 k N c (List.replicate pre (-1) ++ List.replicate rest 0) ((W * H).toNat : Int) (pre : Int)) R := by
  have ha := g.area
  intro rest
  induction rest with
  | zero =>
    intro pre h1 hR
    refine Ev.step (fun k => by rw [impl_farAround.l0]) ?_
    have h3 : ¬ ((pre : Int) < ((W * H).toNat : Int)) := by omega
    have h4 : c < ((List.replicate pre (-1 : Int)).length : Int) := by simp; omega
    have h5 : pre = (W * H).toNat := by omega
    simp only [h3, if_false, List.replicate_zero, List.append_nil, hc.1, h4, if_true]
    rw [h5]
    exact hR
  | succ rest ih =>
    intro pre h1 hR
    refine Ev.step (fun k => by rw [impl_farAround.l0]) ?_
    have h3 : (pre : Int) < ((W * H).toNat : Int) := by omega
    have h4 : (0 : Int) ≤ (pre : Int) := by omega
    have h5 : (pre : Int) < ((List.replicate pre (-1 : Int) ++ List.replicate (rest + 1) (0 : Int)).length : Int) := by simp; omega
    simp only [h3, h4, h5, if_true, set_fill, w_succ (show pre ≤ 4611686018427387904 by omega)]
    exact ih (pre + 1) (by omega) hR
theorem farAround_ev (g : Ring W H) (l : Leap A B) (c : Int) (hc : 0 ≤ c ∧ c < W * H) : Ev (fun k => impl_farAround.f k (rowsA W H ax ay A B) c) (farR W H ax ay A B c) := by
  have ha := g.area
  unfold impl_farAround.f
  have h1 : (0 : Int) ≤ ((rowsA W H ax ay A B).length : Int) := by omega
  have h3 : (((rowsA W H ax ay A B).length : Int)).toNat = (W * H).toNat := by rw [rowsA_length]; omega
  have h2 : (W * H).toNat ≤ 35184372088832 := by omega
  simp only [h1, h3, h2, if_true, Option.bind_some, List.length_replicate]
  have hc' : 0 ≤ c ∧ c < ((W * H).toNat : Int) := by omega
  have b := start_ok hc'
  have := farAround_l0 g (rowsA W H ax ay A B) c hc (farR W H ax ay A B c) (W * H).toNat 0 (by omega) ?_
  · simpa using this
  · exact farAround_l1 g l (W * H).toNat _ _ b b.siz
theorem farR_keep (g : Ring W H) {c : Int} (hc : 0 ≤ c ∧ c < W * H) : (farR W H ax ay A B c).length = (W * H).toNat ∧ ∀ e : Int, 0 ≤ e ∧ e < W * H → -1 ≤ rd (farR W H ax ay A B c) e ∧ rd (farR W H ax ay A B c) e ≤ 144 := by
  have ha := g.area
  obtain ⟨h1, h2⟩ := farG_keep (nb := rowA W H ax ay A B) (n := (W * H).toNat) (c := c) (by omega) (fun c _ d hd => rowA_in' g c d hd) ⟨hc.1, by omega⟩
  refine ⟨h1, fun e he => ?_⟩
  have := h2 e.toNat (by omega)
  rw [show ((e.toNat : Nat) : Int) = e by omega] at this
  exact ⟨this.1, by unfold farR; omega⟩
theorem farR_self (g : Ring W H) {c : Int} (hc : 0 ≤ c ∧ c < W * H) : rd (farR W H ax ay A B c) c = 0 := by
  have ha := g.area
  exact farG_self (nb := rowA W H ax ay A B) (n := (W * H).toNat) (by omega) (fun c _ d hd => rowA_in' g c d hd) ⟨hc.1, by omega⟩
end
end Go.Proofs.Ytekajjhjjnfdpaa.H

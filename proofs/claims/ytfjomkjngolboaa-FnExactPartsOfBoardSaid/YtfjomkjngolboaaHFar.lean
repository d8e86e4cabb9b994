/- Distances on a board: the reference's loop and the program's come to the same list; the conditions (a board that is one, lengths) stand in each theorem. -/
import Derived.Test.YtfjomkjngolboaaHTwo
import Derived.Test.YtfjomkjngolboaaHBfs
import Derived.Test.YtfjomkjngolboaaQ3
import Derived.Test.YtfjomkjngolboaaQ7
namespace Go.Proofs.Ytfjomkjngolboaa.H
open Go.RowKit Go.IntWalk Go.Proofs.Ytfjomkjngolboaa.Q Go.Proofs.YtfjomkjngolboaaW.PrintWords Go.Proofs.YtfjomkjngolboaaW.PrintMore
set_option linter.unusedVariables false
set_option linter.unusedSimpArgs false
def farM (W H : Int) (L : List Int) (A B c : Int) : List Int := farG (leapsM W H L A B) (W * H).toNat c
section
variable {W H : Int} {L : List Int} {A B : Int}
theorem leapsM_in (g : BoardM W H L) (c : Int) : ∀ d ∈ leapsM W H L A B c, 0 ≤ d ∧ d < ((W * H).toNat : Int) := fun d hd => by
  have := has_range (leapsM_has hd); omega
theorem fills (n : Nat) (rest pre : Nat) (hn : pre + rest = n) : (List.replicate pre (-1 : Int) ++ List.replicate rest (0 : Int)).length = n := by simp; omega
theorem set_fill (pre rest : Nat) : (List.replicate pre (-1 : Int) ++ List.replicate (rest + 1) (0 : Int)).set ((pre : Int)).toNat (-1) = List.replicate (pre + 1) (-1 : Int) ++ List.replicate rest (0 : Int) := by
  have e : ((pre : Int)).toNat = pre := by omega
  rw [e, List.set_append_right _ _ (by simp)]
  simp only [List.length_replicate, Nat.sub_self, List.replicate_succ, List.set_cons_zero]
  rw [← List.replicate_succ, List.replicate_succ', List.append_assoc]
  rfl
theorem faFrom_l2 (g : BoardM W H L) (h : Int) (R : List Int) (done : List Int) (rest pre : List Int) (hr : ∀ d ∈ rest, 0 ≤ d ∧ d < ((W * H).toNat : Int)) (hp : (pre ++ rest).length ≤ 64) : ∀ (o q : List Int), BI (W * H).toNat o (h :: q) → done.length + q.length + negs o ≤ 64 →
    Ev (fun k => spec_faFrom.l1 k (bIn h rest o q).1 (done ++ h :: (bIn h rest o q).2) ((done.length + 1 : Nat) : Int) W H L A B) R →
    Ev (fun k => spec_faFrom.l2 k o (done ++ h :: q) (done.length : Int) (pre ++ rest) ((pre ++ rest).length : Int) (pre.length : Int) W H L A B) R := by
  have ha := g.area
  induction rest generalizing pre with
  | nil =>
    intro o q b hs hR
    refine Ev.step (fun k => by rw [spec_faFrom.l2]) ?_
    simp only [List.append_nil, nlt_end, if_false, w_succ (show done.length ≤ 4611686018427387904 by omega)]
    exact hR
  | cons d r ih =>
    intro o q b hs hR
    refine Ev.step (fun k => by rw [spec_faFrom.l2]) ?_
    have h0 : (0 : Int) ≤ (pre.length : Int) := by omega
    have h5 : pre.length ≤ 64 := by simp at hp; omega
    have hd := hr d (by simp)
    have hd2 : d < (o.length : Int) := by rw [b.len]; exact hd.2
    have hh := (b.que h (by simp)).1
    have hh2 : h < (o.length : Int) := by rw [b.len]; exact hh.2
    have hdn : (0 : Int) ≤ (done.length : Int) := by omega
    have hlen : (done ++ h :: q).length < 17592186044416 := by simp; omega
    simp only [lt_mid pre d r, h0, if_true, rd_mid, hd.1, hd2, w_succ (show pre.length ≤ 4611686018427387904 by omega)]
    by_cases c : rd o d < 0
    · obtain ⟨b1, b2, b3⟩ := b.put (by omega) hd c
      rw [bIn, if_pos c] at hR
      simp only [c, if_true, hdn, lt_mid done h q, rd_mid, hh.1, hh2, hlen]
      have := ih (pre ++ [d]) (fun x hx => hr x (by simp [hx])) (by simpa using hp) _ _ b1 (by simp at b2 ⊢; omega) hR
      simpa using this
    · rw [bIn, if_neg c] at hR
      simp only [c, if_false]
      have := ih (pre ++ [d]) (fun x hx => hr x (by simp [hx])) (by simpa using hp) o q b hs hR
      simpa using this
theorem faFrom_l1 (g : BoardM W H L) (hl : L.length ≤ 1048576) : ∀ (f : Nat) (o q done : List Int), BI (W * H).toNat o q → q.length + negs o ≤ f → done.length + q.length + negs o ≤ 64 →
    Ev (fun k => spec_faFrom.l1 k o (done ++ q) (done.length : Int) W H L A B) (bfs (leapsM W H L A B) (f + 1) o q) := by
  have ha := g.area
  intro f
  induction f with
  | zero =>
    intro o q done b hm hs
    obtain rfl : q = [] := List.eq_nil_of_length_eq_zero (by omega)
    refine Ev.step (fun k => by rw [spec_faFrom.l1]) ?_
    simp only [List.append_nil, nlt_end, if_false, bfs]
    exact Ev.now _
  | succ f ih =>
    intro o q done b hm hs
    cases q with
    | nil =>
      refine Ev.step (fun k => by rw [spec_faFrom.l1]) ?_
      simp only [List.append_nil, nlt_end, if_false, bfs]
      exact Ev.now _
    | cons h q =>
      refine Ev.step (fun k => by rw [spec_faFrom.l1]) ?_
      have hdn : (0 : Int) ≤ (done.length : Int) := by omega
      have hh := (b.que h (by simp)).1
      simp only [lt_mid done h q, hdn, if_true, rd_mid]
      refine Ev.bind (boLeaps_ev g hl A B h ⟨hh.1, by omega⟩) ?_
      obtain ⟨b1, b2⟩ := bIn_keep (by omega) (leapsM W H L A B h) (leapsM_in g h) o q b
      have hs' : done.length + q.length + negs o ≤ 64 := by simp at hs; omega
      have := faFrom_l2 (A := A) (B := B) g h (bfs (leapsM W H L A B) (f + 1) (bIn h (leapsM W H L A B h) o q).1 (bIn h (leapsM W H L A B h) o q).2) done (leapsM W H L A B h) [] (leapsM_in g h) (by simpa using leapsM_length g A B h) o q b hs' ?_
      · have e : bfs (leapsM W H L A B) (f + 1 + 1) o (h :: q) = bfs (leapsM W H L A B) (f + 1) (bIn h (leapsM W H L A B h) o q).1 (bIn h (leapsM W H L A B h) o q).2 := rfl
        rw [e]
        simpa using this
      · have := ih _ _ (done ++ [h]) b1.pop (by simp at hm; omega) (by simp at hs ⊢; omega)
        simpa using this
theorem faFrom_l0 (g : BoardM W H L) (c : Int) (hc : 0 ≤ c ∧ c < W * H) (R : List Int) : ∀ (rest pre : Nat), pre + rest = (W * H).toNat →
    Ev (fun k => spec_faFrom.l1 k (start (W * H).toNat c) [c] 0 W H L A B) R →
    Ev (fun k => spec_faFrom.l0 k c (List.replicate pre (-1) ++ List.replicate rest 0) ((W * H).toNat : Int) (pre : Int) W H L A B) R := by
  have ha := g.area
  intro rest
  induction rest with
  | zero =>
    intro pre h1 hR
    refine Ev.step (fun k => by rw [spec_faFrom.l0]) ?_
    have h3 : ¬ ((pre : Int) < ((W * H).toNat : Int)) := by omega
    have h4 : c < ((List.replicate pre (-1 : Int)).length : Int) := by simp; omega
    have h5 : pre = (W * H).toNat := by omega
    simp only [h3, if_false, List.replicate_zero, List.append_nil, hc.1, h4, if_true]
    rw [h5]
    exact hR
  | succ rest ih =>
    intro pre h1 hR
    refine Ev.step (fun k => by rw [spec_faFrom.l0]) ?_
    have h3 : (pre : Int) < ((W * H).toNat : Int) := by omega
    have h4 : (0 : Int) ≤ (pre : Int) := by omega
    have h5 : (pre : Int) < ((List.replicate pre (-1 : Int) ++ List.replicate (rest + 1) (0 : Int)).length : Int) := by simp; omega
    simp only [h3, h4, h5, if_true, set_fill, w_succ (show pre ≤ 4611686018427387904 by omega)]
    exact ih (pre + 1) (by omega) hR
theorem faFrom_ev (g : BoardM W H L) (hl : L.length ≤ 1048576) (c : Int) (hc : 0 ≤ c ∧ c < W * H) : Ev (fun k => spec_faFrom.f k W H L A B c) (farM W H L A B c) := by
  have ha := g.area
  unfold spec_faFrom.f
  have h1 : 0 ≤ W * H := by omega
  have h2 : (W * H).toNat ≤ 35184372088832 := by omega
  simp only [g.wrapArea, h1, h2, if_true, Option.bind_some, List.length_replicate]
  have hc' : 0 ≤ c ∧ c < ((W * H).toNat : Int) := by omega
  have b := start_ok hc'
  have := faFrom_l0 (A := A) (B := B) g c hc (farM W H L A B c) (W * H).toNat 0 (by omega) ?_
  · simpa using this
  · have := faFrom_l1 (A := A) (B := B) g hl (W * H).toNat _ _ [] b b.siz (by have := b.siz; simp at this ⊢; omega)
    simpa [farM, farG] using this
theorem far_l2 (g : BoardM W H L) (h : Int) (R : List Int) (rest pre : List Int) (hr : ∀ d ∈ rest, 0 ≤ d ∧ d < ((W * H).toNat : Int)) (hp : (pre ++ rest).length ≤ 64) : ∀ (o q : List Int), BI (W * H).toNat o (h :: q) →
    Ev (fun k => impl_graph_far.l1 k (bIn h rest o q).1 (bIn h rest o q).2 W H L A B (cellsM W H L) (nearM W H L A B)) R →
    Ev (fun k => impl_graph_far.l2 k o (h :: q) (pre ++ rest) ((pre ++ rest).length : Int) (pre.length : Int) W H L A B (cellsM W H L) (nearM W H L A B)) R := by
  have ha := g.area
  induction rest generalizing pre with
  | nil =>
    intro o q b hR
    refine Ev.step (fun k => by rw [impl_graph_far.l2]) ?_
    have h1 : (1 : Int) ≤ ((h :: q).length : Int) := by simp; omega
    have e : (h :: q).drop ((1 : Int)).toNat = q := rfl
    simp only [List.append_nil, nlt_end, if_false, h1, if_true, e]
    exact hR
  | cons d r ih =>
    intro o q b hR
    refine Ev.step (fun k => by rw [impl_graph_far.l2]) ?_
    have h0 : (0 : Int) ≤ (pre.length : Int) := by omega
    have h5 : pre.length ≤ 64 := by simp at hp; omega
    have hd := hr d (by simp)
    have hd2 : d < (o.length : Int) := by rw [b.len]; exact hd.2
    have hh := (b.que h (by simp)).1
    have hh2 : h < (o.length : Int) := by rw [b.len]; exact hh.2
    have hq : (0 : Int) < ((h :: q).length : Int) := by simp only [List.length_cons]; omega
    have hlen : (h :: q).length < 17592186044416 := by have := b.siz; simp at this ⊢; omega
    have e0 : rd (h :: q) 0 = h := rfl
    simp only [lt_mid pre d r, h0, if_true, rd_mid, hd.1, hd2, w_succ (show pre.length ≤ 4611686018427387904 by omega)]
    by_cases c : rd o d < 0
    · obtain ⟨b1, b2, b3⟩ := b.put (by omega) hd c
      rw [bIn, if_pos c] at hR
      simp only [c, if_true, hq, e0, hh.1, hh2, hlen]
      have := ih (pre ++ [d]) (fun x hx => hr x (by simp [hx])) (by simpa using hp) _ _ b1 hR
      simpa using this
    · rw [bIn, if_neg c] at hR
      simp only [c, if_false]
      have := ih (pre ++ [d]) (fun x hx => hr x (by simp [hx])) (by simpa using hp) o q b hR
      simpa using this
theorem bIn_has (h : Int) (ds : List Int) : ∀ o q, (∀ x ∈ q, hasB W H L x = true) → (∀ d ∈ ds, hasB W H L d = true) → ∀ x ∈ (bIn h ds o q).2, hasB W H L x = true := by
  induction ds with
  | nil => intro o q hq _; exact hq
  | cons d r ih =>
    intro o q hq hd
    rw [bIn]
    split
    · refine ih _ _ (fun x hx => ?_) (fun x hx => hd x (by simp [hx]))
      rcases List.mem_append.1 hx with hx | hx
      · exact hq x hx
      · obtain rfl : x = d := by simpa using hx
        exact hd x (by simp)
    · exact ih _ _ hq (fun x hx => hd x (by simp [hx]))
theorem far_l1 (g : BoardM W H L) : ∀ (f : Nat) (o q : List Int), BI (W * H).toNat o q → (∀ x ∈ q, hasB W H L x = true) → q.length + negs o ≤ f →
    Ev (fun k => impl_graph_far.l1 k o q W H L A B (cellsM W H L) (nearM W H L A B)) (bfs (leapsM W H L A B) (f + 1) o q) := by
  have ha := g.area
  have emp : ∀ f o, Ev (fun k => impl_graph_far.l1 k o [] W H L A B (cellsM W H L) (nearM W H L A B)) (bfs (leapsM W H L A B) (f + 1) o []) := by
    intro f o
    refine Ev.step (fun k => by rw [impl_graph_far.l1]) ?_
    have h1 : ¬ ((([] : List Int).length : Int) > 0) := by simp
    simp only [h1, if_false, bfs]
    exact Ev.now _
  intro f
  induction f with
  | zero =>
    intro o q b hq hm
    obtain rfl : q = [] := List.eq_nil_of_length_eq_zero (by omega)
    exact emp _ _
  | succ f ih =>
    intro o q b hq hm
    cases q with
    | nil => exact emp _ _
    | cons h q =>
      refine Ev.step (fun k => by rw [impl_graph_far.l1]) ?_
      have h1 : (((h :: q).length : Int) > 0) := by simp only [List.length_cons]; omega
      have h2 : (0 : Int) < ((h :: q).length : Int) := h1
      have e0 : rd (h :: q) 0 = h := rfl
      have hh := hq h (by simp)
      have hn := near_in (A := A) (B := B) g hh
      simp only [h1, h2, if_true, e0, hn.1, hn.2, near_at hh]
      obtain ⟨b1, b2⟩ := bIn_keep (by omega) (leapsM W H L A B h) (leapsM_in g h) o q b
      have := far_l2 (A := A) (B := B) g h (bfs (leapsM W H L A B) (f + 1) (bIn h (leapsM W H L A B h) o q).1 (bIn h (leapsM W H L A B h) o q).2) (leapsM W H L A B h) [] (leapsM_in g h) (by simpa using leapsM_length g A B h) o q b ?_
      · have e : bfs (leapsM W H L A B) (f + 1 + 1) o (h :: q) = bfs (leapsM W H L A B) (f + 1) (bIn h (leapsM W H L A B h) o q).1 (bIn h (leapsM W H L A B h) o q).2 := rfl
        rw [e]
        simpa using this
      · exact ih _ _ b1.pop (bIn_has h _ o q (fun x hx => hq x (by simp [hx])) (fun d hd => leapsM_has hd)) (by simp at hm; omega)
theorem far_l0 (g : BoardM W H L) (c : Int) (hc : 0 ≤ c ∧ c < W * H) (R : List Int) : ∀ (rest pre : Nat), pre + rest = (W * H).toNat →
    Ev (fun k => impl_graph_far.l1 k (start (W * H).toNat c) [c] W H L A B (cellsM W H L) (nearM W H L A B)) R →
    Ev (fun k => impl_graph_far.l0 k c (List.replicate pre (-1) ++ List.replicate rest 0) ((W * H).toNat : Int) (pre : Int) W H L A B (cellsM W H L) (nearM W H L A B)) R := by
  have ha := g.area
  intro rest
  induction rest with
  | zero =>
    intro pre h1 hR
    refine Ev.step (fun k => by rw [impl_graph_far.l0]) ?_
    have h3 : ¬ ((pre : Int) < ((W * H).toNat : Int)) := by omega
    have h4 : c < ((List.replicate pre (-1 : Int)).length : Int) := by simp; omega
    have h5 : pre = (W * H).toNat := by omega
    simp only [h3, if_false, List.replicate_zero, List.append_nil, hc.1, h4, if_true]
    rw [h5]
    exact hR
  | succ rest ih =>
    intro pre h1 hR
    refine Ev.step (fun k => by rw [impl_graph_far.l0]) ?_
    have h3 : (pre : Int) < ((W * H).toNat : Int) := by omega
    have h4 : (0 : Int) ≤ (pre : Int) := by omega
    have h5 : (pre : Int) < ((List.replicate pre (-1 : Int) ++ List.replicate (rest + 1) (0 : Int)).length : Int) := by simp; omega
    simp only [h3, h4, h5, if_true, set_fill, w_succ (show pre ≤ 4611686018427387904 by omega)]
    exact ih (pre + 1) (by omega) hR
theorem far_ev (g : BoardM W H L) (c : Int) (hc : hasB W H L c = true) : Ev (fun k => impl_graph_far.f k W H L A B (cellsM W H L) (nearM W H L A B) c) (farM W H L A B c) := by
  have ha := g.area
  have hr := has_range hc
  unfold impl_graph_far.f
  have h1 : 0 ≤ W * H := by omega
  have h2 : (W * H).toNat ≤ 35184372088832 := by omega
  simp only [g.wrapArea, h1, h2, if_true, Option.bind_some, List.length_replicate]
  have hc' : 0 ≤ c ∧ c < ((W * H).toNat : Int) := by omega
  have b := start_ok hc'
  have := far_l0 (A := A) (B := B) g c hr (farM W H L A B c) (W * H).toNat 0 (by omega) ?_
  · simpa using this
  · exact far_l1 (A := A) (B := B) g (W * H).toNat _ _ b (fun x hx => (List.mem_singleton.1 hx) ▸ hc) b.siz
theorem farM_keep (g : BoardM W H L) {c : Int} (hc : 0 ≤ c ∧ c < W * H) : (farM W H L A B c).length = (W * H).toNat ∧ ∀ e : Int, 0 ≤ e ∧ e < W * H → -1 ≤ rd (farM W H L A B c) e ∧ rd (farM W H L A B c) e ≤ 64 := by
  have ha := g.area
  obtain ⟨h1, h2⟩ := farG_keep (nb := leapsM W H L A B) (n := (W * H).toNat) (c := c) (by omega) (fun c _ d hd => leapsM_in g c d hd) ⟨hc.1, by omega⟩
  refine ⟨h1, fun e he => ?_⟩
  have := h2 e.toNat (by omega)
  rw [show ((e.toNat : Nat) : Int) = e by omega] at this
  exact ⟨this.1, by unfold farM; omega⟩
theorem farM_self (g : BoardM W H L) {c : Int} (hc : 0 ≤ c ∧ c < W * H) : rd (farM W H L A B c) c = 0 := by
  have ha := g.area
  exact farG_self (nb := leapsM W H L A B) (n := (W * H).toNat) (by omega) (fun c _ d hd => leapsM_in g c d hd) ⟨hc.1, by omega⟩
end
end Go.Proofs.Ytfjomkjngolboaa.H

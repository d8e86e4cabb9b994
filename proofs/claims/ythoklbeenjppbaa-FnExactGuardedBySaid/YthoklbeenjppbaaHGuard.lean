/- Guarded cells: the reference's list and the program's are the same; the conditions (a board that is one, a set of cells) stand in each theorem. -/
import Derived.Test.YthoklbeenjppbaaHSet
import Derived.Test.YthoklbeenjppbaaHTwo
import Derived.Test.YthoklbeenjppbaaQ6
import Derived.Test.YthoklbeenjppbaaQ7
namespace Go.Proofs.Ythoklbeenjppbaa.H
open Go.RowKit Go.IntWalk Go.Proofs.Ythoklbeenjppbaa.Q Go.Proofs.YthoklbeenjppbaaW.PrintWords Go.Proofs.YthoklbeenjppbaaW.PrintMore
set_option linter.unusedVariables false
set_option linter.unusedSimpArgs false
def isGuarded (W A B : Int) (s : List Int) (c : Int) : Bool := s.contains c || s.any fun q => isB W A B q c
def guardedM (W H : Int) (L : List Int) (A B : Int) (s : List Int) : List Int := (cellsM W H L).filter (isGuarded W A B s)
theorem rdOf_set (v : List Bool) (d : Int) (b : Bool) (hd : 0 ≤ d ∧ d < (v.length : Int)) (e : Int) (he : 0 ≤ e) : rdOf false (v.set d.toNat b) e = if e = d then b else rdOf false v e := by
  unfold rdOf
  rw [List.getD_eq_getElem?_getD, List.getElem?_set]
  by_cases h : e = d
  · subst h
    rw [if_pos rfl, if_pos rfl, if_pos (by omega)]
    rfl
  · have h1 : ¬ d.toNat = e.toNat := by omega
    rw [if_neg h, if_neg h1, ← List.getD_eq_getElem?_getD]
section
variable {W H : Int} {L : List Int} {A B : Int}
theorem guGuarded_l1 (g : BoardM W H L) (s cs acc : List Int) (c : Int) (hc : 0 ≤ c ∧ c < W * H) (i : Nat) (hi : i ≤ 64) (hacc : acc.length ≤ 64) (R : List Int) (rest pre : List Int) (hr : ∀ q ∈ rest, hasB W H L q = true) (hp : (pre ++ rest).length ≤ 64) : ∀ b : Bool,
    Ev (fun k => spec_guGuarded.l0 k s (if (b || rest.any fun q => isB W A B q c) = true then acc ++ [c] else acc) cs (cs.length : Int) ((i + 1 : Nat) : Int) W H L A B) R →
    Ev (fun k => spec_guGuarded.l1 k s acc c b cs (cs.length : Int) (i : Int) (pre ++ rest) ((pre ++ rest).length : Int) (pre.length : Int) W H L A B) R := by
  induction rest generalizing pre with
  | nil =>
    intro b hR
    refine Ev.step (fun k => by rw [spec_guGuarded.l1]) ?_
    have h1 : acc.length < 17592186044416 := by omega
    simp only [List.append_nil, nlt_end, if_false, h1, if_true, w_succ (show i ≤ 4611686018427387904 by omega)]
    simp only [List.any_nil, Bool.or_false] at hR
    by_cases hb : b = true
    · simp only [hb, if_true] at hR ⊢; exact hR
    · simp only [hb, if_false] at hR ⊢; exact hR
  | cons q r ih =>
    intro b hR
    refine Ev.step (fun k => by rw [spec_guGuarded.l1]) ?_
    have h0 : (0 : Int) ≤ (pre.length : Int) := by omega
    have h5 : pre.length ≤ 64 := by simp at hp; omega
    simp only [lt_mid pre q r, h0, if_true, rd_mid, w_succ (show pre.length ≤ 4611686018427387904 by omega)]
    by_cases hb : b = true
    · subst hb
      simp only [if_true]
      have := ih (pre ++ [q]) (fun x hx => hr x (by simp [hx])) (by simpa using hp) true (by simpa using hR)
      simpa using this
    · have hb' : b = false := by simpa using hb
      subst hb'
      simp only [Bool.false_eq_true, if_false, boIs_eq g A B q c (has_range (hr q (by simp))) hc, Option.bind_some]
      have := ih (pre ++ [q]) (fun x hx => hr x (by simp [hx])) (by simpa using hp) (isB W A B q c) (by simpa using hR)
      simpa using this
theorem guGuarded_l0 (g : BoardM W H L) (s : List Int) (hs : ∀ q ∈ s, hasB W H L q = true) (hsl : s.length ≤ 64) (rest pre acc : List Int) (hr : ∀ c ∈ rest, hasB W H L c = true) (hp : (pre ++ rest).length ≤ 64) (ha : acc.length ≤ pre.length) :
    Ev (fun k => spec_guGuarded.l0 k s acc (pre ++ rest) ((pre ++ rest).length : Int) (pre.length : Int) W H L A B) (acc ++ rest.filter (isGuarded W A B s)) := by
  induction rest generalizing pre acc with
  | nil =>
    refine Ev.step (fun k => by rw [spec_guGuarded.l0]) ?_
    simp only [List.append_nil, nlt_end, if_false, List.filter_nil]
    exact Ev.now _
  | cons c r ih =>
    refine Ev.step (fun k => by rw [spec_guGuarded.l0]) ?_
    have h0 : (0 : Int) ≤ (pre.length : Int) := by omega
    have h5 : pre.length ≤ 64 := by simp at hp; omega
    simp only [lt_mid pre c r, h0, if_true, rd_mid]
    refine Ev.bind (l1Has_ev s c (by omega)) ?_
    have step : Ev (fun k => spec_guGuarded.l0 k s (if isGuarded W A B s c = true then acc ++ [c] else acc) (pre ++ c :: r) ((pre ++ c :: r).length : Int) ((pre.length + 1 : Nat) : Int) W H L A B) (acc ++ (c :: r).filter (isGuarded W A B s)) := by
      by_cases hx : isGuarded W A B s c = true
      · have := ih (pre ++ [c]) (acc ++ [c]) (fun x hx => hr x (by simp [hx])) (by simpa using hp) (by simp; omega)
        rw [if_pos hx, List.filter_cons, if_pos hx]
        simpa using this
      · have := ih (pre ++ [c]) acc (fun x hx => hr x (by simp [hx])) (by simpa using hp) (by simp; omega)
        rw [if_neg hx, List.filter_cons, if_neg hx]
        simpa using this
    have := guGuarded_l1 (A := A) (B := B) g s (pre ++ c :: r) acc c (has_range (hr c (by simp))) pre.length h5 (by omega) _ s [] hs (by simpa using hsl) (s.contains c) step
    simpa using this
theorem guGuarded_ev (g : BoardM W H L) (hl : L.length ≤ 1048576) (s : List Int) (h : SetM W H L s) : Ev (fun k => spec_guGuarded.f k W H L A B s) (guardedM W H L A B s) := by
  unfold spec_guGuarded.f
  refine Ev.bind (boCells_ev g hl) ?_
  have := guGuarded_l0 (A := A) (B := B) g s h.1 (setM_small g h) (cellsM W H L) [] [] (fun c hc => mem_cellsM.1 hc) (by simpa using cellsM_length g) (by simp)
  simpa [guardedM] using this
theorem guarded_l1 (g : BoardM W H L) (cs : List Int) (i : Nat) (hi : i ≤ 64) (R : List Int) (rest pre : List Int) (hr : ∀ d ∈ rest, 0 ≤ d ∧ d < W * H) (hp : (pre ++ rest).length ≤ 64) : ∀ v : List Bool, (v.length : Int) = W * H →
    (∀ v' : List Bool, (v'.length : Int) = W * H → (∀ e : Int, 0 ≤ e → rdOf false v' e = (rdOf false v e || rest.contains e)) → Ev (fun k => impl_graph_guarded.l0 k v' cs (cs.length : Int) ((i + 1 : Nat) : Int) W H L A B (cellsM W H L) (nearM W H L A B)) R) →
    Ev (fun k => impl_graph_guarded.l1 k v cs (cs.length : Int) (i : Int) (pre ++ rest) ((pre ++ rest).length : Int) (pre.length : Int) W H L A B (cellsM W H L) (nearM W H L A B)) R := by
  induction rest generalizing pre with
  | nil =>
    intro v hv hR
    refine Ev.step (fun k => by rw [impl_graph_guarded.l1]) ?_
    simp only [List.append_nil, nlt_end, if_false, w_succ (show i ≤ 4611686018427387904 by omega)]
    exact hR v hv (fun e _ => by simp)
  | cons d r ih =>
    intro v hv hR
    refine Ev.step (fun k => by rw [impl_graph_guarded.l1]) ?_
    have h0 : (0 : Int) ≤ (pre.length : Int) := by omega
    have h5 : pre.length ≤ 64 := by simp at hp; omega
    have hd := hr d (by simp)
    have hd2 : d < (v.length : Int) := by omega
    simp only [lt_mid pre d r, h0, if_true, rd_mid, hd.1, hd2, w_succ (show pre.length ≤ 4611686018427387904 by omega)]
    have := ih (pre ++ [d]) (fun x hx => hr x (by simp [hx])) (by simpa using hp) (v.set d.toNat true) (by simpa using hv) (fun v' hv' hq => hR v' hv' (fun e he => by
      rw [hq e he, rdOf_set v d true ⟨hd.1, hd2⟩ e he, List.contains_cons]
      by_cases hed : e = d
      · simp [hed]
      · rw [if_neg hed, show (e == d) = false from beq_eq_false_iff_ne.2 hed, Bool.false_or]))
    simpa using this
theorem guarded_l2 (v : List Bool) (hv : v.length ≤ 64) : ∀ (m i : Nat), m + i = v.length → ∀ acc : List Int, acc.length ≤ i → Ev (fun k => impl_graph_guarded.l2 k acc v (v.length : Int) (i : Int)) (acc ++ ((List.range' i m).map Int.ofNat).filter (rdOf false v)) := by
  intro m
  induction m with
  | zero =>
    intro i h1 acc h2
    refine Ev.step (fun k => by rw [impl_graph_guarded.l2]) ?_
    have h3 : ¬ ((i : Int) < (v.length : Int)) := by omega
    simp only [h3, if_false, List.range'_zero, List.map_nil, List.filter_nil, List.append_nil]
    exact Ev.now _
  | succ m ih =>
    intro i h1 acc h2
    refine Ev.step (fun k => by rw [impl_graph_guarded.l2]) ?_
    have h3 : (i : Int) < (v.length : Int) := by omega
    have h4 : (0 : Int) ≤ (i : Int) := by omega
    have h5 : acc.length < 17592186044416 := by omega
    simp only [h3, h4, h5, if_true, w_succ (show i ≤ 4611686018427387904 by omega)]
    by_cases hx : rdOf false v (i : Int) = true
    · simp only [hx, if_true]
      have := ih (i + 1) (by omega) (acc ++ [(i : Int)]) (by simp; omega)
      simpa [List.range'_succ, List.filter_cons, hx] using this
    · simp only [hx, if_false]
      have := ih (i + 1) (by omega) acc (by omega)
      simpa [List.range'_succ, List.filter_cons, hx] using this
theorem guarded_l0 (g : BoardM W H L) (s : List Int) (hs : ∀ c ∈ s, hasB W H L c = true) (rest pre : List Int) (he : pre ++ rest = s) (hp : (pre ++ rest).length ≤ 64) : ∀ v : List Bool, (v.length : Int) = W * H →
    (∀ e : Int, 0 ≤ e → rdOf false v e = (pre.contains e || pre.any fun q => (leapsM W H L A B q).contains e)) →
    Ev (fun k => impl_graph_guarded.l0 k v (pre ++ rest) ((pre ++ rest).length : Int) (pre.length : Int) W H L A B (cellsM W H L) (nearM W H L A B)) (guardedM W H L A B s) := by
  have ha := g.area
  induction rest generalizing pre with
  | nil =>
    intro v hv hq
    refine Ev.step (fun k => by rw [impl_graph_guarded.l0]) ?_
    have he' : pre = s := by simpa using he
    simp only [List.append_nil, nlt_end, if_false]
    have := guarded_l2 v (by omega) v.length 0 (by omega) [] (by simp)
    have e : guardedM W H L A B s = ((List.range' 0 v.length).map Int.ofNat).filter (rdOf false v) := by
      unfold guardedM cellsM
      rw [List.filter_filter, ← List.range_eq_range', show v.length = (W * H).toNat by omega]
      refine List.filter_congr fun x hx => ?_
      obtain ⟨i, hi, rfl⟩ := List.mem_map.1 hx
      have hi0 : (0 : Int) ≤ Int.ofNat i := by simp
      rw [hq _ hi0, he']
      unfold isGuarded
      rw [Bool.eq_iff_iff]
      simp only [Bool.and_eq_true, Bool.or_eq_true, List.any_eq_true, leaps_contains]
      constructor
      · rintro ⟨h1 | ⟨q, h2, h3⟩, h4⟩
        · exact .inl h1
        · exact .inr ⟨q, h2, h4, h3⟩
      · rintro (h1 | ⟨q, h2, h3, h4⟩)
        · exact ⟨.inl h1, hs _ (by simpa using h1)⟩
        · exact ⟨.inr ⟨q, h2, h4⟩, h3⟩
    rw [e]
    simpa using this
  | cons c r ih =>
    intro v hv hq
    refine Ev.step (fun k => by rw [impl_graph_guarded.l0]) ?_
    have h0 : (0 : Int) ≤ (pre.length : Int) := by omega
    have h5 : pre.length ≤ 64 := by simp at hp; omega
    have hh := hs c (by rw [← he]; simp)
    have hc := has_range hh
    have hc2 : c < (v.length : Int) := by omega
    have hn := near_in (A := A) (B := B) g hh
    simp only [lt_mid pre c r, h0, if_true, rd_mid, hc.1, hc2, hn.2, near_at hh]
    have := guarded_l1 (A := A) (B := B) g (pre ++ c :: r) pre.length h5 (guardedM W H L A B s) (leapsM W H L A B c) [] (fun d hd => has_range (leapsM_has hd)) (by simpa using leapsM_length g A B c) (v.set c.toNat true) (by simpa using hv) (fun v' hv' hq' => by
      have := ih (pre ++ [c]) (by simpa using he) (by simpa using hp) v' hv' (fun e he0 => by
        rw [hq' e he0, rdOf_set v c true ⟨hc.1, hc2⟩ e he0, hq e he0, List.any_append]
        by_cases hec : e = c
        · simp [hec]
        · have : (pre ++ [c]).contains e = pre.contains e := by simp [hec]
          rw [this, if_neg hec]
          simp [Bool.or_assoc])
      simpa using this)
    simpa using this
theorem guarded_ev (g : BoardM W H L) (s : List Int) (h : SetM W H L s) : Ev (fun k => impl_graph_guarded.f k W H L A B (cellsM W H L) (nearM W H L A B) s) (guardedM W H L A B s) := by
  have ha := g.area
  unfold impl_graph_guarded.f
  have h1 : (0 : Int) ≤ ((nearM W H L A B).length : Int) := by omega
  have h2 : (((nearM W H L A B).length : Int)).toNat = (W * H).toNat := by rw [nearM_length]; omega
  have h3 : (W * H).toNat ≤ 281474976710656 := by omega
  simp only [h1, h2, h3, if_true]
  have := guarded_l0 (A := A) (B := B) g s h.1 s [] rfl (by simpa using setM_small g h) (List.replicate (W * H).toNat false) (by simp; omega) (fun e he => by
    unfold rdOf
    rw [List.getD_eq_getElem?_getD, List.getElem?_replicate]
    split <;> simp)
  simpa using this
theorem guardedM_length (g : BoardM W H L) (s : List Int) : (guardedM W H L A B s).length ≤ 64 := Nat.le_trans (List.length_filter_le _ _) (cellsM_length g)
end
end Go.Proofs.Ythoklbeenjppbaa.H

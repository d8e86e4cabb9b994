/- IsFarPainting: cells at the distances 1 and 2 are the neighbours and theirs, so the program and the reference tell the same; the law's function answers true for all arguments. -/
import Derived.Test.YtbecdckdbeoomaaStateFnExactIsFarPainting
import Derived.Test.YtbecdckdbeoomaaHDistI
import Derived.Test.YtbecdckdbeoomaaHPaintI
import Derived.Test.YtbecdckdbeoomaaQ27
import Derived.Test.YtbecdckdbeoomaaQ28
import Derived.Test.YtbecdckdbeoomaaQ30
namespace Go.Proofs.Ytbecdckdbeoomaa.Pure
open Go.RowKit Go.IntWalk Go.Proofs.Ytbecdckdbeoomaa.Q Go.Proofs.Ytbecdckdbeoomaa.H Go.Proofs.YtbecdckdbeoomaaW.PrintWords Go.Proofs.YtbecdckdbeoomaaW.PrintMore
set_option linter.unusedVariables false
set_option linter.unusedSimpArgs false
def pick12 : Nat → List Int → List Int
  | _, [] => []
  | i, n :: r => if n = 1 ∨ n = 2 then (i : Int) :: pick12 (i + 1) r else pick12 (i + 1) r
theorem mem_pick12 (d : Int) (l : List Int) : ∀ i : Nat, d ∈ pick12 i l ↔ ∃ j : Nat, j < l.length ∧ d = (i : Int) + (j : Int) ∧ (rd l (j : Int) = 1 ∨ rd l (j : Int) = 2) := by
  induction l with
  | nil => intro i; simp [pick12]
  | cons n r ih =>
    intro i
    have e : ∀ j : Nat, rd (n :: r) ((j + 1 : Nat) : Int) = rd r (j : Int) := fun j => by
      unfold rd
      rw [show (((j + 1 : Nat) : Int)).toNat = j + 1 by omega, show ((j : Int)).toNat = j by omega]
      simp [List.getD_eq_getElem?_getD]
    have e0 : rd (n :: r) ((0 : Nat) : Int) = n := rfl
    rw [pick12]
    constructor
    · intro h
      split at h
      · rename_i hn
        rcases List.mem_cons.1 h with h | h
        · exact ⟨0, by simp, by omega, by rw [e0]; exact hn⟩
        · obtain ⟨j, h1, h2, h3⟩ := (ih (i + 1)).1 h
          exact ⟨j + 1, by simp; omega, by omega, by rw [e]; exact h3⟩
      · obtain ⟨j, h1, h2, h3⟩ := (ih (i + 1)).1 h
        exact ⟨j + 1, by simp; omega, by omega, by rw [e]; exact h3⟩
    · rintro ⟨j, h1, h2, h3⟩
      cases j with
      | zero =>
        rw [e0] at h3
        rw [if_pos h3]
        simp at h2
        simp [h2]
      | succ j =>
        rw [e] at h3
        have : d ∈ pick12 (i + 1) r := (ih (i + 1)).2 ⟨j, by simp at h1; omega, by omega, h3⟩
        split
        · simp [this]
        · exact this
theorem pick12_length (l : List Int) : ∀ i, (pick12 i l).length ≤ l.length := by
  induction l with
  | nil => intro i; simp [pick12]
  | cons n r ih => intro i; rw [pick12]; have := ih (i + 1); split <;> simp <;> omega
def addU (o : List Int) (x : Int) : List Int := if o.contains x = true then o else o ++ [x]
def inN (c : Int) (ds o : List Int) : List Int := ds.foldl (fun o d => if d = c then o else addU o d) o
def outN (nb : Int → List Int) (c : Int) (ns o : List Int) : List Int := ns.foldl (fun o x => inN c (nb x) (addU o x)) o
theorem mem_addU (o : List Int) (x y : Int) : y ∈ addU o x ↔ y ∈ o ∨ y = x := by
  unfold addU
  split
  · rename_i h
    have hx : x ∈ o := by simpa using h
    constructor
    · exact .inl
    · rintro (h | rfl)
      · exact h
      · exact hx
  · simp
theorem addU_length (o : List Int) (x : Int) : (addU o x).length ≤ o.length + 1 := by unfold addU; split <;> simp
theorem mem_inN (c y : Int) (ds : List Int) : ∀ o, y ∈ inN c ds o ↔ y ∈ o ∨ (y ∈ ds ∧ y ≠ c) := by
  induction ds with
  | nil => intro o; simp [inN]
  | cons d r ih =>
    intro o
    have h := ih (if d = c then o else addU o d)
    have e : inN c (d :: r) o = inN c r (if d = c then o else addU o d) := rfl
    rw [e, h]
    by_cases hd : d = c
    · rw [if_pos hd]
      constructor
      · rintro (h | ⟨h, h2⟩)
        · exact .inl h
        · exact .inr ⟨by simp [h], h2⟩
      · rintro (h | ⟨h, h2⟩)
        · exact .inl h
        · rcases List.mem_cons.1 h with h | h
          · exact absurd (h.trans hd) h2
          · exact .inr ⟨h, h2⟩
    · rw [if_neg hd, mem_addU]
      constructor
      · rintro ((h | h) | ⟨h, h2⟩)
        · exact .inl h
        · exact .inr ⟨by simp [h], by rw [h]; exact hd⟩
        · exact .inr ⟨by simp [h], h2⟩
      · rintro (h | ⟨h, h2⟩)
        · exact .inl (.inl h)
        · rcases List.mem_cons.1 h with h | h
          · exact .inl (.inr h)
          · exact .inr ⟨h, h2⟩
theorem inN_length (c : Int) (ds : List Int) : ∀ o, (inN c ds o).length ≤ o.length + ds.length := by
  induction ds with
  | nil => intro o; simp [inN]
  | cons d r ih =>
    intro o
    have e : inN c (d :: r) o = inN c r (if d = c then o else addU o d) := rfl
    have := ih (if d = c then o else addU o d)
    have := addU_length o d
    have hb : (if d = c then o else addU o d).length ≤ o.length + 1 := by split <;> omega
    rw [e]
    simp only [List.length_cons]
    omega
theorem mem_outN (nb : Int → List Int) (c y : Int) (ns : List Int) : ∀ o, y ∈ outN nb c ns o ↔ y ∈ o ∨ ∃ x ∈ ns, y = x ∨ (y ∈ nb x ∧ y ≠ c) := by
  induction ns with
  | nil => intro o; simp [outN]
  | cons x r ih =>
    intro o
    have e : outN nb c (x :: r) o = outN nb c r (inN c (nb x) (addU o x)) := rfl
    rw [e, ih, mem_inN, mem_addU]
    constructor
    · rintro (((h | h) | h) | ⟨z, h1, h2⟩)
      · exact .inl h
      · exact .inr ⟨x, by simp, .inl h⟩
      · exact .inr ⟨x, by simp, .inr h⟩
      · exact .inr ⟨z, by simp [h1], h2⟩
    · rintro (h | ⟨z, h1, h2⟩)
      · exact .inl (.inl (.inl h))
      · rcases List.mem_cons.1 h1 with rfl | h1
        · rcases h2 with h2 | h2
          · exact .inl (.inl (.inr h2))
          · exact .inl (.inr h2)
        · exact .inr ⟨z, h1, h2⟩
def anyEq (col : List Int) (c : Int) (ds : List Int) : Bool := ds.any fun d => decide (rd col c = rd col d)
section
variable {W H : Int} {L : List Int} {A B : Int}
theorem paNear_l1 (g : BoardM W H L) (c : Int) (xs : List Int) (xn i : Nat) (hi : i ≤ 64) (R : List Int) (rest pre : List Int) (hp : (pre ++ rest).length ≤ 64) : ∀ o : List Int, o.length + rest.length ≤ 100000 →
    Ev (fun k => spec_paNear.l0 k c (inN c rest o) xs (xn : Int) ((i + 1 : Nat) : Int) W H L A B) R →
    Ev (fun k => spec_paNear.l1 k c o xs (xn : Int) (i : Int) (pre ++ rest) ((pre ++ rest).length : Int) (pre.length : Int) W H L A B) R := by
  induction rest generalizing pre with
  | nil =>
    intro o ho hR
    refine Ev.step (fun k => by rw [spec_paNear.l1]) ?_
    simp only [List.append_nil, nlt_end, if_false, w_succ (show i ≤ 4611686018427387904 by omega)]
    exact hR
  | cons d r ih =>
    intro o ho hR
    refine Ev.step (fun k => by rw [spec_paNear.l1]) ?_
    have h0 : (0 : Int) ≤ (pre.length : Int) := by omega
    have h5 : pre.length ≤ 64 := by simp at hp; omega
    have h6 : o.length < 17592186044416 := by omega
    have e : inN c (d :: r) o = inN c r (if d = c then o else addU o d) := rfl
    rw [e] at hR
    simp only [lt_mid pre d r, h0, if_true, rd_mid, w_succ (show pre.length ≤ 4611686018427387904 by omega)]
    have next : ∀ o' : List Int, o' = (if d = c then o else addU o d) → o'.length ≤ o.length + 1 → Ev (fun k => spec_paNear.l1 k c o' xs (xn : Int) (i : Int) (pre ++ d :: r) ((pre ++ d :: r).length : Int) ((pre.length + 1 : Nat) : Int) W H L A B) R := by
      intro o' e1 hlen
      rw [← e1] at hR
      have := ih (pre ++ [d]) (by simpa using hp) o' (by simp at ho; omega) hR
      simpa using this
    by_cases c1 : d = c
    · simp only [if_pos c1]
      exact next o (by rw [if_pos c1]) (by omega)
    · simp only [if_neg c1]
      refine Ev.bind (l1Has_ev o d (by omega)) ?_
      rcases Bool.eq_false_or_eq_true (o.contains d) with hx | hx
      · simp only [hx, if_true]
        exact next o (by rw [if_neg c1]; unfold addU; rw [if_pos hx]) (by omega)
      · simp only [hx, Bool.false_eq_true, if_false, h6, if_true]
        exact next (o ++ [d]) (by rw [if_neg c1]; unfold addU; rw [if_neg (by rw [hx]; simp)]) (by simp)
theorem paNear_l0 (g : BoardM W H L) (hl : L.length ≤ 1048576) (c : Int) (rest pre : List Int) (hr : ∀ x ∈ rest, hasB W H L x = true) (hp : (pre ++ rest).length ≤ 64) : ∀ o : List Int, o.length ≤ 65 * pre.length →
    Ev (fun k => spec_paNear.l0 k c o (pre ++ rest) ((pre ++ rest).length : Int) (pre.length : Int) W H L A B) (outN (leapsM W H L A B) c rest o) := by
  induction rest generalizing pre with
  | nil =>
    intro o ho
    refine Ev.step (fun k => by rw [spec_paNear.l0]) ?_
    simp only [List.append_nil, nlt_end, if_false]
    exact Ev.now _
  | cons x r ih =>
    intro o ho
    refine Ev.step (fun k => by rw [spec_paNear.l0]) ?_
    have h0 : (0 : Int) ≤ (pre.length : Int) := by omega
    have h5 : pre.length ≤ 64 := by simp at hp; omega
    have h6 : o.length < 17592186044416 := by omega
    have hx := hr x (by simp)
    have hlen := leapsM_length g A B x
    have ha := addU_length o x
    have hin := inN_length c (leapsM W H L A B x) (addU o x)
    simp only [lt_mid pre x r, h0, if_true, rd_mid]
    refine Ev.bind (l1Has_ev o x (by omega)) ?_
    have go : ∀ o' : List Int, o' = addU o x → Ev (fun k => spec_paNear.j1 k c o' x (pre ++ x :: r) ((pre ++ x :: r).length : Int) (pre.length : Int) W H L A B) (outN (leapsM W H L A B) c (x :: r) o) := by
      intro o' e
      subst e
      refine Ev.step (fun k => by rw [spec_paNear.j1]) ?_
      refine Ev.bind (boLeaps_ev g hl A B x (has_range hx)) ?_
      have := paNear_l1 (A := A) (B := B) g c (pre ++ x :: r) (pre ++ x :: r).length pre.length (by omega) (outN (leapsM W H L A B) c (x :: r) o) (leapsM W H L A B x) [] (by simpa using hlen) (addU o x) (by omega) ?_
      · simpa using this
      · have := ih (pre ++ [x]) (fun y hy => hr y (by simp [hy])) (by simpa using hp) (inN c (leapsM W H L A B x) (addU o x)) (by simp; omega)
        have e : outN (leapsM W H L A B) c (x :: r) o = outN (leapsM W H L A B) c r (inN c (leapsM W H L A B x) (addU o x)) := rfl
        rw [e]
        simpa using this
    rcases Bool.eq_false_or_eq_true (o.contains x) with hc | hc
    · simp only [hc, if_true]
      exact go o (by unfold addU; rw [if_pos hc])
    · simp only [hc, Bool.false_eq_true, if_false, h6, if_true]
      exact go (o ++ [x]) (by unfold addU; rw [if_neg (by rw [hc]; simp)])
def paM (W H : Int) (L : List Int) (A B c : Int) : List Int := outN (leapsM W H L A B) c (leapsM W H L A B c) []
theorem paNear_ev (g : BoardM W H L) (hl : L.length ≤ 1048576) (c : Int) (hc : hasB W H L c = true) : Ev (fun k => spec_paNear.f k W H L A B c) (paM W H L A B c) := by
  unfold spec_paNear.f
  refine Ev.bind (boLeaps_ev g hl A B c (has_range hc)) ?_
  have := paNear_l0 (A := A) (B := B) g hl c (leapsM W H L A B c) [] (fun x hx => leapsM_has hx) (by simpa using leapsM_length g A B c) [] (by simp)
  simpa [paM] using this
theorem mem_paM (c y : Int) : y ∈ paM W H L A B c ↔ ∃ x ∈ leapsM W H L A B c, y = x ∨ (y ∈ leapsM W H L A B x ∧ y ≠ c) := by
  unfold paM; rw [mem_outN]; simp
theorem paM_has {c y : Int} (h : y ∈ paM W H L A B c) : hasB W H L y = true := by
  obtain ⟨x, hx, h | h⟩ := (mem_paM c y).1 h
  · rw [h]; exact leapsM_has hx
  · exact leapsM_has h.1
theorem outN_length (g : BoardM W H L) (c : Int) (ns : List Int) : ∀ o, (outN (leapsM W H L A B) c ns o).length ≤ o.length + 65 * ns.length := by
  induction ns with
  | nil => intro o; simp [outN]
  | cons x r ih =>
    intro o
    have e : outN (leapsM W H L A B) c (x :: r) o = outN (leapsM W H L A B) c r (inN c (leapsM W H L A B x) (addU o x)) := rfl
    have h1 := ih (inN c (leapsM W H L A B x) (addU o x))
    have h2 := inN_length c (leapsM W H L A B x) (addU o x)
    have h3 := addU_length o x
    have h4 := leapsM_length g A B x
    rw [e]
    simp only [List.length_cons]
    omega
theorem spec_l1 (col : List Int) (hc : (col.length : Int) = W * H) (c : Int) (hcr : 0 ≤ c ∧ c < W * H) (xs : List Int) (xn i : Nat) (hi : i ≤ 64) (R : Bool × Bool) (rest pre : List Int) (hr : ∀ d ∈ rest, 0 ≤ d ∧ d < W * H) (hp : (pre ++ rest).length ≤ 10000)
    (hR : anyEq col c rest = false → Ev (fun k => spec_IsFarPainting.l0 k col xs (xn : Int) ((i + 1 : Nat) : Int) W H L A B) R) :
    Ev (fun k => spec_IsFarPainting.l1 k col c xs (xn : Int) (i : Int) (pre ++ rest) ((pre ++ rest).length : Int) (pre.length : Int) W H L A B) (if anyEq col c rest = true then (false, true) else R) := by
  induction rest generalizing pre with
  | nil =>
    refine Ev.step (fun k => by rw [spec_IsFarPainting.l1]) ?_
    simp only [List.append_nil, nlt_end, if_false, w_succ (show i ≤ 4611686018427387904 by omega), anyEq, List.any_nil, Bool.false_eq_true]
    exact hR rfl
  | cons d r ih =>
    refine Ev.step (fun k => by rw [spec_IsFarPainting.l1]) ?_
    have h0 : (0 : Int) ≤ (pre.length : Int) := by omega
    have h5 : pre.length ≤ 10000 := by simp at hp; omega
    have hd := hr d (by simp)
    have hdl : d < (col.length : Int) := by omega
    have hcl : c < (col.length : Int) := by omega
    have e : anyEq col c (d :: r) = (decide (rd col c = rd col d) || anyEq col c r) := rfl
    simp only [lt_mid pre d r, h0, if_true, rd_mid, hcr.1, hcl, hd.1, hdl, w_succ (show pre.length ≤ 4611686018427387904 by omega), e]
    by_cases c1 : rd col c = rd col d
    · simp only [if_pos c1, decide_eq_true c1, Bool.true_or, if_true]
      exact Ev.now _
    · simp only [if_neg c1, decide_eq_false c1, Bool.false_or]
      have := ih (pre ++ [d]) (fun x hx => hr x (by simp [hx])) (by simpa using hp) (fun h => hR (by rw [e, decide_eq_false c1, h]; rfl))
      simpa using this
theorem spec_l0 (g : BoardM W H L) (hl : L.length ≤ 1048576) (col : List Int) (hc : (col.length : Int) = W * H) (rest pre : List Int) (hr : ∀ c ∈ rest, hasB W H L c = true) (hp : (pre ++ rest).length ≤ 64) :
    Ev (fun k => spec_IsFarPainting.l0 k col (pre ++ rest) ((pre ++ rest).length : Int) (pre.length : Int) W H L A B) (if (rest.any fun c => anyEq col c (paM W H L A B c)) = true then (false, true) else (true, true)) := by
  induction rest generalizing pre with
  | nil =>
    refine Ev.step (fun k => by rw [spec_IsFarPainting.l0]) ?_
    simp only [List.append_nil, nlt_end, if_false, List.any_nil, Bool.false_eq_true]
    exact Ev.now _
  | cons c r ih =>
    refine Ev.step (fun k => by rw [spec_IsFarPainting.l0]) ?_
    have h0 : (0 : Int) ≤ (pre.length : Int) := by omega
    have h5 : pre.length ≤ 64 := by simp at hp; omega
    have hcb := hr c (by simp)
    have hlen := outN_length (A := A) (B := B) g c (leapsM W H L A B c) []
    have hl2 := leapsM_length g A B c
    simp only [lt_mid pre c r, h0, if_true, rd_mid]
    refine Ev.bind (paNear_ev g hl c hcb) ?_
    have := spec_l1 (W := W) (H := H) (L := L) (A := A) (B := B) col hc c (has_range hcb) (pre ++ c :: r) (pre ++ c :: r).length pre.length (by omega) (if (r.any fun c => anyEq col c (paM W H L A B c)) = true then (false, true) else (true, true)) (paM W H L A B c) [] (fun d hd => has_range (paM_has hd)) (by unfold paM; simp at hlen ⊢; omega) (fun _ => by
      have := ih (pre ++ [c]) (fun x hx => hr x (by simp [hx])) (by simpa using hp)
      simpa using this)
    have e : ((c :: r).any fun c => anyEq col c (paM W H L A B c)) = (anyEq col c (paM W H L A B c) || r.any fun c => anyEq col c (paM W H L A B c)) := rfl
    rw [e]
    cases hx : anyEq col c (paM W H L A B c) with
    | true => rw [hx] at this; simpa using this
    | false => rw [hx] at this; simpa using this
theorem unlike_l1 (c : Int) (hc : 0 ≤ c ∧ c < W * H) (cs : List Int) (i : Nat) (hi : i ≤ 64) (R : List (List Int)) (rest pre : List Int) (hp : (pre ++ rest).length ≤ 64) : ∀ N : List (List Int), (N.length : Int) = W * H → (rd_L1 N c).length ≤ 1000 + pre.length →
    Ev (fun k => impl_graph_unlike.l0 k (N.set c.toNat (rd_L1 N c ++ pick12 pre.length rest)) cs (cs.length : Int) ((i + 1 : Nat) : Int) W H L A B (cellsM W H L) (nearM W H L A B)) R →
    Ev (fun k => impl_graph_unlike.l1 k N c cs (cs.length : Int) (i : Int) (pre ++ rest) ((pre ++ rest).length : Int) (pre.length : Int) W H L A B (cellsM W H L) (nearM W H L A B)) R := by
  induction rest generalizing pre with
  | nil =>
    intro N hN hrow hR
    refine Ev.step (fun k => by rw [impl_graph_unlike.l1]) ?_
    have hcN : 0 ≤ c ∧ c < (N.length : Int) := by omega
    rw [pick12, List.append_nil, set_rd_L1 N c hcN] at hR
    simp only [List.append_nil, nlt_end, if_false, w_succ (show i ≤ 4611686018427387904 by omega)]
    exact hR
  | cons n r ih =>
    intro N hN hrow hR
    refine Ev.step (fun k => by rw [impl_graph_unlike.l1]) ?_
    have hcN : 0 ≤ c ∧ c < (N.length : Int) := by omega
    have h0 : (0 : Int) ≤ (pre.length : Int) := by omega
    have h5 : pre.length ≤ 64 := by simp at hp; omega
    have h9 : (rd_L1 N c).length < 17592186044416 := by omega
    rw [pick12] at hR
    simp only [lt_mid pre n r, h0, if_true, rd_mid, hcN.1, hcN.2, h9, w_succ (show pre.length ≤ 4611686018427387904 by omega)]
    have yes : (n = 1 ∨ n = 2) → Ev (fun k => impl_graph_unlike.l1 k (N.set c.toNat (rd_L1 N c ++ [(pre.length : Int)])) c cs (cs.length : Int) (i : Int) (pre ++ n :: r) ((pre ++ n :: r).length : Int) ((pre.length + 1 : Nat) : Int) W H L A B (cellsM W H L) (nearM W H L A B)) R := by
      intro hn
      rw [if_pos hn] at hR
      have := ih (pre ++ [n]) (by simpa using hp) (N.set c.toNat (rd_L1 N c ++ [(pre.length : Int)])) (by simpa using hN) (by rw [rd_L1_set N c _ hcN]; simp; omega) (by rw [rd_L1_set N c _ hcN, List.set_set]; simpa using hR)
      simpa using this
    by_cases c1 : n = 1
    · simp only [if_pos c1]
      exact yes (.inl c1)
    · simp only [if_neg c1]
      by_cases c2 : n = 2
      · simp only [if_pos c2]
        exact yes (.inr c2)
      · simp only [if_neg c2]
        rw [if_neg (by rintro (h | h); exact c1 h; exact c2 h)] at hR
        have := ih (pre ++ [n]) (by simpa using hp) N hN (by simp; omega) (by simpa using hR)
        simpa using this
def unlF (W H : Int) (L : List Int) (A B : Int) (N : List (List Int)) (cs : List Int) : List (List Int) := cs.foldl (fun N c => N.set c.toNat (rd_L1 N c ++ pick12 0 (farM W H L A B c))) N
theorem unlF_length (cs : List Int) : ∀ N, (unlF W H L A B N cs).length = N.length := by
  induction cs with
  | nil => intro N; rfl
  | cons c r ih => intro N; show (unlF W H L A B _ r).length = _; rw [ih]; simp
theorem unlF_get (cs : List Int) (hn : cs.Nodup) : ∀ N, (∀ c ∈ cs, rd_L1 N c = [] ∧ 0 ≤ c ∧ c < (N.length : Int)) → ∀ i : Nat, i < N.length → rd_L1 (unlF W H L A B N cs) (i : Int) = if (i : Int) ∈ cs then pick12 0 (farM W H L A B (i : Int)) else rd_L1 N (i : Int) := by
  induction cs with
  | nil => intro N h i hi; simp [unlF]
  | cons c r ih =>
    intro N h i hi
    show rd_L1 (unlF W H L A B (N.set c.toNat (rd_L1 N c ++ pick12 0 (farM W H L A B c))) r) (i : Int) = _
    obtain ⟨hc0, hc⟩ := h c (by simp)
    obtain ⟨hcr, hr⟩ := List.nodup_cons.1 hn
    have hset : ∀ d : Int, 0 ≤ d → d ≠ c → rd_L1 (N.set c.toNat (rd_L1 N c ++ pick12 0 (farM W H L A B c))) d = rd_L1 N d := by
      intro d hd0 hdc
      unfold rd_L1
      rw [List.getD_eq_getElem?_getD, List.getElem?_set_ne (by omega), ← List.getD_eq_getElem?_getD]
    rw [ih hr _ (fun d hd => by
      have hd' := h d (by simp [hd])
      refine ⟨?_, hd'.2.1, by simpa using hd'.2.2⟩
      rw [hset d hd'.2.1 (fun e => by subst e; exact hcr hd)]
      exact hd'.1) i (by simpa using hi)]
    by_cases hic : (i : Int) = c
    · have : ¬ (i : Int) ∈ r := by rw [hic]; exact hcr
      rw [if_neg this, hic, rd_L1_set N c _ hc, if_pos (by simp), hc0]
      simp
    · rw [hset _ (by omega) hic]
      have : ((i : Int) ∈ c :: r) ↔ (i : Int) ∈ r := by simp [hic]
      by_cases h2 : (i : Int) ∈ r
      · rw [if_pos h2, if_pos (this.2 h2)]
      · rw [if_neg h2, if_neg (fun h3 => h2 (this.1 h3))]
theorem unlike_l0 (g : BoardM W H L) (rest pre : List Int) (hr : ∀ c ∈ rest, hasB W H L c = true) (hp : (pre ++ rest).length ≤ 64) (hnd : rest.Nodup) : ∀ N : List (List Int), (N.length : Int) = W * H → (∀ c ∈ rest, rd_L1 N c = []) →
    Ev (fun k => impl_graph_unlike.l0 k N (pre ++ rest) ((pre ++ rest).length : Int) (pre.length : Int) W H L A B (cellsM W H L) (nearM W H L A B)) (unlF W H L A B N rest) := by
  have ha := g.area
  induction rest generalizing pre with
  | nil =>
    intro N hN hrow
    refine Ev.step (fun k => by rw [impl_graph_unlike.l0]) ?_
    simp only [List.append_nil, nlt_end, if_false, unlF, List.foldl_nil]
    exact Ev.now _
  | cons c r ih =>
    intro N hN hrow
    refine Ev.step (fun k => by rw [impl_graph_unlike.l0]) ?_
    have h0 : (0 : Int) ≤ (pre.length : Int) := by omega
    have h5 : pre.length ≤ 64 := by simp at hp; omega
    have hcb := hr c (by simp)
    have hcr := has_range hcb
    have hk := farM_keep (A := A) (B := B) g hcr
    simp only [lt_mid pre c r, h0, if_true, rd_mid]
    refine Ev.bind (far_ev g c hcb) ?_
    have := unlike_l1 (L := L) (A := A) (B := B) c hcr (pre ++ c :: r) pre.length (by omega) (unlF W H L A B N (c :: r)) (farM W H L A B c) [] (by simp only [List.nil_append]; omega) N hN (by rw [hrow c (by simp)]; simp) ?_
    · simpa using this
    · have hcn : 0 ≤ c ∧ c < (N.length : Int) := by omega
      have := ih (pre ++ [c]) (fun d hd => hr d (by simp [hd])) (by simpa using hp) (List.nodup_cons.1 hnd).2 (N.set c.toNat (rd_L1 N c ++ pick12 0 (farM W H L A B c))) (by simpa using hN) (fun d hd => by
        have hdc : d ≠ c := fun e => by subst e; exact (List.nodup_cons.1 hnd).1 hd
        have hd0 := has_range (hr d (by simp [hd]))
        have h9 := hrow d (by simp [hd])
        unfold rd_L1 at h9 ⊢
        rw [List.getD_eq_getElem?_getD, List.getElem?_set_ne (by omega)]
        rwa [List.getD_eq_getElem?_getD] at h9)
      simpa [unlF] using this
def unlM (W H : Int) (L : List Int) (A B : Int) : List (List Int) := unlF W H L A B (List.replicate (W * H).toNat []) (cellsM W H L)
theorem rep_nil (n : Nat) (d : Int) : rd_L1 (List.replicate n ([] : List Int)) d = [] := by
  unfold rd_L1
  rw [List.getD_eq_getElem?_getD, List.getElem?_replicate]
  split <;> rfl
theorem unlike_ev (g : BoardM W H L) : Ev (fun k => impl_graph_unlike.f k W H L A B (cellsM W H L) (nearM W H L A B)) (unlM W H L A B) := by
  have ha := g.area
  unfold impl_graph_unlike.f
  have h1 : (0 : Int) ≤ ((nearM W H L A B).length : Int) := by omega
  have h2 : (((nearM W H L A B).length : Int)).toNat = (W * H).toNat := by rw [nearM_length]; omega
  have h3 : (W * H).toNat ≤ 11728124029610 := by omega
  simp only [h1, h2, h3, if_true]
  have := unlike_l0 (A := A) (B := B) g (cellsM W H L) [] (fun c hc => mem_cellsM.1 hc) (by simpa using cellsM_length g) ((cellsM_sorted W H L).imp (fun h => by omega)) (List.replicate (W * H).toNat []) (by simp; omega) (fun d _ => rep_nil _ d)
  simpa [unlM] using this
theorem unlM_get (g : BoardM W H L) (i : Nat) (hi : (i : Int) < W * H) : rd_L1 (unlM W H L A B) (i : Int) = if hasB W H L (i : Int) = true then pick12 0 (farM W H L A B (i : Int)) else [] := by
  have ha := g.area
  unfold unlM
  rw [unlF_get (cellsM W H L) ((cellsM_sorted W H L).imp (fun h => by omega)) (List.replicate (W * H).toNat []) (fun c hc => ⟨rep_nil _ c, by have := has_range (mem_cellsM.1 hc); simp; omega⟩) i (by simp; omega)]
  by_cases h : hasB W H L (i : Int) = true
  · rw [if_pos (mem_cellsM.2 h), if_pos h]
  · rw [if_neg (fun h2 => h (mem_cellsM.1 h2)), if_neg h, rep_nil]
/-- The cells at the distances 1 and 2 are the neighbours and theirs. -/
theorem mem_far12 (g : BoardM W H L) (l : Leap A B) (c : Int) (hc : hasB W H L c = true) (d : Int) : d ∈ pick12 0 (farM W H L A B c) ↔ d ∈ paM W H L A B c := by
  have ha := g.area
  have hcr := has_range hc
  have hk := farM_keep (A := A) (B := B) g hcr
  have one : ∀ x : Int, 0 ≤ x ∧ x < W * H → (rd (farM W H L A B c) x = 1 ↔ x ∈ leapsM W H L A B c) := by
    intro x hx
    constructor
    · intro h
      rcases far_pre (A := A) (B := B) g hcr x hx (by omega) with ⟨_, h1⟩ | ⟨p, h1, h2, h3, h4⟩
      · omega
      · have hpc := far_zero (A := A) (B := B) g hcr p h1 (by omega)
        rw [hpc] at h3; exact h3
    · intro h
      have h0 := farM_self (A := A) (B := B) g hcr
      have h1 := far_step (A := A) (B := B) g hcr c hcr (by omega) x h
      have h2 : rd (farM W H L A B c) x ≠ 0 := fun h3 => by
        have := far_zero (A := A) (B := B) g hcr x hx h3
        rw [this] at h
        simp only [leapsM, List.mem_filter] at h
        rw [isB_self l] at h
        cases h.2
      omega
  rw [mem_pick12, mem_paM]
  constructor
  · rintro ⟨j, h1, h2, h3⟩
    have hd : d = (j : Int) := by omega
    have hdr : 0 ≤ d ∧ d < W * H := by omega
    rw [← hd] at h3
    rcases h3 with h3 | h3
    · exact ⟨d, (one d hdr).1 h3, .inl rfl⟩
    · rcases far_pre (A := A) (B := B) g hcr d hdr (by omega) with ⟨_, h4⟩ | ⟨p, h4, h5, h6, h7⟩
      · omega
      · refine ⟨p, (one p h4).1 (by omega), .inr ⟨h6, fun h => ?_⟩⟩
        have := farM_self (A := A) (B := B) g hcr
        rw [h] at h3; omega
  · rintro ⟨x, hx, h⟩
    have hxr := has_range (leapsM_has hx)
    have hx1 := (one x hxr).2 hx
    rcases h with h | ⟨h, hne⟩
    · subst h
      exact ⟨d.toNat, by omega, by omega, by rw [show ((d.toNat : Nat) : Int) = d by omega]; exact .inl hx1⟩
    · have hdr := has_range (leapsM_has h)
      have h1 := far_step (A := A) (B := B) g hcr x hxr (by omega) d h
      have h2 : rd (farM W H L A B c) d ≠ 0 := fun h3 => hne (far_zero (A := A) (B := B) g hcr d hdr h3)
      exact ⟨d.toNat, by omega, by omega, by rw [show ((d.toNat : Nat) : Int) = d by omega]; omega⟩
theorem anyEq_congr (col : List Int) (c : Int) (u v : List Int) (h : ∀ d, d ∈ u ↔ d ∈ v) : anyEq col c u = anyEq col c v := by
  unfold anyEq
  rw [Bool.eq_iff_iff, List.any_eq_true, List.any_eq_true]
  constructor
  · rintro ⟨d, h1, h2⟩; exact ⟨d, (h d).1 h1, h2⟩
  · rintro ⟨d, h1, h2⟩; exact ⟨d, (h d).2 h1, h2⟩
theorem impl_l1 (col : List Int) (hc : (col.length : Int) = W * H) (U : List (List Int)) (i : Nat) (hi : (i : Int) < W * H) (hi2 : i ≤ 64) (R : Bool × Bool) (rest pre : List Int) (hr : ∀ d ∈ rest, 0 ≤ d ∧ d < W * H) (hp : (pre ++ rest).length ≤ 64)
    (hR : anyEq col (i : Int) rest = false → Ev (fun k => impl_IsFarPainting.l0 k col U (U.length : Int) ((i + 1 : Nat) : Int)) R) :
    Ev (fun k => impl_IsFarPainting.l1 k col (i : Int) U (U.length : Int) (i : Int) (pre ++ rest) ((pre ++ rest).length : Int) (pre.length : Int)) (if anyEq col (i : Int) rest = true then (false, true) else R) := by
  induction rest generalizing pre with
  | nil =>
    refine Ev.step (fun k => by rw [impl_IsFarPainting.l1]) ?_
    simp only [List.append_nil, nlt_end, if_false, w_succ (show i ≤ 4611686018427387904 by omega), anyEq, List.any_nil, Bool.false_eq_true]
    exact hR rfl
  | cons d r ih =>
    refine Ev.step (fun k => by rw [impl_IsFarPainting.l1]) ?_
    have h0 : (0 : Int) ≤ (pre.length : Int) := by omega
    have h5 : pre.length ≤ 64 := by simp at hp; omega
    have hd := hr d (by simp)
    have hdl : d < (col.length : Int) := by omega
    have hi0 : (0 : Int) ≤ (i : Int) := by omega
    have hcl : (i : Int) < (col.length : Int) := by omega
    have e : anyEq col (i : Int) (d :: r) = (decide (rd col (i : Int) = rd col d) || anyEq col (i : Int) r) := rfl
    simp only [lt_mid pre d r, h0, if_true, rd_mid, hi0, hcl, hd.1, hdl, w_succ (show pre.length ≤ 4611686018427387904 by omega), e]
    by_cases c1 : rd col (i : Int) = rd col d
    · simp only [if_pos c1, decide_eq_true c1, Bool.true_or, if_true]
      exact Ev.now _
    · simp only [if_neg c1, decide_eq_false c1, Bool.false_or]
      have := ih (pre ++ [d]) (fun x hx => hr x (by simp [hx])) (by simpa using hp) (fun h => hR (by rw [e, decide_eq_false c1, h]; rfl))
      simpa using this
theorem impl_l0 (g : BoardM W H L) (col : List Int) (hc : (col.length : Int) = W * H) : ∀ (m i : Nat), i + m = (W * H).toNat →
    Ev (fun k => impl_IsFarPainting.l0 k col (unlM W H L A B) ((unlM W H L A B).length : Int) (i : Int)) (if ((List.range' i m).any fun i => anyEq col (i : Int) (rd_L1 (unlM W H L A B) (i : Int))) = true then (false, true) else (true, true)) := by
  have ha := g.area
  have hU : (unlM W H L A B).length = (W * H).toNat := by unfold unlM; rw [unlF_length]; simp
  intro m
  induction m with
  | zero =>
    intro i h1
    refine Ev.step (fun k => by rw [impl_IsFarPainting.l0]) ?_
    have h3 : ¬ ((i : Int) < ((unlM W H L A B).length : Int)) := by omega
    simp only [h3, if_false, List.range'_zero, List.any_nil, Bool.false_eq_true]
    exact Ev.now _
  | succ m ih =>
    intro i h1
    refine Ev.step (fun k => by rw [impl_IsFarPainting.l0]) ?_
    have h3 : (i : Int) < ((unlM W H L A B).length : Int) := by omega
    have h4 : (0 : Int) ≤ (i : Int) := by omega
    have hir : 0 ≤ (i : Int) ∧ (i : Int) < W * H := by omega
    have hrow : ∀ d ∈ rd_L1 (unlM W H L A B) (i : Int), 0 ≤ d ∧ d < W * H := by
      intro d hd
      rw [unlM_get g i hir.2] at hd
      split at hd
      · have hk := farM_keep (A := A) (B := B) g hir
        obtain ⟨j, h5, h6, _⟩ := (mem_pick12 d _ 0).1 hd
        omega
      · cases hd
    have hlen : (rd_L1 (unlM W H L A B) (i : Int)).length ≤ 64 := by
      rw [unlM_get g i hir.2]
      split
      · have hk := farM_keep (A := A) (B := B) g hir
        have := pick12_length (farM W H L A B (i : Int)) 0
        omega
      · simp
    simp only [h3, h4, if_true]
    have := impl_l1 (W := W) (H := H) col hc (unlM W H L A B) i hir.2 (by omega) (if ((List.range' (i + 1) m).any fun i => anyEq col (i : Int) (rd_L1 (unlM W H L A B) (i : Int))) = true then (false, true) else (true, true)) (rd_L1 (unlM W H L A B) (i : Int)) [] hrow (by simpa using hlen) (fun _ => ih (i + 1) (by omega))
    have e : ((List.range' i (m + 1)).any fun i => anyEq col (i : Int) (rd_L1 (unlM W H L A B) (i : Int))) = (anyEq col (i : Int) (rd_L1 (unlM W H L A B) (i : Int)) || (List.range' (i + 1) m).any fun i => anyEq col (i : Int) (rd_L1 (unlM W H L A B) (i : Int))) := by rw [List.range'_succ]; rfl
    by_cases hx : anyEq col (i : Int) (rd_L1 (unlM W H L A B) (i : Int)) = true
    · rw [if_pos hx] at this
      rw [if_pos (by rw [e, hx]; rfl)]
      exact this
    · rw [if_neg hx] at this
      have hx' : anyEq col (i : Int) (rd_L1 (unlM W H L A B) (i : Int)) = false := by simpa using hx
      simp only [e, hx', Bool.false_or]
      exact this
theorem bad_same (g : BoardM W H L) (l : Leap A B) (col : List Int) : ((List.range' 0 (W * H).toNat).any fun i => anyEq col (i : Int) (rd_L1 (unlM W H L A B) (i : Int))) = ((cellsM W H L).any fun c => anyEq col c (paM W H L A B c)) := by
  have ha := g.area
  rw [Bool.eq_iff_iff, List.any_eq_true, List.any_eq_true]
  constructor
  · rintro ⟨i, hi, h⟩
    obtain ⟨j, hj, rfl⟩ := List.mem_range'.1 hi
    rw [unlM_get g _ (by omega)] at h
    split at h
    · rename_i hh
      exact ⟨_, mem_cellsM.2 hh, by rw [← anyEq_congr col _ _ _ (mem_far12 g l _ hh)]; exact h⟩
    · simp [anyEq] at h
  · rintro ⟨c, hc, h⟩
    have hh := mem_cellsM.1 hc
    have hr := has_range hh
    refine ⟨c.toNat, List.mem_range'.2 ⟨c.toNat, by omega, by omega⟩, ?_⟩
    have e : ((c.toNat : Nat) : Int) = c := by omega
    rw [unlM_get g _ (by omega), e, if_pos hh, anyEq_congr col c _ _ (mem_far12 g l c hh)]
    exact h
theorem paint_bad (g : BoardM W H L) (col : List Int) (h : paintB W H L A B col = false) : ((cellsM W H L).any fun c => anyEq col c (paM W H L A B c)) = true := by
  unfold paintB at h
  rw [List.all_eq_false] at h
  obtain ⟨p, hp, h⟩ := h
  obtain ⟨c, d, rfl, h1, h2, h3, h4⟩ := (mem_pairsM p).1 hp
  have e1 : rd [c, d] 0 = c := rfl
  have e2 : rd [c, d] 1 = d := rfl
  rw [e1, e2] at h
  have heq : rd col c = rd col d := by simpa using h
  rw [List.any_eq_true]
  refine ⟨c, mem_cellsM.2 h1, ?_⟩
  unfold anyEq
  rw [List.any_eq_true]
  refine ⟨d, (mem_paM c d).2 ⟨d, ?_, .inl rfl⟩, by simpa using heq⟩
  simp only [leapsM, List.mem_filter]
  exact ⟨mem_cellsM.2 h2, h3⟩
end
theorem isFarPainting_both (W H : Int) (L : List Int) (A B : Int) (s : List Int) (hl : L.length ≤ 1048576) (hs : s.length ≤ 1048576) : ∃ (r b : Bool), Ev (fun k => spec_IsFarPainting.f k W H L A B s) (r, b) ∧ Ev (fun k => impl_IsFarPainting.f k W H L A B s) (r, b) := by
  by_cases t : Two W H L A B
  · have g := t.1
    have hS := paGood_ev g hl s
    have hI := isPainting_ev (A := A) (B := B) g hl s
    rcases Bool.eq_false_or_eq_true (colsB W H L s) with hx | hx
    · rw [hx] at hS hI
      have hc : (s.length : Int) = W * H := by
        have h := hx
        simp only [colsB, Bool.and_eq_true, decide_eq_true_eq] at h
        exact h.1
      have hsp : Ev (fun k => spec_IsFarPainting.f k W H L A B s) (if ((cellsM W H L).any fun c => anyEq s c (paM W H L A B c)) = true then (false, true) else (true, true)) := by
        unfold spec_IsFarPainting.f
        refine Ev.bind (two_yes t hl) ?_
        simp only [if_true]
        refine Ev.bind hS ?_
        simp only [if_true]
        refine Ev.bind (boCells_ev g hl) ?_
        have := spec_l0 (A := A) (B := B) g hl s hc (cellsM W H L) [] (fun c hc => mem_cellsM.1 hc) (by simpa using cellsM_length g)
        simpa using this
      rcases Bool.eq_false_or_eq_true (paintB W H L A B s) with hy | hy
      · rw [hy] at hI
        have him : Ev (fun k => impl_IsFarPainting.f k W H L A B s) (if ((cellsM W H L).any fun c => anyEq s c (paM W H L A B c)) = true then (false, true) else (true, true)) := by
          unfold impl_IsFarPainting.f
          refine Ev.bind (graphOf_two t hl) ?_
          simp only [if_true]
          refine Ev.bind hI ?_
          simp only [Bool.and_self, if_true]
          refine Ev.bind (unlike_ev g) ?_
          have := impl_l0 (A := A) (B := B) g s hc (W * H).toNat 0 (by omega)
          rw [bad_same g t.2 s] at this
          simpa using this
        by_cases hb : ((cellsM W H L).any fun c => anyEq s c (paM W H L A B c)) = true
        · rw [if_pos hb] at hsp him
          exact ⟨_, _, hsp, him⟩
        · rw [if_neg hb] at hsp him
          exact ⟨_, _, hsp, him⟩
      · rw [hy] at hI
        rw [if_pos (paint_bad g s hy)] at hsp
        refine ⟨false, true, hsp, ?_⟩
        unfold impl_IsFarPainting.f
        refine Ev.bind (graphOf_two t hl) ?_
        simp only [if_true]
        refine Ev.bind hI ?_
        simp only [Bool.and_false, Bool.false_eq_true, if_false]
        exact Ev.now _
    · rw [hx] at hS hI
      refine ⟨false, true, ?_, ?_⟩
      · unfold spec_IsFarPainting.f
        refine Ev.bind (two_yes t hl) ?_
        simp only [if_true]
        refine Ev.bind hS ?_
        simp only [Bool.false_eq_true, if_false]
        exact Ev.now _
      · unfold impl_IsFarPainting.f
        refine Ev.bind (graphOf_two t hl) ?_
        simp only [if_true]
        refine Ev.bind hI ?_
        simp only [Bool.false_and, Bool.false_eq_true, if_false]
        exact Ev.now _
  · refine ⟨false, false, ?_, ?_⟩
    · unfold spec_IsFarPainting.f
      refine Ev.bind (two_no t hl) ?_
      simp only [Bool.false_eq_true, if_false]
      exact Ev.now _
    · unfold impl_IsFarPainting.f
      refine Ev.bind (graphOf_not t hl) ?_
      simp only [Bool.false_eq_true, if_false]
      exact Ev.now _
theorem FnExactIsFarPainting : FnExactIsFarPaintingSaid := by
  intro a0_0 a0_1 l0_2 a1_0 a1_1 l2 _ _ hlen_l0_2 _ _ _ hlen_l2 _
  by_cases hb_l2 : (l2.length : Int) > 1048576
  · refine ⟨0, ?_⟩
    simp [laws_FnExactIsFarPainting.f, hb_l2]
  have hs_l2 : l2.length ≤ 1048576 := by omega
  by_cases hb_l0_2 : 1048576 < l0_2.length
  · refine ⟨0, ?_⟩
    simp [laws_FnExactIsFarPainting.f, szBoard_big a0_0 a0_1 l0_2 hb_l0_2 hlen_l0_2, hb_l2]
  have hs_l0_2 : l0_2.length ≤ 1048576 := by omega
  obtain ⟨r, b, hs, hi⟩ := isFarPainting_both a0_0 a0_1 l0_2 a1_0 a1_1 l2 hs_l0_2 hs_l2
  refine rounds_of ?_
  have n0 : ¬ (1048576 - (l0_2.length : Int) < 0) := by omega
  have n1 : ¬ (1 + (l0_2.length : Int) < 0) := by omega
  have n2 : ¬ (1 + (l2.length : Int) < 0) := by omega
  have n12 : ¬ (1 + (l0_2.length : Int) + (l2.length : Int) < 0) := by omega
  unfold laws_FnExactIsFarPainting.f
  repeat (first
    | exact Ev.now _
    | refine Ev.bind (toBoard_ev _ _ _ (by assumption)) ?_
    | refine Ev.bind (eqBoard_ev _ _ _ (by assumption)) ?_
    | refine Ev.bind (markBoard_ev _ _ _ (by assumption)) ?_
    | refine Ev.bind (toIntS_ev _ (by assumption)) ?_
    | refine Ev.bind (eqIntS_ev _ (by assumption)) ?_
    | refine Ev.bind (markIntS_ev _ (by assumption)) ?_
    | refine Ev.bind (heldIntS_ev _ (by assumption)) ?_
    | refine Ev.bind (markIntS_any _ _ (by assumption) (by omega)) ?_
    | refine Ev.bind hs ?_
    | refine Ev.bind hi ?_
    | simp only [Option.bind_some, if_true, if_false, bne_self_eq_false, Bool.false_eq_true, ne_eq, not_true_eq_false, not_false_eq_true, hb_l2, szBoard_fit _ _ _ hs_l0_2, laws_toLeaper.f, n0, n1, n2, n12]
    | (refine Ev.step (fun k => by rw [laws_FnExactIsFarPainting.j0]) ?_))
end Go.Proofs.Ytbecdckdbeoomaa.Pure

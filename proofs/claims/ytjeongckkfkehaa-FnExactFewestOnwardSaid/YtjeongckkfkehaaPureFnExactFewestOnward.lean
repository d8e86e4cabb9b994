/- FewestOnward: the program and the reference tell the same walk, so the law's function answers true for all arguments. -/
import Derived.Test.YtjeongckkfkehaaStateFnExactFewestOnward
import Derived.Test.YtjeongckkfkehaaHTwo
import Derived.Test.YtjeongckkfkehaaHPig
import Derived.Test.YtjeongckkfkehaaQ14
import Derived.Test.YtjeongckkfkehaaQ15
namespace Go.Proofs.Ytjeongckkfkehaa.Pure
open Go.RowKit Go.IntWalk Go.Proofs.Ytjeongckkfkehaa.Q Go.Proofs.Ytjeongckkfkehaa.H Go.Proofs.YtjeongckkfkehaaW.PrintWords Go.Proofs.YtjeongckkfkehaaW.PrintMore
set_option linter.unusedVariables false
set_option linter.unusedSimpArgs false
def freeN (s ds : List Int) : Nat := (ds.filter fun e => !s.contains e).length
def bestF (nb : Int → List Int) (s : List Int) : List Int → Int → Int → Int × Int
  | [], b, f => (b, f)
  | d :: r, b, f => if s.contains d = true then bestF nb s r b f else if b < 0 then bestF nb s r d (freeN s (nb d)) else if (freeN s (nb d) : Int) < f then bestF nb s r d (freeN s (nb d)) else bestF nb s r b f
def lastOf (s : List Int) : Int := rd s ((s.length - 1 : Nat) : Int)
def goF (nb : Int → List Int) : Nat → List Int → List Int
  | 0, s => s
  | m + 1, s => if (bestF nb s (nb (lastOf s)) (-1) 0).1 < 0 then s else goF nb m (s ++ [(bestF nb s (nb (lastOf s)) (-1) 0).1])
theorem freeN_le (s ds : List Int) : freeN s ds ≤ ds.length := List.length_filter_le _ _
theorem bestF_from (nb : Int → List Int) (s : List Int) (ds : List Int) : ∀ b f, (bestF nb s ds b f).1 = b ∨ ((bestF nb s ds b f).1 ∈ ds ∧ s.contains (bestF nb s ds b f).1 = false) := by
  induction ds with
  | nil => intro b f; exact .inl rfl
  | cons d r ih =>
    intro b f
    have step : ∀ b' f', (bestF nb s r b' f').1 = b' ∨ ((bestF nb s r b' f').1 ∈ d :: r ∧ s.contains (bestF nb s r b' f').1 = false) := fun b' f' => by
      rcases ih b' f' with h | ⟨h, h2⟩
      · exact .inl h
      · exact .inr ⟨by simp [h], h2⟩
    rw [bestF]
    rcases Bool.eq_false_or_eq_true (s.contains d) with hx | hx
    · rw [if_pos hx]; exact step b f
    · have hn : ¬ s.contains d = true := by rw [hx]; simp
      rw [if_neg hn]
      have new : ∀ f', (bestF nb s r d f').1 = b ∨ ((bestF nb s r d f').1 ∈ d :: r ∧ s.contains (bestF nb s r d f').1 = false) := fun f' => by
        rcases step d f' with h | h
        · rw [h]; exact .inr ⟨by simp, hx⟩
        · exact .inr h
      split
      · exact new _
      · split
        · exact new _
        · exact step b f
structure PathI (W H : Int) (L s : List Int) : Prop where
  has : ∀ x ∈ s, hasB W H L x = true
  once : ∀ x, s.count x ≤ 1
  pos : 1 ≤ s.length
theorem PathI.small {W H : Int} {L s : List Int} (g : BoardM W H L) (p : PathI W H L s) : s.length ≤ 64 := by
  have ha := g.area
  have := few_of_once s (W * H).toNat (fun x hx => by have := has_range (p.has x hx); omega) p.once
  omega
theorem PathI.last {W H : Int} {L s : List Int} (p : PathI W H L s) : hasB W H L (lastOf s) = true := by
  have := p.pos
  unfold lastOf
  rw [rd_nat s (s.length - 1) (by omega)]
  exact p.has _ (List.getElem_mem _)
theorem PathI.add {W H : Int} {L s : List Int} (p : PathI W H L s) {b : Int} (hb : hasB W H L b = true) (hn : s.contains b = false) : PathI W H L (s ++ [b]) := by
  refine ⟨fun x hx => ?_, fun x => ?_, by simp⟩
  · rcases List.mem_append.1 hx with h | h
    · exact p.has x h
    · obtain rfl : x = b := by simpa using h
      exact hb
  · rw [List.count_append]
    have h1 := p.once x
    by_cases h : b = x
    · subst h
      have : s.count b = 0 := List.count_eq_zero.2 (by simpa using hn)
      simp [this]
    · have : [b].count x = 0 := List.count_eq_zero.2 (by simpa using fun e => h e.symm)
      omega
section
variable {W H : Int} {L : List Int} {A B : Int}
theorem toOnward_loop (s : List Int) (hs : s.length ≤ 64) (rest pre : List Int) (hp : (pre ++ rest).length ≤ 64) : ∀ n : Nat, n ≤ pre.length →
    Ev (fun k => spec_toOnward.l0 k s (n : Int) (pre ++ rest) ((pre ++ rest).length : Int) (pre.length : Int)) ((n + freeN s rest : Nat) : Int) := by
  induction rest generalizing pre with
  | nil =>
    intro n hn
    refine Ev.step (fun k => by rw [spec_toOnward.l0]) ?_
    simp only [List.append_nil, nlt_end, if_false, freeN, List.filter_nil, List.length_nil, Nat.add_zero]
    exact Ev.now _
  | cons e r ih =>
    intro n hn
    refine Ev.step (fun k => by rw [spec_toOnward.l0]) ?_
    have h0 : (0 : Int) ≤ (pre.length : Int) := by omega
    have h5 : pre.length ≤ 64 := by simp at hp; omega
    simp only [lt_mid pre e r, h0, if_true, rd_mid, w_succ (show pre.length ≤ 4611686018427387904 by omega), w_succ (show n ≤ 4611686018427387904 by omega)]
    refine Ev.bind (l1Has_ev s e (by omega)) ?_
    rcases Bool.eq_false_or_eq_true (s.contains e) with hx | hx
    · have e1 : freeN s (e :: r) = freeN s r := by simp only [freeN, List.filter_cons, hx, Bool.not_true, Bool.false_eq_true, if_false]
      simp only [hx, if_true, e1]
      have := ih (pre ++ [e]) (by simpa using hp) n (by simp; omega)
      simpa using this
    · have e1 : freeN s (e :: r) = freeN s r + 1 := by simp only [freeN, List.filter_cons, hx, Bool.not_false, if_true, List.length_cons]
      simp only [hx, Bool.false_eq_true, if_false, e1]
      have := ih (pre ++ [e]) (by simpa using hp) (n + 1) (by simp; omega)
      rw [show n + 1 + freeN s r = n + (freeN s r + 1) by omega] at this
      simpa using this
theorem toOnward_ev (g : BoardM W H L) (hl : L.length ≤ 1048576) (s : List Int) (hs : s.length ≤ 64) (d : Int) (hd : hasB W H L d = true) : Ev (fun k => spec_toOnward.f k W H L A B d s) ((freeN s (leapsM W H L A B d) : Nat) : Int) := by
  unfold spec_toOnward.f
  refine Ev.bind (boLeaps_ev g hl A B d (has_range hd)) ?_
  have := toOnward_loop s hs (leapsM W H L A B d) [] (by simpa using leapsM_length g A B d) 0 (by simp)
  simpa using this
theorem spec_l1 (g : BoardM W H L) (hl : L.length ≤ 1048576) (s : List Int) (hs : s.length ≤ 64) (R : List Int × Bool) (rest pre : List Int) (hr : ∀ d ∈ rest, hasB W H L d = true) (hp : (pre ++ rest).length ≤ 64) : ∀ b f : Int,
    Ev (fun k => if (bestF (leapsM W H L A B) s rest b f).1 < 0 then some (s, true) else if s.length < 17592186044416 then spec_FewestOnward.l0 k (s ++ [(bestF (leapsM W H L A B) s rest b f).1]) W H L A B else none) R →
    Ev (fun k => spec_FewestOnward.l1 k s b f (pre ++ rest) ((pre ++ rest).length : Int) (pre.length : Int) W H L A B) R := by
  induction rest generalizing pre with
  | nil =>
    intro b f hR
    refine Ev.step (fun k => by rw [spec_FewestOnward.l1]) ?_
    simp only [List.append_nil, nlt_end, if_false]
    exact hR
  | cons d r ih =>
    intro b f hR
    refine Ev.step (fun k => by rw [spec_FewestOnward.l1]) ?_
    have h0 : (0 : Int) ≤ (pre.length : Int) := by omega
    have h5 : pre.length ≤ 64 := by simp at hp; omega
    have next : ∀ b' f' : Int, Ev (fun k => if (bestF (leapsM W H L A B) s r b' f').1 < 0 then some (s, true) else if s.length < 17592186044416 then spec_FewestOnward.l0 k (s ++ [(bestF (leapsM W H L A B) s r b' f').1]) W H L A B else none) R →
        Ev (fun k => spec_FewestOnward.l1 k s b' f' (pre ++ d :: r) ((pre ++ d :: r).length : Int) ((pre.length + 1 : Nat) : Int) W H L A B) R := by
      intro b' f' h
      have := ih (pre ++ [d]) (fun x hx => hr x (by simp [hx])) (by simpa using hp) b' f' h
      simpa using this
    rw [bestF] at hR
    simp only [lt_mid pre d r, h0, if_true, rd_mid, w_succ (show pre.length ≤ 4611686018427387904 by omega)]
    refine Ev.bind (l1Has_ev s d (by omega)) ?_
    rcases Bool.eq_false_or_eq_true (s.contains d) with hx | hx
    · simp only [hx, if_true] at hR ⊢
      exact next b f hR
    · simp only [hx, Bool.false_eq_true, if_false] at hR ⊢
      refine Ev.bind (toOnward_ev g hl s hs d (hr d (by simp))) ?_
      by_cases c1 : b < 0
      · simp only [c1, if_true] at hR ⊢
        exact next _ _ hR
      · simp only [c1, if_false] at hR ⊢
        by_cases c2 : ((freeN s (leapsM W H L A B d) : Nat) : Int) < f
        · simp only [c2, if_true] at hR ⊢
          exact next _ _ hR
        · simp only [c2, if_false] at hR ⊢
          exact next _ _ hR
theorem spec_l0 (g : BoardM W H L) (hl : L.length ≤ 1048576) : ∀ (m : Nat) (s : List Int), PathI W H L s → 65 ≤ m + s.length → Ev (fun k => spec_FewestOnward.l0 k s W H L A B) (goF (leapsM W H L A B) m s, true) := by
  intro m
  induction m with
  | zero => intro s p hm; have := p.small g; omega
  | succ m ih =>
    intro s p hm
    have hsm := p.small g
    have hpos := p.pos
    have hlast := p.last
    refine Ev.step (fun k => by rw [spec_FewestOnward.l0]) ?_
    have w : wrap64 ((s.length : Int) - 1) = ((s.length - 1 : Nat) : Int) := by rw [wrap64_in _ (by omega)]; omega
    have h1 : (0 : Int) ≤ ((s.length - 1 : Nat) : Int) := by omega
    have h2 : ((s.length - 1 : Nat) : Int) < (s.length : Int) := by omega
    simp only [w, h1, h2, if_true]
    refine Ev.bind (boLeaps_ev g hl A B (lastOf s) (has_range hlast)) ?_
    have := spec_l1 (A := A) (B := B) g hl s hsm (goF (leapsM W H L A B) (m + 1) s, true) (leapsM W H L A B (lastOf s)) [] (fun d hd => leapsM_has hd) (by simpa using leapsM_length g A B (lastOf s)) (-1) 0 ?_
    · simpa using this
    · rw [goF]
      have h6 : s.length < 17592186044416 := by omega
      by_cases c : (bestF (leapsM W H L A B) s (leapsM W H L A B (lastOf s)) (-1) 0).1 < 0
      · simp only [c, if_true]; exact Ev.now _
      · simp only [c, if_false, h6, if_true]
        rcases bestF_from (leapsM W H L A B) s (leapsM W H L A B (lastOf s)) (-1) 0 with h | ⟨h, h3⟩
        · rw [h] at c; omega
        · exact ih _ (p.add (leapsM_has h) h3) (by simp; omega)
theorem impl_l2 (g : BoardM W H L) (s : List Int) (hs : s.length ≤ 64) (b f d : Int) (xs : List Int) (xn i : Nat) (hi : i ≤ 64) (R : List Int) (rest pre : List Int) (hp : (pre ++ rest).length ≤ 64) : ∀ n : Nat, n ≤ pre.length →
    Ev (fun k => if b < 0 then impl_graph_onward.l1 k s d ((n + freeN s rest : Nat) : Int) xs (xn : Int) ((i + 1 : Nat) : Int) W H L A B (cellsM W H L) (nearM W H L A B) else if ((n + freeN s rest : Nat) : Int) < f then impl_graph_onward.l1 k s d ((n + freeN s rest : Nat) : Int) xs (xn : Int) ((i + 1 : Nat) : Int) W H L A B (cellsM W H L) (nearM W H L A B) else impl_graph_onward.l1 k s b f xs (xn : Int) ((i + 1 : Nat) : Int) W H L A B (cellsM W H L) (nearM W H L A B)) R →
    Ev (fun k => impl_graph_onward.l2 k s b f d (n : Int) xs (xn : Int) (i : Int) (pre ++ rest) ((pre ++ rest).length : Int) (pre.length : Int) W H L A B (cellsM W H L) (nearM W H L A B)) R := by
  induction rest generalizing pre with
  | nil =>
    intro n hn hR
    refine Ev.step (fun k => by rw [impl_graph_onward.l2]) ?_
    simp only [freeN, List.filter_nil, List.length_nil, Nat.add_zero] at hR
    simp only [List.append_nil, nlt_end, if_false, w_succ (show i ≤ 4611686018427387904 by omega)]
    exact hR
  | cons e r ih =>
    intro n hn hR
    refine Ev.step (fun k => by rw [impl_graph_onward.l2]) ?_
    have h0 : (0 : Int) ≤ (pre.length : Int) := by omega
    have h5 : pre.length ≤ 64 := by simp at hp; omega
    simp only [lt_mid pre e r, h0, if_true, rd_mid, w_succ (show pre.length ≤ 4611686018427387904 by omega), w_succ (show n ≤ 4611686018427387904 by omega)]
    refine Ev.bind (contains_ev s e (by omega)) ?_
    rcases Bool.eq_false_or_eq_true (s.contains e) with hx | hx
    · have e1 : freeN s (e :: r) = freeN s r := by simp only [freeN, List.filter_cons, hx, Bool.not_true, Bool.false_eq_true, if_false]
      rw [e1] at hR
      simp only [hx, if_true]
      have := ih (pre ++ [e]) (by simpa using hp) n (by simp; omega) hR
      simpa using this
    · have e1 : freeN s (e :: r) = freeN s r + 1 := by simp only [freeN, List.filter_cons, hx, Bool.not_false, if_true, List.length_cons]
      rw [e1, show n + (freeN s r + 1) = n + 1 + freeN s r by omega] at hR
      simp only [hx, Bool.false_eq_true, if_false]
      have := ih (pre ++ [e]) (by simpa using hp) (n + 1) (by simp; omega) hR
      simpa using this
theorem impl_l1 (g : BoardM W H L) (s : List Int) (hs : s.length ≤ 64) (R : List Int) (rest pre : List Int) (hr : ∀ d ∈ rest, hasB W H L d = true) (hp : (pre ++ rest).length ≤ 64) : ∀ b f : Int,
    Ev (fun k => if (bestF (leapsM W H L A B) s rest b f).1 < 0 then some s else if s.length < 17592186044416 then impl_graph_onward.l0 k (s ++ [(bestF (leapsM W H L A B) s rest b f).1]) W H L A B (cellsM W H L) (nearM W H L A B) else none) R →
    Ev (fun k => impl_graph_onward.l1 k s b f (pre ++ rest) ((pre ++ rest).length : Int) (pre.length : Int) W H L A B (cellsM W H L) (nearM W H L A B)) R := by
  induction rest generalizing pre with
  | nil =>
    intro b f hR
    refine Ev.step (fun k => by rw [impl_graph_onward.l1]) ?_
    simp only [List.append_nil, nlt_end, if_false]
    exact hR
  | cons d r ih =>
    intro b f hR
    refine Ev.step (fun k => by rw [impl_graph_onward.l1]) ?_
    have h0 : (0 : Int) ≤ (pre.length : Int) := by omega
    have h5 : pre.length ≤ 64 := by simp at hp; omega
    have hd := hr d (by simp)
    have hn := near_in (A := A) (B := B) g hd
    have next : ∀ b' f' : Int, Ev (fun k => if (bestF (leapsM W H L A B) s r b' f').1 < 0 then some s else if s.length < 17592186044416 then impl_graph_onward.l0 k (s ++ [(bestF (leapsM W H L A B) s r b' f').1]) W H L A B (cellsM W H L) (nearM W H L A B) else none) R →
        Ev (fun k => impl_graph_onward.l1 k s b' f' (pre ++ d :: r) ((pre ++ d :: r).length : Int) ((pre.length + 1 : Nat) : Int) W H L A B (cellsM W H L) (nearM W H L A B)) R := by
      intro b' f' h
      have := ih (pre ++ [d]) (fun x hx => hr x (by simp [hx])) (by simpa using hp) b' f' h
      simpa using this
    rw [bestF] at hR
    simp only [lt_mid pre d r, h0, if_true, rd_mid, w_succ (show pre.length ≤ 4611686018427387904 by omega)]
    refine Ev.bind (contains_ev s d (by omega)) ?_
    rcases Bool.eq_false_or_eq_true (s.contains d) with hx | hx
    · simp only [hx, if_true] at hR ⊢
      exact next b f hR
    · simp only [hx, Bool.false_eq_true, if_false] at hR ⊢
      simp only [hn.1, hn.2, if_true, near_at hd]
      have := impl_l2 (A := A) (B := B) g s hs b f d (pre ++ d :: r) (pre ++ d :: r).length pre.length (by omega) R (leapsM W H L A B d) [] (by simpa using leapsM_length g A B d) 0 (by simp) ?_
      · simpa using this
      · simp only [Nat.zero_add]
        by_cases c1 : b < 0
        · simp only [c1, if_true] at hR ⊢
          exact next _ _ hR
        · simp only [c1, if_false] at hR ⊢
          by_cases c2 : ((freeN s (leapsM W H L A B d) : Nat) : Int) < f
          · simp only [c2, if_true] at hR ⊢
            exact next _ _ hR
          · simp only [c2, if_false] at hR ⊢
            exact next _ _ hR
theorem impl_l0 (g : BoardM W H L) : ∀ (m : Nat) (s : List Int), PathI W H L s → 65 ≤ m + s.length → Ev (fun k => impl_graph_onward.l0 k s W H L A B (cellsM W H L) (nearM W H L A B)) (goF (leapsM W H L A B) m s) := by
  intro m
  induction m with
  | zero => intro s p hm; have := p.small g; omega
  | succ m ih =>
    intro s p hm
    have hsm := p.small g
    have hpos := p.pos
    have hlast := p.last
    refine Ev.step (fun k => by rw [impl_graph_onward.l0]) ?_
    have w : wrap64 ((s.length : Int) - 1) = ((s.length - 1 : Nat) : Int) := by rw [wrap64_in _ (by omega)]; omega
    have h1 : (0 : Int) ≤ ((s.length - 1 : Nat) : Int) := by omega
    have h2 : ((s.length - 1 : Nat) : Int) < (s.length : Int) := by omega
    have hn := near_in (A := A) (B := B) g hlast
    have hnear := near_at (A := A) (B := B) hlast
    unfold lastOf at hn hnear
    simp only [w, h1, h2, hn.1, hn.2, if_true, hnear]
    have := impl_l1 (A := A) (B := B) g s hsm (goF (leapsM W H L A B) (m + 1) s) (leapsM W H L A B (lastOf s)) [] (fun d hd => leapsM_has hd) (by simpa using leapsM_length g A B (lastOf s)) (-1) 0 ?_
    · simpa [lastOf] using this
    · rw [goF]
      have h6 : s.length < 17592186044416 := by omega
      by_cases c : (bestF (leapsM W H L A B) s (leapsM W H L A B (lastOf s)) (-1) 0).1 < 0
      · simp only [c, if_true]; exact Ev.now _
      · simp only [c, if_false, h6, if_true]
        rcases bestF_from (leapsM W H L A B) s (leapsM W H L A B (lastOf s)) (-1) 0 with h | ⟨h, h3⟩
        · rw [h] at c; omega
        · exact ih _ (p.add (leapsM_has h) h3) (by simp; omega)
theorem goF_small (g : BoardM W H L) : ∀ (m : Nat) (s : List Int), PathI W H L s → (goF (leapsM W H L A B) m s).length ≤ 64 := by
  intro m
  induction m with
  | zero => intro s p; exact p.small g
  | succ m ih =>
    intro s p
    rw [goF]
    split
    · exact p.small g
    · rename_i c
      rcases bestF_from (leapsM W H L A B) s (leapsM W H L A B (lastOf s)) (-1) 0 with h | ⟨h, h3⟩
      · rw [h] at c; omega
      · exact ih _ (p.add (leapsM_has h) h3)
end
theorem fewestOnward_both (W H : Int) (L : List Int) (A B x : Int) (hl : L.length ≤ 1048576) : ∃ (r : List Int) (b : Bool), r.length ≤ 1048576 ∧ Ev (fun k => spec_FewestOnward.f k W H L A B x) (r, b) ∧ Ev (fun k => impl_FewestOnward.f k W H L A B x) (r, b) := by
  have noS : Ev (fun k => spec_FewestOnward.j0 k x true W H L A B) (([] : List Int), false) := by
    refine Ev.step (fun k => by rw [spec_FewestOnward.j0]) ?_
    simp only [if_true]
    exact Ev.now _
  by_cases t : AskM W H L A B x x
  · have g := t.1.1
    have p1 : ∀ y ∈ [x], hasB W H L y = true := fun y hy => by
      rw [List.mem_singleton.1 hy]; exact t.2.1
    have p2 : ∀ y, [x].count y ≤ 1 := fun y => by
      have := List.count_le_length (a := y) (l := [x])
      simpa using this
    have p : PathI W H L [x] := ⟨p1, p2, by simp⟩
    refine ⟨goF (leapsM W H L A B) 64 [x], true, by have := goF_small (A := A) (B := B) g 64 [x] p; omega, ?_, ?_⟩
    · unfold spec_FewestOnward.f
      refine Ev.bind (two_yes t.1 hl) ?_
      simp only [if_true]
      refine Ev.bind (boHas_ev g x hl) ?_
      simp only [t.2.1, Bool.not_true]
      refine Ev.step (fun k => by rw [spec_FewestOnward.j0]) ?_
      simp only [Bool.false_eq_true, if_false]
      exact spec_l0 g hl 64 [x] p (by simp)
    · unfold impl_FewestOnward.f
      refine Ev.bind (implTwo_yes t hl) ?_
      simp only [if_true]
      refine Ev.bind (a := goF (leapsM W H L A B) 64 [x]) ?_ (Ev.now _)
      unfold impl_graph_onward.f
      exact impl_l0 g 64 [x] p (by simp)
  · refine ⟨[], false, by simp, ?_, ?_⟩
    · unfold spec_FewestOnward.f
      by_cases t2 : Two W H L A B
      · refine Ev.bind (two_yes t2 hl) ?_
        simp only [if_true]
        refine Ev.bind (boHas_ev t2.1 x hl) ?_
        have hx : hasB W H L x = false := by
          rcases Bool.eq_false_or_eq_true (hasB W H L x) with h | h
          · exact absurd ⟨t2, h, h⟩ t
          · exact h
        simp only [hx, Bool.not_false]
        exact noS
      · refine Ev.bind (two_no t2 hl) ?_
        simp only [Bool.false_eq_true, if_false]
        exact noS
    · unfold impl_FewestOnward.f
      refine Ev.bind (implTwo_no t hl) ?_
      simp only [Bool.false_eq_true, if_false]
      exact Ev.now _
theorem FnExactFewestOnward : FnExactFewestOnwardSaid := by
  intro a0_0 a0_1 l0_2 a1_0 a1_1 a2 _ _ hlen_l0_2 _ _ _ _
  by_cases hb_l0_2 : 1048576 < l0_2.length
  · refine ⟨0, ?_⟩
    simp [laws_FnExactFewestOnward.f, szBoard_big a0_0 a0_1 l0_2 hb_l0_2 hlen_l0_2]
  have hs_l0_2 : l0_2.length ≤ 1048576 := by omega
  obtain ⟨r, b, hr, hs, hi⟩ := fewestOnward_both a0_0 a0_1 l0_2 a1_0 a1_1 a2 hs_l0_2
  refine rounds_of ?_
  have n0 : ¬ (1048576 - (l0_2.length : Int) < 0) := by omega
  have n1 : ¬ (1 + (l0_2.length : Int) < 0) := by omega
  have nr : ¬ (1 + (r.length : Int) < 0) := by omega
  unfold laws_FnExactFewestOnward.f
  repeat (first
    | exact Ev.now _
    | refine Ev.bind (toBoard_ev _ _ _ (by assumption)) ?_
    | refine Ev.bind (eqBoard_ev _ _ _ (by assumption)) ?_
    | refine Ev.bind (markBoard_ev _ _ _ (by assumption)) ?_
    | refine Ev.bind (toIntS_ev _ (by assumption)) ?_
    | refine Ev.bind (eqIntS_ev _ (by assumption)) ?_
    | refine Ev.bind (markIntS_ev _ (by assumption)) ?_
    | refine Ev.bind (heldIntS_ev _ (by assumption)) ?_
    | refine Ev.bind (markIntS_any _ _ (by assumption) (by omega)) ?_
    | refine Ev.bind hs ?_
    | refine Ev.bind hi ?_
    | simp only [Option.bind_some, if_true, if_false, bne_self_eq_false, Bool.false_eq_true, ne_eq, not_true_eq_false, not_false_eq_true, szBoard_fit _ _ _ hs_l0_2, laws_toLeaper.f, n0, n1, nr]
    | (refine Ev.step (fun k => by rw [laws_FnExactFewestOnward.j0]) ?_)
    | (refine Ev.step (fun k => by rw [laws_FnExactFewestOnward.j1]) ?_)
    | (refine Ev.step (fun k => by rw [laws_FnExactFewestOnward.j2]) ?_))
end Go.Proofs.Ytjeongckkfkehaa.Pure

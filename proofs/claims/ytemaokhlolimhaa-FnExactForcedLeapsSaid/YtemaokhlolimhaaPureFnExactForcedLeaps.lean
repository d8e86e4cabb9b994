/- ForcedLeaps: the program and the reference list the same leaps in the same order, so the law's function answers true for all arguments. -/
import Derived.Test.YtemaokhlolimhaaStateFnExactForcedLeaps
import Derived.Test.YtemaokhlolimhaaHPairsI
import Derived.Test.YtemaokhlolimhaaHRows
import Derived.Test.YtemaokhlolimhaaHForced
import Derived.Test.YtemaokhlolimhaaQ2
import Derived.Test.YtemaokhlolimhaaQ8
namespace Go.Proofs.Ytemaokhlolimhaa.Pure
open Go.RowKit Go.IntWalk Go.Proofs.Ytemaokhlolimhaa.Q Go.Proofs.Ytemaokhlolimhaa.H Go.Proofs.YtemaokhlolimhaaW.PrintWords Go.Proofs.YtemaokhlolimhaaW.PrintMore
set_option linter.unusedVariables false
set_option linter.unusedSimpArgs false
/-- A leap is forced: an end has two leaps. -/
def fb (W H : Int) (L : List Int) (A B : Int) (p : List Int) : Bool := decide ((leapsM W H L A B (rd p 0)).length = 2) || decide ((leapsM W H L A B (rd p 1)).length = 2)
section
variable {W H : Int} {L : List Int} {A B : Int}
theorem forced_l1 (g : BoardM W H L) (hl : L.length ≤ 1048576) (cs : List Int) (c : Int) (hc : 0 ≤ c ∧ c < W * H) (i : Nat) (hi : i ≤ 64) (R : List (List Int) × Bool) (rest pre : List Int) (hr : ∀ d ∈ rest, 0 ≤ d ∧ d < W * H) (hp : (pre ++ rest).length ≤ 64) : ∀ acc : List (List Int), acc.length ≤ 100000 + pre.length →
    Ev (fun k => spec_ForcedLeaps.l0 k (acc ++ (pairRow c rest).filter (fb W H L A B)) cs (cs.length : Int) ((i + 1 : Nat) : Int) W H L A B) R →
    Ev (fun k => spec_ForcedLeaps.l1 k acc c cs (cs.length : Int) (i : Int) (pre ++ rest) ((pre ++ rest).length : Int) (pre.length : Int) W H L A B) R := by
  induction rest generalizing pre with
  | nil =>
    intro acc ha hR
    refine Ev.step (fun k => by rw [spec_ForcedLeaps.l1]) ?_
    simp only [List.append_nil, nlt_end, if_false, w_succ (show i ≤ 4611686018427387904 by omega)]
    simpa [pairRow] using hR
  | cons d r ih =>
    intro acc ha hR
    refine Ev.step (fun k => by rw [spec_ForcedLeaps.l1]) ?_
    have h0 : (0 : Int) ≤ (pre.length : Int) := by omega
    have h5 : pre.length ≤ 64 := by simp at hp; omega
    have h6 : acc.length < 5864062014805 := by omega
    have hd := hr d (by simp)
    have next := fun acc' h1 h2 => ih (pre ++ [d]) (fun x hx => hr x (by simp [hx])) (by simpa using hp) acc' h1 h2
    simp only [lt_mid pre d r, h0, if_true, rd_mid, w_succ (show pre.length ≤ 4611686018427387904 by omega)]
    by_cases c1 : c < d
    · have e0 : rd [c, d] 0 = c := rfl
      have e1 : rd [c, d] 1 = d := rfl
      simp only [c1, if_true]
      refine Ev.bind (boLeaps_ev g hl A B c hc) ?_
      by_cases c2 : (leapsM W H L A B c).length = 2
      · have c2' : ((leapsM W H L A B c).length : Int) = 2 := by omega
        have hf : fb W H L A B [c, d] = true := by unfold fb; rw [e0, e1]; simp [c2]
        simp only [c2', h6, if_true]
        have := next (acc ++ [[c, d]]) (by simp; omega) (by simpa [pairRow, c1, hf] using hR)
        simpa using this
      · have c2' : ¬ ((leapsM W H L A B c).length : Int) = 2 := by omega
        simp only [c2', if_false]
        refine Ev.bind (boLeaps_ev g hl A B d hd) ?_
        by_cases c3 : (leapsM W H L A B d).length = 2
        · have c3' : ((leapsM W H L A B d).length : Int) = 2 := by omega
          have hf : fb W H L A B [c, d] = true := by unfold fb; rw [e0, e1]; simp [c3]
          simp only [c3', h6, if_true]
          have := next (acc ++ [[c, d]]) (by simp; omega) (by simpa [pairRow, c1, hf] using hR)
          simpa using this
        · have c3' : ¬ ((leapsM W H L A B d).length : Int) = 2 := by omega
          have hf : fb W H L A B [c, d] = false := by unfold fb; rw [e0, e1]; simp [c2, c3]
          simp only [c3', if_false]
          have := next acc (by simp; omega) (by simpa [pairRow, c1, hf] using hR)
          simpa using this
    · simp only [c1, if_false]
      have := next acc (by simp; omega) (by simpa [pairRow, c1] using hR)
      simpa using this
theorem forced_l0 (g : BoardM W H L) (hl : L.length ≤ 1048576) (rest pre : List Int) (hr : ∀ c ∈ rest, hasB W H L c = true) (hp : (pre ++ rest).length ≤ 64) : ∀ acc : List (List Int), acc.length ≤ 64 * pre.length →
    Ev (fun k => spec_ForcedLeaps.l0 k acc (pre ++ rest) ((pre ++ rest).length : Int) (pre.length : Int) W H L A B) (acc ++ (pairsM W H L A B rest).filter (fb W H L A B), true) := by
  induction rest generalizing pre with
  | nil =>
    intro acc ha
    refine Ev.step (fun k => by rw [spec_ForcedLeaps.l0]) ?_
    simp only [List.append_nil, nlt_end, if_false, pairsM, List.flatMap_nil, List.filter_nil]
    exact Ev.now _
  | cons c r ih =>
    intro acc ha
    refine Ev.step (fun k => by rw [spec_ForcedLeaps.l0]) ?_
    have h0 : (0 : Int) ≤ (pre.length : Int) := by omega
    have h5 : pre.length ≤ 64 := by simp at hp; omega
    have hc := has_range (hr c (by simp))
    simp only [lt_mid pre c r, h0, if_true, rd_mid]
    refine Ev.bind (boLeaps_ev g hl A B c hc) ?_
    have hlen := leapsM_length g A B c
    have hpl : ((pairRow c (leapsM W H L A B c)).filter (fb W H L A B)).length ≤ 64 := Nat.le_trans (List.length_filter_le _ _) (Nat.le_trans (pairRow_length c _) hlen)
    have := ih (pre ++ [c]) (fun x hx => hr x (by simp [hx])) (by simpa using hp) (acc ++ (pairRow c (leapsM W H L A B c)).filter (fb W H L A B)) (by simp at hpl ⊢; omega)
    have := forced_l1 g hl (pre ++ c :: r) c hc pre.length h5 (acc ++ (pairsM W H L A B (c :: r)).filter (fb W H L A B), true) (leapsM W H L A B c) [] (fun d hd => has_range (leapsM_has hd)) (by simpa using hlen) acc (by omega) (by simpa [pairsM] using this)
    simpa using this
theorem spec_forced (g : BoardM W H L) (t : Two W H L A B) (hl : L.length ≤ 1048576) : Ev (fun k => spec_ForcedLeaps.f k W H L A B) ((pairsM W H L A B (cellsM W H L)).filter (fb W H L A B), true) := by
  unfold spec_ForcedLeaps.f
  refine Ev.bind (two_yes t hl) ?_
  simp only [if_true]
  refine Ev.bind (boCells_ev g hl) ?_
  have := forced_l0 (A := A) (B := B) g hl (cellsM W H L) [] (fun c hc => mem_cellsM.1 hc) (by simpa using cellsM_length g) [] (by simp)
  simpa using this
theorem impl_l0 (g : BoardM W H L) (rest pre : List (List Int)) (hr : ∀ p ∈ rest, ∃ c d : Int, p = [c, d] ∧ hasB W H L c = true ∧ hasB W H L d = true) (hp : (pre ++ rest).length ≤ 4096) : ∀ acc : List (List Int), acc.length ≤ pre.length →
    Ev (fun k => impl_ForcedLeaps.l0 k acc (pre ++ rest) ((pre ++ rest).length : Int) (pre.length : Int) W H L A B (cellsM W H L) (nearM W H L A B)) (acc ++ rest.filter (fb W H L A B), true) := by
  induction rest generalizing pre with
  | nil =>
    intro acc ha
    refine Ev.step (fun k => by rw [impl_ForcedLeaps.l0]) ?_
    simp only [List.append_nil, nlt_end, if_false, List.filter_nil]
    exact Ev.now _
  | cons p r ih =>
    intro acc ha
    obtain ⟨c, d, rfl, hc, hd⟩ := hr p (by simp)
    refine Ev.step (fun k => by rw [impl_ForcedLeaps.l0]) ?_
    have h0 : (0 : Int) ≤ (pre.length : Int) := by omega
    have h5 : pre.length ≤ 4096 := by simp at hp; omega
    have h6 : acc.length < 5864062014805 := by omega
    have n1 := near_in (A := A) (B := B) g hc
    have n2 := near_in (A := A) (B := B) g hd
    have e0 : rd [c, d] 0 = c := rfl
    have e1 : rd [c, d] 1 = d := rfl
    have e2 : (0 : Int) < ((([c, d] : List Int).length : Nat) : Int) := by show (0 : Int) < 2; omega
    have e3 : (1 : Int) < ((([c, d] : List Int).length : Nat) : Int) := by show (1 : Int) < 2; omega
    have next := fun acc' h1 => ih (pre ++ [[c, d]]) (fun x hx => hr x (by simp [hx])) (by simpa using hp) acc' h1
    simp only [lt_mid pre [c, d] r, h0, if_true, row_at, e0, e1, e2, e3, n1.1, n1.2, n2.1, n2.2, near_at hc, near_at hd, w_succ (show pre.length ≤ 4611686018427387904 by omega)]
    by_cases c2 : (leapsM W H L A B c).length = 2
    · have c2' : ((leapsM W H L A B c).length : Int) = 2 := by omega
      have hf : fb W H L A B [c, d] = true := by unfold fb; rw [e0, e1]; simp [c2]
      simp only [c2', h6, if_true]
      have := next (acc ++ [[c, d]]) (by simp; omega)
      simpa [hf] using this
    · have c2' : ¬ ((leapsM W H L A B c).length : Int) = 2 := by omega
      simp only [c2', if_false]
      by_cases c3 : (leapsM W H L A B d).length = 2
      · have c3' : ((leapsM W H L A B d).length : Int) = 2 := by omega
        have hf : fb W H L A B [c, d] = true := by unfold fb; rw [e0, e1]; simp [c3]
        simp only [c3', h6, if_true]
        have := next (acc ++ [[c, d]]) (by simp; omega)
        simpa [hf] using this
      · have c3' : ¬ ((leapsM W H L A B d).length : Int) = 2 := by omega
        have hf : fb W H L A B [c, d] = false := by unfold fb; rw [e0, e1]; simp [c2, c3]
        simp only [c3', if_false]
        have := next acc (by simp; omega)
        simpa [hf] using this
theorem impl_forced (t : Two W H L A B) (hl : L.length ≤ 1048576) : Ev (fun k => impl_ForcedLeaps.f k W H L A B) ((pairsM W H L A B (cellsM W H L)).filter (fb W H L A B), true) := by
  have g := t.1
  unfold impl_ForcedLeaps.f
  refine Ev.bind (graphOf_two t hl) ?_
  simp only [if_true]
  refine Ev.bind (pairs_ev g) ?_
  have := impl_l0 (A := A) (B := B) g (pairsM W H L A B (cellsM W H L)) [] (fun p hp => by obtain ⟨c, d, h1, h2, h3, _⟩ := (mem_pairsM p).1 hp; exact ⟨c, d, h1, h2, h3⟩) (by simpa using pairsM_length g) [] (by simp)
  simpa using this
end
theorem forcedLeaps_both (W H : Int) (L : List Int) (A B : Int) (hl : L.length ≤ 1048576) : ∃ (r : List (List Int)) (b : Bool), Small r ∧ Ev (fun k => spec_ForcedLeaps.f k W H L A B) (r, b) ∧ Ev (fun k => impl_ForcedLeaps.f k W H L A B) (r, b) := by
  by_cases t : Two W H L A B
  · have g := t.1
    refine ⟨(pairsM W H L A B (cellsM W H L)).filter (fb W H L A B), true, ⟨?_, fun x hx => ?_⟩, spec_forced g t hl, impl_forced t hl⟩
    · exact Nat.le_trans (List.length_filter_le _ _) (pairsM_length g)
    · obtain ⟨c, d, h1, _⟩ := (mem_pairsM x).1 (List.mem_filter.1 hx).1
      rw [h1]
      show 2 ≤ 64
      omega
  · refine ⟨[], false, ⟨by simp, by simp⟩, ?_, ?_⟩
    · unfold spec_ForcedLeaps.f
      refine Ev.bind (two_no t hl) ?_
      simp only [Bool.false_eq_true, if_false]
      exact Ev.now _
    · unfold impl_ForcedLeaps.f
      refine Ev.bind (graphOf_not t hl) ?_
      simp only [Bool.false_eq_true, if_false]
      exact Ev.now _
theorem FnExactForcedLeaps : FnExactForcedLeapsSaid := by
  intro a0_0 a0_1 l0_2 a1_0 a1_1 _ _ hlen_l0_2 _ _ _
  by_cases hb_l0_2 : 1048576 < l0_2.length
  · refine ⟨0, ?_⟩
    simp [laws_FnExactForcedLeaps.f, szBoard_big a0_0 a0_1 l0_2 hb_l0_2 hlen_l0_2]
  have hs_l0_2 : l0_2.length ≤ 1048576 := by omega
  obtain ⟨r, b, hr, hs, hi⟩ := forcedLeaps_both a0_0 a0_1 l0_2 a1_0 a1_1 hs_l0_2
  refine rounds_of ?_
  have n0 : ¬ (1048576 - (l0_2.length : Int) < 0) := by omega
  have n1 : ¬ (1 + (l0_2.length : Int) < 0) := by omega
  have n2 : ¬ ((markLL r 1).1 < 0) := by
    have h1 := hr.1
    have := (markLL_small r 1 (by omega) (by omega) hr.2).1
    omega
  unfold laws_FnExactForcedLeaps.f
  repeat (first
    | exact Ev.now _
    | refine Ev.bind (toBoard_ev _ _ _ (by assumption)) ?_
    | refine Ev.bind (eqBoard_ev _ _ _ (by assumption)) ?_
    | refine Ev.bind (markBoard_ev _ _ _ (by assumption)) ?_
    | refine Ev.bind (eqSS_ev _ (by assumption)) ?_
    | refine Ev.bind (held_ev _ (by assumption)) ?_
    | refine Ev.bind hs ?_
    | refine Ev.bind hi ?_
    | simp only [Option.bind_some, if_true, if_false, bne_self_eq_false, Bool.false_eq_true, ne_eq, not_true_eq_false, not_false_eq_true, szBoard_fit _ _ _ hs_l0_2, laws_toLeaper.f, mark_some r hr, n0, n1, n2]
    | (refine Ev.step (fun k => by rw [laws_FnExactForcedLeaps.j0]) ?_)
    | (refine Ev.step (fun k => by rw [laws_FnExactForcedLeaps.j1]) ?_)
    | (refine Ev.step (fun k => by rw [laws_FnExactForcedLeaps.j2]) ?_))
end Go.Proofs.Ytemaokhlolimhaa.Pure

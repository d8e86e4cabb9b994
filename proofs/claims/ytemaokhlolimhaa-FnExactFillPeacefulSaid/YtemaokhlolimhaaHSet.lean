/- Sets of cells in increasing order: the reference's test and the program's are the same. -/
import Derived.Test.YtemaokhlolimhaaHGraph
import Derived.Test.YtemaokhlolimhaaQ3
import Derived.Test.YtemaokhlolimhaaQ8
namespace Go.Proofs.Ytemaokhlolimhaa.H
open Go.RowKit Go.IntWalk Go.Proofs.Ytemaokhlolimhaa.Q Go.Proofs.YtemaokhlolimhaaW.PrintWords Go.Proofs.YtemaokhlolimhaaW.PrintMore
set_option linter.unusedVariables false
set_option linter.unusedSimpArgs false
def SetM (W H : Int) (L s : List Int) : Prop := (∀ x ∈ s, hasB W H L x = true) ∧ s.Pairwise (· < ·)
def SetFrom (W H : Int) (L s : List Int) (i : Nat) : Prop := ∀ j, i ≤ j → ∀ h : j < s.length, hasB W H L s[j] = true ∧ (1 ≤ j → s[j - 1] < s[j])
theorem setFrom_zero (W H : Int) (L s : List Int) : SetFrom W H L s 0 ↔ SetM W H L s := by
  constructor
  · intro h
    refine ⟨?_, (pairwise_iff s).2 fun j hj hl => (h j (by omega) hl).2 hj⟩
    intro x hx
    obtain ⟨j, hj, rfl⟩ := List.getElem_of_mem hx
    exact (h j (by omega) hj).1
  · rintro ⟨h, p⟩ j _ hj
    exact ⟨h _ (List.getElem_mem hj), fun h1 => (pairwise_iff s).1 p j h1 hj⟩
theorem setFrom_end {W H : Int} {L s : List Int} {i : Nat} (h : s.length ≤ i) : SetFrom W H L s i := fun j hj hl => by omega
theorem setFrom_step {W H : Int} {L s : List Int} {i : Nat} (hi : i < s.length) (h : hasB W H L s[i] = true ∧ (1 ≤ i → s[i - 1] < s[i])) : SetFrom W H L s i = SetFrom W H L s (i + 1) := by
  rw [eq_iff_iff]
  constructor
  · intro h j hj; exact h j (by omega)
  · intro h' j hj hjl
    rcases Nat.lt_or_ge i j with h9 | h9
    · exact h' j (by omega) hjl
    · obtain rfl : j = i := by omega
      exact h
theorem setM_small {W H : Int} {L s : List Int} (g : BoardM W H L) (h : SetM W H L s) : s.length ≤ 64 := by
  have key : ∀ j, ∀ hj : j < s.length, (j : Int) ≤ s[j] := by
    intro j
    induction j with
    | zero => intro hj; exact (has_range (h.1 _ (List.getElem_mem hj))).1
    | succ j ih =>
      intro hj
      have h1 := ih (by omega)
      have h2 := (pairwise_iff s).1 h.2 (j + 1) (by omega) hj
      simp at h2
      omega
  rcases Nat.eq_zero_or_pos s.length with h0 | h0
  · omega
  · have h1 := key (s.length - 1) (by omega)
    have h2 := (has_range (h.1 _ (List.getElem_mem (show s.length - 1 < s.length by omega)))).2
    have := g.area
    omega
open Classical in
theorem guSet_loop {W H : Int} {L : List Int} (g : BoardM W H L) (hl : L.length ≤ 1048576) (s : List Int) (hs : s.length ≤ 4611686018427387904) : ∀ (n i : Nat), n + i = s.length → Ev (fun k => spec_guSet.l0 k s s (s.length : Int) (i : Int) W H L) (decide (SetFrom W H L s i)) := by
  intro n
  induction n with
  | zero =>
    intro i h1
    refine Ev.step (fun k => by rw [spec_guSet.l0]) ?_
    have h3 : ¬ ((i : Int) < (s.length : Int)) := by omega
    have h4 : SetFrom W H L s i := setFrom_end (by omega)
    simp only [h3, if_false, h4, decide_true]
    exact Ev.now _
  | succ n ih =>
    intro i h1
    refine Ev.step (fun k => by rw [spec_guSet.l0]) ?_
    have h3 : (i : Int) < (s.length : Int) := by omega
    have hi : i < s.length := by omega
    have h7 : (0 : Int) ≤ (i : Int) := by omega
    simp only [h3, h7, if_true, rd_nat s i hi, w_succ (show i ≤ 4611686018427387904 by omega)]
    refine Ev.bind (boHas_ev g s[i] hl) ?_
    cases hh : hasB W H L s[i] with
    | false =>
      have : ¬ SetFrom W H L s i := fun h => by have := (h i (by omega) hi).1; rw [hh] at this; cases this
      simp only [Bool.false_eq_true, if_false, this, decide_false]
      exact Ev.now _
    | true =>
      simp only [if_true]
      by_cases c3 : (i : Int) > 0
      · have h4 : wrap64 ((i : Int) - 1) = ((i - 1 : Nat) : Int) := by rw [wrap64_in _ (by omega)]; omega
        have h5 : (0 : Int) ≤ ((i - 1 : Nat) : Int) := by omega
        have h6 : ((i - 1 : Nat) : Int) < (s.length : Int) := by omega
        simp only [c3, if_true, h4, h5, h6, rd_nat s (i - 1) (by omega)]
        by_cases c4 : s[i - 1] ≥ s[i]
        · have : ¬ SetFrom W H L s i := fun h => by have := (h i (by omega) hi).2 (by omega); omega
          simp only [c4, if_true, this, decide_false]
          exact Ev.now _
        · simp only [c4, if_false, setFrom_step hi ⟨hh, fun _ => by omega⟩]
          exact ih (i + 1) (by omega)
      · simp only [c3, if_false, setFrom_step hi ⟨hh, fun h => absurd h (by omega)⟩]
        exact ih (i + 1) (by omega)
open Classical in
theorem isSet_loop {W H : Int} {L : List Int} (g : BoardM W H L) (hl : L.length ≤ 1048576) (s : List Int) (hs : s.length ≤ 4611686018427387904) : ∀ (n i : Nat), n + i = s.length → Ev (fun k => impl_Board_isSet.l0 k s s (s.length : Int) (i : Int) W H L) (decide (SetFrom W H L s i)) := by
  intro n
  induction n with
  | zero =>
    intro i h1
    refine Ev.step (fun k => by rw [impl_Board_isSet.l0]) ?_
    have h3 : ¬ ((i : Int) < (s.length : Int)) := by omega
    have h4 : SetFrom W H L s i := setFrom_end (by omega)
    simp only [h3, if_false, h4, decide_true]
    exact Ev.now _
  | succ n ih =>
    intro i h1
    refine Ev.step (fun k => by rw [impl_Board_isSet.l0]) ?_
    have h3 : (i : Int) < (s.length : Int) := by omega
    have hi : i < s.length := by omega
    have h7 : (0 : Int) ≤ (i : Int) := by omega
    simp only [h3, h7, if_true, rd_nat s i hi, w_succ (show i ≤ 4611686018427387904 by omega)]
    refine Ev.bind (has_ev g s[i] hl) ?_
    cases hh : hasB W H L s[i] with
    | false =>
      have : ¬ SetFrom W H L s i := fun h => by have := (h i (by omega) hi).1; rw [hh] at this; cases this
      simp only [Bool.false_eq_true, if_false, this, decide_false]
      exact Ev.now _
    | true =>
      simp only [if_true]
      by_cases c3 : (i : Int) > 0
      · have h4 : wrap64 ((i : Int) - 1) = ((i - 1 : Nat) : Int) := by rw [wrap64_in _ (by omega)]; omega
        have h5 : (0 : Int) ≤ ((i - 1 : Nat) : Int) := by omega
        have h6 : ((i - 1 : Nat) : Int) < (s.length : Int) := by omega
        simp only [c3, if_true, h4, h5, h6, rd_nat s (i - 1) (by omega)]
        by_cases c4 : s[i - 1] ≥ s[i]
        · have : ¬ SetFrom W H L s i := fun h => by have := (h i (by omega) hi).2 (by omega); omega
          simp only [c4, if_true, this, decide_false]
          exact Ev.now _
        · simp only [c4, if_false, setFrom_step hi ⟨hh, fun _ => by omega⟩]
          exact ih (i + 1) (by omega)
      · simp only [c3, if_false, setFrom_step hi ⟨hh, fun h => absurd h (by omega)⟩]
        exact ih (i + 1) (by omega)
open Classical in
theorem guSet_ev {W H : Int} {L : List Int} (g : BoardM W H L) (hl : L.length ≤ 1048576) (s : List Int) (hs : s.length ≤ 1048576) : Ev (fun k => spec_guSet.f k W H L s) (decide (SetM W H L s)) := by
  unfold spec_guSet.f
  by_cases h : (s.length : Int) > 64
  · have : ¬ SetM W H L s := fun h' => by have := setM_small g h'; omega
    simp only [h, if_true, this, decide_false]
    exact Ev.now _
  · simp only [h, if_false]
    have := guSet_loop g hl s (by omega) s.length 0 rfl
    simpa [setFrom_zero] using this
open Classical in
theorem isSet_ev {W H : Int} {L : List Int} (g : BoardM W H L) (hl : L.length ≤ 1048576) (s : List Int) (hs : s.length ≤ 1048576) : Ev (fun k => impl_Board_isSet.f k W H L s) (decide (SetM W H L s)) := by
  unfold impl_Board_isSet.f
  have := isSet_loop g hl s (by omega) s.length 0 rfl
  simpa [setFrom_zero] using this
theorem guAsked_yes {W H : Int} {L : List Int} {A B : Int} (t : Two W H L A B) (hl : L.length ≤ 1048576) (s : List Int) (hs : s.length ≤ 1048576) (h : SetM W H L s) : Ev (fun k => spec_guAsked.f k W H L A B s) true := by
  unfold spec_guAsked.f
  refine Ev.bind (two_yes t hl) ?_
  simp only [if_true]
  have := guSet_ev t.1 hl s hs
  simp only [h, decide_true] at this
  exact Ev.bind this (Ev.now _)
theorem guAsked_no {W H : Int} {L : List Int} {A B : Int} (hl : L.length ≤ 1048576) (s : List Int) (hs : s.length ≤ 1048576) (h : ¬ (Two W H L A B ∧ SetM W H L s)) : Ev (fun k => spec_guAsked.f k W H L A B s) false := by
  unfold spec_guAsked.f
  by_cases t : Two W H L A B
  · have h' : ¬ SetM W H L s := fun h' => h ⟨t, h'⟩
    refine Ev.bind (two_yes t hl) ?_
    simp only [if_true]
    have := guSet_ev t.1 hl s hs
    simp only [h', decide_false] at this
    exact Ev.bind this (Ev.now _)
  · refine Ev.bind (two_no t hl) ?_
    simp only [Bool.false_eq_true, if_false]
    exact Ev.now _
theorem setGraph_yes {W H : Int} {L : List Int} {A B : Int} (t : Two W H L A B) (hl : L.length ≤ 1048576) (s : List Int) (hs : s.length ≤ 1048576) (h : SetM W H L s) : Ev (fun k => impl_setGraph.f k W H L A B s) (cellsM W H L, nearM W H L A B, true) := by
  unfold impl_setGraph.f
  refine Ev.bind (graphOf_two t hl) ?_
  simp only [if_true]
  have := isSet_ev t.1 hl s hs
  simp only [h, decide_true] at this
  refine Ev.bind this ?_
  simp only [if_true]
  exact Ev.now _
theorem setGraph_no {W H : Int} {L : List Int} {A B : Int} (hl : L.length ≤ 1048576) (s : List Int) (hs : s.length ≤ 1048576) (h : ¬ (Two W H L A B ∧ SetM W H L s)) : Ev (fun k => impl_setGraph.f k W H L A B s) (([] : List Int), ([] : List (List Int)), false) := by
  unfold impl_setGraph.f
  by_cases t : Two W H L A B
  · have h' : ¬ SetM W H L s := fun h' => h ⟨t, h'⟩
    refine Ev.bind (graphOf_two t hl) ?_
    simp only [if_true]
    have := isSet_ev t.1 hl s hs
    simp only [h', decide_false] at this
    refine Ev.bind this ?_
    simp only [Bool.false_eq_true, if_false]
    exact Ev.now _
  · refine Ev.bind (graphOf_not t hl) ?_
    simp only [Bool.false_eq_true, if_false]
    exact Ev.now _
end Go.Proofs.Ytemaokhlolimhaa.H

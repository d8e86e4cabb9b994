/- WidthOf: the program and the reference tell the same, so the law's function answers true for all arguments. -/
import Derived.Test.YtjeongckkfkehaaStateFnExactWidthOf
import Derived.Test.YtjeongckkfkehaaHParts
import Derived.Test.YtjeongckkfkehaaHMost
import Derived.Test.YtjeongckkfkehaaQ35
import Derived.Test.YtjeongckkfkehaaQ36
namespace Go.Proofs.Ytjeongckkfkehaa.Pure
open Go.RowKit Go.IntWalk Go.Proofs.Ytjeongckkfkehaa.Q Go.Proofs.Ytjeongckkfkehaa.H Go.Proofs.YtjeongckkfkehaaW.PrintWords Go.Proofs.YtjeongckkfkehaaW.PrintMore
set_option linter.unusedVariables false
set_option linter.unusedSimpArgs false
section
variable {W H : Int} {L : List Int} {A B : Int}
def farTop (W H : Int) (L : List Int) (A B c : Int) : Int := Lib.maxOf (farM W H L A B c)
theorem top_ev (g : BoardM W H L) (c : Int) (hc : hasB W H L c = true) : 0 ≤ farTop W H L A B c ∧ farTop W H L A B c ≤ 64 ∧ 0 < (farM W H L A B c).length ∧ ∃ b : Int, Ev (fun k => spec_faMost.f k (farM W H L A B c)) (b, farTop W H L A B c) := by
  have ha := g.area
  have hr := has_range hc
  have hf := farM_keep (A := A) (B := B) g hr
  obtain ⟨b, hb, h0, hE⟩ := faMost_ev (farM W H L A B c) (by rw [hf.1]; omega) ⟨c.toNat, by rw [hf.1]; omega, by
    rw [show ((c.toNat : Nat) : Int) = c by omega, farM_self g hr]; omega⟩
  have hm := most_max hb
  have h2 := (hf.2 (b : Int) (by have := hb.1; rw [hf.1] at this; omega)).2
  unfold farTop
  rw [hm]
  exact ⟨h0, h2, by have := hb.1; omega, (b : Int), hE⟩
theorem l1Most_eq (a b : Int) : spec_l1Most.f a b = some (max a b) := by
  unfold spec_l1Most.f
  split
  · congr 1; omega
  · congr 1; omega
theorem specWidth_loop (g : BoardM W H L) (hl : L.length ≤ 1048576) (rest pre : List Int) (hr : ∀ c ∈ rest, hasB W H L c = true) (hp : (pre ++ rest).length ≤ 64) : ∀ m : Int,
    Ev (fun k => spec_WidthOf.l0 k m (pre ++ rest) ((pre ++ rest).length : Int) (pre.length : Int) W H L A B) ((rest.map (farTop W H L A B)).foldl max m, true) := by
  induction rest generalizing pre with
  | nil =>
    intro m
    refine Ev.step (fun k => by rw [spec_WidthOf.l0]) ?_
    simp only [List.append_nil, nlt_end, if_false, List.map_nil, List.foldl_nil]
    exact Ev.now _
  | cons c r ih =>
    intro m
    refine Ev.step (fun k => by rw [spec_WidthOf.l0]) ?_
    have h0 : (0 : Int) ≤ (pre.length : Int) := by omega
    have h5 : pre.length ≤ 64 := by simp at hp; omega
    have hh := hr c (by simp)
    obtain ⟨_, _, _, b, hE⟩ := top_ev (A := A) (B := B) g c hh
    simp only [lt_mid pre c r, h0, if_true, rd_mid, w_succ (show pre.length ≤ 4611686018427387904 by omega)]
    refine Ev.bind (faFrom_ev g hl c (has_range hh)) ?_
    refine Ev.bind hE ?_
    simp only [l1Most_eq, Option.bind_some]
    have := ih (pre ++ [c]) (fun x hx => hr x (by simp [hx])) (by simpa using hp) (max m (farTop W H L A B c))
    simpa using this
theorem greatest_loop (g : BoardM W H L) (rest pre acc : List Int) (hr : ∀ c ∈ rest, hasB W H L c = true) (hp : (pre ++ rest).length ≤ 64) (ha : acc.length ≤ pre.length) :
    Ev (fun k => impl_greatest.l0 k acc (pre ++ rest) ((pre ++ rest).length : Int) (pre.length : Int) W H L A B (cellsM W H L) (nearM W H L A B)) (cellsM W H L, nearM W H L A B, acc ++ rest.map (farTop W H L A B), true) := by
  induction rest generalizing pre acc with
  | nil =>
    refine Ev.step (fun k => by rw [impl_greatest.l0]) ?_
    simp only [List.append_nil, nlt_end, if_false, List.map_nil]
    exact Ev.now _
  | cons c r ih =>
    refine Ev.step (fun k => by rw [impl_greatest.l0]) ?_
    have h0 : (0 : Int) ≤ (pre.length : Int) := by omega
    have h5 : pre.length ≤ 64 := by simp at hp; omega
    have h6 : acc.length < 17592186044416 := by omega
    have hh := hr c (by simp)
    obtain ⟨_, _, hpos, _⟩ := top_ev (A := A) (B := B) g c hh
    simp only [lt_mid pre c r, h0, if_true, rd_mid, w_succ (show pre.length ≤ 4611686018427387904 by omega)]
    refine Ev.bind (far_ev g c hh) ?_
    simp only [slices_Max_int_int.f, hpos, if_true, Option.bind_some, h6]
    have := ih (pre ++ [c]) (acc ++ [farTop W H L A B c]) (fun x hx => hr x (by simp [hx])) (by simpa using hp) (by simp; omega)
    simpa [farTop] using this
theorem foldl_max_zero (l : List Int) (h : 0 < l.length) (hn : ∀ x ∈ l, 0 ≤ x) : l.foldl max 0 = Lib.maxOf l := by
  obtain ⟨m1, m2⟩ := maxOf_spec l h
  obtain ⟨h1, h2, h3⟩ := foldl_max l 0
  have := h2 _ m2
  have h0 := hn _ m2
  rcases h3 with h3 | h3
  · omega
  · have := m1 _ h3
    omega
end
theorem widthOf_both (W H : Int) (L : List Int) (A B : Int) (hl : L.length ≤ 1048576) : ∃ (r : Int) (b : Bool), Ev (fun k => spec_WidthOf.f k W H L A B) (r, b) ∧ Ev (fun k => impl_WidthOf.f k W H L A B) (r, b) := by
  have noS : Ev (fun k => spec_WidthOf.j0 k true W H L A B) (0, false) := by
    refine Ev.step (fun k => by rw [spec_WidthOf.j0]) ?_
    simp only [if_true]
    exact Ev.now _
  by_cases t : Two W H L A B
  · have g := t.1
    have hp := faParts_ev (A := A) (B := B) g hl
    have hp2 := parts_ev (A := A) (B := B) g
    generalize partsR (farM W H L A B) (cellsM W H L) (List.replicate (W * H).toNat false) [] = P at hp hp2
    by_cases one : (P.length : Int) = 1
    · have e1 : ((P.length : Int) != 1) = false := by simp [one]
      have hcell : 0 < (cellsM W H L).length := by
        rcases Nat.eq_zero_or_pos (cellsM W H L).length with h0 | h0
        · exfalso
          have hnil : cellsM W H L = [] := List.eq_nil_of_length_eq_zero h0
          have hP := parts_ev (A := A) (B := B) g
          obtain ⟨K1, k1⟩ := hP
          obtain ⟨K2, k2⟩ := hp2
          have e := (k1 (max K1 K2) (by omega)).symm.trans (k2 (max K1 K2) (by omega))
          rw [hnil] at e
          simp [partsR] at e
          rw [e] at one
          simp at one
        · exact h0
      have hnn : ∀ x ∈ (cellsM W H L).map (farTop W H L A B), 0 ≤ x := by
        intro x hx
        obtain ⟨c, hc, rfl⟩ := List.mem_map.1 hx
        exact (top_ev (A := A) (B := B) g c (mem_cellsM.1 hc)).1
      refine ⟨((cellsM W H L).map (farTop W H L A B)).foldl max 0, true, ?_, ?_⟩
      · unfold spec_WidthOf.f
        refine Ev.bind (two_yes t hl) ?_
        simp only [if_true]
        refine Ev.bind hp ?_
        simp only [e1]
        refine Ev.step (fun k => by rw [spec_WidthOf.j0]) ?_
        simp only [Bool.false_eq_true, if_false]
        refine Ev.bind (boCells_ev g hl) ?_
        have := specWidth_loop (A := A) (B := B) g hl (cellsM W H L) [] (fun c hc => mem_cellsM.1 hc) (by simpa using cellsM_length g) 0
        simpa using this
      · unfold impl_WidthOf.f
        refine Ev.bind (a := (cellsM W H L, nearM W H L A B, (cellsM W H L).map (farTop W H L A B), true)) ?_ ?_
        · unfold impl_greatest.f
          refine Ev.bind (graphOf_two t hl) ?_
          simp only [if_true]
          refine Ev.bind hp2 ?_
          simp only [one, if_true]
          have := greatest_loop (A := A) (B := B) g (cellsM W H L) [] [] (fun c hc => mem_cellsM.1 hc) (by simpa using cellsM_length g) (by simp)
          simpa using this
        · have h1 : 0 < ((cellsM W H L).map (farTop W H L A B)).length := by simpa using hcell
          simp only [if_true, slices_Max_int_int.f, h1, Option.bind_some, foldl_max_zero _ h1 hnn]
          exact Ev.now _
    · have e1 : ((P.length : Int) != 1) = true := by simp [one]
      refine ⟨0, false, ?_, ?_⟩
      · unfold spec_WidthOf.f
        refine Ev.bind (two_yes t hl) ?_
        simp only [if_true]
        refine Ev.bind hp ?_
        simp only [e1]
        exact noS
      · unfold impl_WidthOf.f
        refine Ev.bind (a := (([] : List Int), ([] : List (List Int)), ([] : List Int), false)) ?_ ?_
        · unfold impl_greatest.f
          refine Ev.bind (graphOf_two t hl) ?_
          simp only [if_true]
          refine Ev.bind hp2 ?_
          simp only [one, if_false]
          exact Ev.now _
        · simp only [Bool.false_eq_true, if_false]
          exact Ev.now _
  · refine ⟨0, false, ?_, ?_⟩
    · unfold spec_WidthOf.f
      refine Ev.bind (two_no t hl) ?_
      simp only [Bool.false_eq_true, if_false]
      exact noS
    · unfold impl_WidthOf.f
      refine Ev.bind (a := (([] : List Int), ([] : List (List Int)), ([] : List Int), false)) ?_ ?_
      · unfold impl_greatest.f
        refine Ev.bind (graphOf_not t hl) ?_
        simp only [Bool.false_eq_true, if_false]
        exact Ev.now _
      · simp only [Bool.false_eq_true, if_false]
        exact Ev.now _
theorem FnExactWidthOf : FnExactWidthOfSaid := by
  intro a0_0 a0_1 l0_2 a1_0 a1_1 _ _ hlen_l0_2 _ _ _
  by_cases hb_l0_2 : 1048576 < l0_2.length
  · refine ⟨0, ?_⟩
    simp [laws_FnExactWidthOf.f, szBoard_big a0_0 a0_1 l0_2 hb_l0_2 hlen_l0_2]
  have hs_l0_2 : l0_2.length ≤ 1048576 := by omega
  obtain ⟨r, b, hs, hi⟩ := widthOf_both a0_0 a0_1 l0_2 a1_0 a1_1 hs_l0_2
  refine rounds_of ?_
  have n0 : ¬ (1048576 - (l0_2.length : Int) < 0) := by omega
  have n1 : ¬ (1 + (l0_2.length : Int) < 0) := by omega
  unfold laws_FnExactWidthOf.f
  repeat (first
    | exact Ev.now _
    | refine Ev.bind (toBoard_ev _ _ _ (by assumption)) ?_
    | refine Ev.bind (eqBoard_ev _ _ _ (by assumption)) ?_
    | refine Ev.bind (markBoard_ev _ _ _ (by assumption)) ?_
    | refine Ev.bind (toIntS_ev _ (by assumption)) ?_
    | refine Ev.bind (eqIntS_ev _ (by assumption)) ?_
    | refine Ev.bind (markIntS_ev _ (by assumption)) ?_
    | refine Ev.bind (heldIntS_ev _ (by assumption)) ?_
    | refine Ev.bind (markIntS_any _ _ (by assumption) (by omega)) ?_
    | refine Ev.bind hs ?_
    | refine Ev.bind hi ?_
    | simp only [Option.bind_some, if_true, if_false, bne_self_eq_false, Bool.false_eq_true, ne_eq, not_true_eq_false, not_false_eq_true, szBoard_fit _ _ _ hs_l0_2, laws_toLeaper.f, n0, n1]
    | (refine Ev.step (fun k => by rw [laws_FnExactWidthOf.j0]) ?_))
end Go.Proofs.Ytjeongckkfkehaa.Pure

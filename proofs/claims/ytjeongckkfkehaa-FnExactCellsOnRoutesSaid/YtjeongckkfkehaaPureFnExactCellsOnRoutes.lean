/- CellsOnRoutes: the program and the reference tell the same list of cells, so the law's function answers true for all arguments. -/
import Derived.Test.YtjeongckkfkehaaStateFnExactCellsOnRoutes
import Derived.Test.YtjeongckkfkehaaHDist
import Derived.Test.YtjeongckkfkehaaQ42
import Derived.Test.YtjeongckkfkehaaQ43
namespace Go.Proofs.Ytjeongckkfkehaa.Pure
open Go.RowKit Go.IntWalk Go.Proofs.Ytjeongckkfkehaa.Q Go.Proofs.Ytjeongckkfkehaa.H Go.Proofs.YtjeongckkfkehaaW.PrintWords Go.Proofs.YtjeongckkfkehaaW.PrintMore
set_option linter.unusedVariables false
set_option linter.unusedSimpArgs false
def onB (u v : List Int) (tt c : Int) : Bool := decide (0 ≤ rd u c) && decide (0 ≤ rd v c) && decide (rd u c + rd v c = rd u tt)
theorem specOn_loop (u v : List Int) (tt : Int) (ht : 0 ≤ tt ∧ tt < (u.length : Int)) (hv : v.length = u.length) (hu : u.length ≤ 64) (hb : ∀ i : Nat, i < u.length → rd u (i : Int) ≤ 64 ∧ rd v (i : Int) ≤ 64) : ∀ (n i : Nat), n + i = u.length → ∀ acc : List Int, acc.length ≤ i →
    Ev (fun k => spec_CellsOnRoutes.l0 k tt u v acc (u.length : Int) (i : Int)) (acc ++ ((List.range' i n).map Int.ofNat).filter (onB u v tt), true) := by
  intro n
  induction n with
  | zero =>
    intro i h1 acc ha
    refine Ev.step (fun k => by rw [spec_CellsOnRoutes.l0]) ?_
    have h3 : ¬ ((i : Int) < (u.length : Int)) := by omega
    simp only [h3, if_false, List.range'_zero, List.map_nil, List.filter_nil, List.append_nil]
    exact Ev.now _
  | succ n ih =>
    intro i h1 acc ha
    refine Ev.step (fun k => by rw [spec_CellsOnRoutes.l0]) ?_
    have h3 : (i : Int) < (u.length : Int) := by omega
    have h4 : (0 : Int) ≤ (i : Int) := by omega
    have h5 : (i : Int) < (v.length : Int) := by omega
    have h6 : acc.length < 17592186044416 := by omega
    have hbi := hb i (by omega)
    rw [List.range'_succ, List.map_cons, List.filter_cons]
    have ei : Int.ofNat i = (i : Int) := rfl
    rw [ei]
    have no : onB u v tt (i : Int) = false → Ev (fun k => spec_CellsOnRoutes.l0 k tt u v acc (u.length : Int) ((i + 1 : Nat) : Int)) (acc ++ (if onB u v tt (i : Int) = true then (i : Int) :: List.filter (onB u v tt) (List.map Int.ofNat (List.range' (i + 1) n)) else List.filter (onB u v tt) (List.map Int.ofNat (List.range' (i + 1) n))), true) := by
      intro h
      simp only [h, Bool.false_eq_true, if_false]
      exact ih (i + 1) (by omega) acc (by omega)
    simp only [h3, h4, h5, if_true, ht.1, ht.2, w_succ (show i ≤ 4611686018427387904 by omega)]
    by_cases c1 : rd u (i : Int) ≥ 0
    · have c1' : 0 ≤ rd u (i : Int) := c1
      simp only [c1, if_true]
      by_cases c2 : rd v (i : Int) ≥ 0
      · have c2' : 0 ≤ rd v (i : Int) := c2
        have w : wrap64 (rd u (i : Int) + rd v (i : Int)) = rd u (i : Int) + rd v (i : Int) := wrap64_in _ (by omega)
        simp only [c2, if_true, w]
        by_cases c3 : rd u (i : Int) + rd v (i : Int) = rd u tt
        · have hk : onB u v tt (i : Int) = true := by simp [onB, c1', c2', c3]
          simp only [c3, if_true, h6, hk]
          have := ih (i + 1) (by omega) (acc ++ [(i : Int)]) (by simp; omega)
          simpa using this
        · simp only [c3, if_false]
          exact no (by simp [onB, c3])
      · simp only [c2, if_false]
        exact no (by have : ¬ 0 ≤ rd v (i : Int) := c2; simp [onB, this])
    · simp only [c1, if_false]
      exact no (by have : ¬ 0 ≤ rd u (i : Int) := c1; simp [onB, this])
theorem implOn_loop (u v : List Int) (tt : Int) (ht : 0 ≤ tt ∧ tt < (u.length : Int)) (hv : v.length = u.length) (hb : ∀ i : Int, 0 ≤ i → i < (u.length : Int) → rd u i ≤ 64 ∧ rd v i ≤ 64) (rest pre acc : List Int) (hr : ∀ c ∈ rest, 0 ≤ c ∧ c < (u.length : Int)) (hp : (pre ++ rest).length ≤ 64) (ha : acc.length ≤ pre.length) :
    Ev (fun k => impl_CellsOnRoutes.l0 k tt u v acc (pre ++ rest) ((pre ++ rest).length : Int) (pre.length : Int)) (acc ++ rest.filter (onB u v tt), true) := by
  induction rest generalizing pre acc with
  | nil =>
    refine Ev.step (fun k => by rw [impl_CellsOnRoutes.l0]) ?_
    simp only [List.append_nil, nlt_end, if_false, List.filter_nil]
    exact Ev.now _
  | cons c r ih =>
    refine Ev.step (fun k => by rw [impl_CellsOnRoutes.l0]) ?_
    have h0 : (0 : Int) ≤ (pre.length : Int) := by omega
    have h5 : pre.length ≤ 64 := by simp at hp; omega
    have h6 : acc.length < 17592186044416 := by omega
    have hc := hr c (by simp)
    have hcv : c < (v.length : Int) := by rw [hv]; exact hc.2
    have hbc := hb c hc.1 hc.2
    rw [List.filter_cons]
    have no : onB u v tt c = false → Ev (fun k => impl_CellsOnRoutes.l0 k tt u v acc (pre ++ c :: r) ((pre ++ c :: r).length : Int) ((pre.length + 1 : Nat) : Int)) (acc ++ (if onB u v tt c = true then c :: r.filter (onB u v tt) else r.filter (onB u v tt)), true) := by
      intro h
      simp only [h, Bool.false_eq_true, if_false]
      have := ih (pre ++ [c]) acc (fun x hx => hr x (by simp [hx])) (by simpa using hp) (by simp; omega)
      simpa using this
    simp only [lt_mid pre c r, h0, if_true, rd_mid, ht.1, ht.2, hc.1, hc.2, hcv, w_succ (show pre.length ≤ 4611686018427387904 by omega)]
    by_cases c0 : rd u tt ≥ 0
    · simp only [c0, if_true]
      by_cases c1 : rd u c ≥ 0
      · have c1' : 0 ≤ rd u c := c1
        simp only [c1, if_true]
        by_cases c2 : rd v c ≥ 0
        · have c2' : 0 ≤ rd v c := c2
          have w : wrap64 (rd u c + rd v c) = rd u c + rd v c := wrap64_in _ (by omega)
          simp only [c2, if_true, w]
          by_cases c3 : rd u c + rd v c = rd u tt
          · have hk : onB u v tt c = true := by simp [onB, c1', c2', c3]
            simp only [c3, if_true, h6, hk]
            have := ih (pre ++ [c]) (acc ++ [c]) (fun x hx => hr x (by simp [hx])) (by simpa using hp) (by simp; omega)
            simpa using this
          · simp only [c3, if_false]
            exact no (by simp [onB, c3])
        · simp only [c2, if_false]
          exact no (by have : ¬ 0 ≤ rd v c := c2; simp [onB, this])
      · simp only [c1, if_false]
        exact no (by have : ¬ 0 ≤ rd u c := c1; simp [onB, this])
    · simp only [c0, if_false]
      refine no ?_
      rcases Bool.eq_false_or_eq_true (onB u v tt c) with h | h
      · exfalso
        simp only [onB, Bool.and_eq_true, decide_eq_true_eq] at h
        omega
      · exact h
theorem cellsOnRoutes_both (W H : Int) (L : List Int) (A B x y : Int) (hl : L.length ≤ 1048576) : ∃ (r : List Int) (b : Bool), r.length ≤ 1048576 ∧ Ev (fun k => spec_CellsOnRoutes.f k W H L A B x y) (r, b) ∧ Ev (fun k => impl_CellsOnRoutes.f k W H L A B x y) (r, b) := by
  by_cases t : AskM W H L A B x y
  · have g := t.1.1
    have ha := g.area
    have hx := has_range t.2.1
    have hy := has_range t.2.2
    have fx := farM_keep (A := A) (B := B) g hx
    have fy := farM_keep (A := A) (B := B) g hy
    have ux : (farM W H L A B x).length ≤ 64 := by omega
    have hv : (farM W H L A B y).length = (farM W H L A B x).length := by omega
    have ht : 0 ≤ y ∧ y < ((farM W H L A B x).length : Int) := by omega
    have hsame : (cellsM W H L).filter (onB (farM W H L A B x) (farM W H L A B y) y) = ((List.range' 0 (farM W H L A B x).length).map Int.ofNat).filter (onB (farM W H L A B x) (farM W H L A B y) y) := by
      unfold cellsM
      rw [List.range_eq_range', fx.1, List.filter_filter]
      refine List.filter_congr fun c hc => ?_
      obtain ⟨i, hi, rfl⟩ := List.mem_map.1 hc
      have hi' := (List.mem_range'.1 hi)
      obtain ⟨j, hj, rfl⟩ := hi'
      rcases Bool.eq_false_or_eq_true (onB (farM W H L A B x) (farM W H L A B y) y (Int.ofNat (0 + 1 * j))) with h | h
      · rw [h]
        have h' := h
        simp only [onB, Bool.and_eq_true, decide_eq_true_eq] at h'
        have := far_has (A := A) (B := B) g t.2.1 (Int.ofNat (0 + 1 * j)) (by simp; omega) h'.1.1
        rw [this]; rfl
      · rw [h]; rfl
    refine ⟨(cellsM W H L).filter (onB (farM W H L A B x) (farM W H L A B y) y), true, by have := List.length_filter_le (onB (farM W H L A B x) (farM W H L A B y) y) (cellsM W H L); have := cellsM_length g; omega, ?_, ?_⟩
    · unfold spec_CellsOnRoutes.f
      refine Ev.bind (faAsked_yes t hl) ?_
      simp only [if_true]
      refine Ev.bind (faFrom_ev g hl x hx) ?_
      refine Ev.bind (faFrom_ev g hl y hy) ?_
      rw [hsame]
      have := specOn_loop (farM W H L A B x) (farM W H L A B y) y ht hv ux (fun i hi => ⟨(fx.2 i (by omega)).2, (fy.2 i (by omega)).2⟩) (farM W H L A B x).length 0 (by omega) [] (by simp)
      simpa using this
    · unfold impl_CellsOnRoutes.f
      refine Ev.bind (implTwo_yes t hl) ?_
      simp only [if_true]
      refine Ev.bind (far_ev g x t.2.1) ?_
      refine Ev.bind (far_ev g y t.2.2) ?_
      have := implOn_loop (farM W H L A B x) (farM W H L A B y) y ht hv (fun i h1 h2 => ⟨(fx.2 i (by omega)).2, (fy.2 i (by omega)).2⟩) (cellsM W H L) [] [] (fun c hc => by have := has_range (mem_cellsM.1 hc); omega) (by simpa using cellsM_length g) (by simp)
      simpa using this
  · refine ⟨[], false, by simp, ?_, ?_⟩
    · unfold spec_CellsOnRoutes.f
      refine Ev.bind (faAsked_no t hl) ?_
      simp only [Bool.false_eq_true, if_false]
      exact Ev.now _
    · unfold impl_CellsOnRoutes.f
      refine Ev.bind (implTwo_no t hl) ?_
      simp only [Bool.false_eq_true, if_false]
      exact Ev.now _
theorem FnExactCellsOnRoutes : FnExactCellsOnRoutesSaid := by
  intro a0_0 a0_1 l0_2 a1_0 a1_1 a2 a3 _ _ hlen_l0_2 _ _ _ _ _
  by_cases hb_l0_2 : 1048576 < l0_2.length
  · refine ⟨0, ?_⟩
    simp [laws_FnExactCellsOnRoutes.f, szBoard_big a0_0 a0_1 l0_2 hb_l0_2 hlen_l0_2]
  have hs_l0_2 : l0_2.length ≤ 1048576 := by omega
  obtain ⟨r, b, hr, hs, hi⟩ := cellsOnRoutes_both a0_0 a0_1 l0_2 a1_0 a1_1 a2 a3 hs_l0_2
  refine rounds_of ?_
  have n0 : ¬ (1048576 - (l0_2.length : Int) < 0) := by omega
  have n1 : ¬ (1 + (l0_2.length : Int) < 0) := by omega
  have nr : ¬ (1 + (r.length : Int) < 0) := by omega
  unfold laws_FnExactCellsOnRoutes.f
  repeat (first
    | exact Ev.now _
    | refine Ev.bind (toBoard_ev _ _ _ (by assumption)) ?_
    | refine Ev.bind (eqBoard_ev _ _ _ (by assumption)) ?_
    | refine Ev.bind (markBoard_ev _ _ _ (by assumption)) ?_
    | refine Ev.bind (toIntS_ev _ (by assumption)) ?_
    | refine Ev.bind (eqIntS_ev _ (by assumption)) ?_
    | refine Ev.bind (markIntS_ev _ (by assumption)) ?_
    | refine Ev.bind (heldIntS_ev _ (by assumption)) ?_
    | refine Ev.bind (markIntS_any _ _ (by assumption) (by omega)) ?_
    | refine Ev.bind hs ?_
    | refine Ev.bind hi ?_
    | simp only [Option.bind_some, if_true, if_false, bne_self_eq_false, Bool.false_eq_true, ne_eq, not_true_eq_false, not_false_eq_true, szBoard_fit _ _ _ hs_l0_2, laws_toLeaper.f, n0, n1, nr]
    | (refine Ev.step (fun k => by rw [laws_FnExactCellsOnRoutes.j0]) ?_)
    | (refine Ev.step (fun k => by rw [laws_FnExactCellsOnRoutes.j1]) ?_)
    | (refine Ev.step (fun k => by rw [laws_FnExactCellsOnRoutes.j2]) ?_))
end Go.Proofs.Ytjeongckkfkehaa.Pure

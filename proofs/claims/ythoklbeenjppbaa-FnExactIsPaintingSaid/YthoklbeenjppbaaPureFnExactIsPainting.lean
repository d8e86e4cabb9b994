/- IsPainting: the program and the reference tell the same, so the law's function answers true for all arguments. -/
import Derived.Test.YthoklbeenjppbaaStateFnExactIsPainting
import Derived.Test.YthoklbeenjppbaaHPaint
import Derived.Test.YthoklbeenjppbaaQ17
import Derived.Test.YthoklbeenjppbaaQ19
namespace Go.Proofs.Ythoklbeenjppbaa.Pure
open Go.RowKit Go.IntWalk Go.Proofs.Ythoklbeenjppbaa.Q Go.Proofs.Ythoklbeenjppbaa.H Go.Proofs.YthoklbeenjppbaaW.PrintWords Go.Proofs.YthoklbeenjppbaaW.PrintMore
set_option linter.unusedVariables false
set_option linter.unusedSimpArgs false
section
variable {W H : Int} {L : List Int} {A B : Int}
def rowPaint (col : List Int) (c : Int) (ds : List Int) : Bool := ds.all fun d => !decide (rd col c = rd col d)
theorem paIs_l1 (col cs : List Int) (hcol : (col.length : Int) = W * H) (c : Int) (hc : 0 ≤ c ∧ c < W * H) (i : Nat) (hi : i ≤ 64) (R : Bool) (rest pre : List Int) (hr : ∀ d ∈ rest, 0 ≤ d ∧ d < W * H) (hp : (pre ++ rest).length ≤ 64)
    (hR : Ev (fun k => spec_paIs.l0 k col cs (cs.length : Int) ((i + 1 : Nat) : Int) W H L A B) R) :
    Ev (fun k => spec_paIs.l1 k col c cs (cs.length : Int) (i : Int) (pre ++ rest) ((pre ++ rest).length : Int) (pre.length : Int) W H L A B) (rowPaint col c rest && R) := by
  induction rest generalizing pre with
  | nil =>
    refine Ev.step (fun k => by rw [spec_paIs.l1]) ?_
    simp only [List.append_nil, nlt_end, if_false, w_succ (show i ≤ 4611686018427387904 by omega), rowPaint, List.all_nil, Bool.true_and]
    exact hR
  | cons d r ih =>
    refine Ev.step (fun k => by rw [spec_paIs.l1]) ?_
    have h0 : (0 : Int) ≤ (pre.length : Int) := by omega
    have h5 : pre.length ≤ 64 := by simp at hp; omega
    have hd := hr d (by simp)
    have m1 : c < (col.length : Int) := by omega
    have m2 : d < (col.length : Int) := by omega
    simp only [lt_mid pre d r, h0, if_true, rd_mid, hc.1, hd.1, m1, m2, w_succ (show pre.length ≤ 4611686018427387904 by omega), rowPaint, List.all_cons]
    by_cases x : rd col c = rd col d
    · simp only [x, if_true, decide_true, Bool.not_true, Bool.false_and]
      exact Ev.now _
    · simp only [x, if_false, decide_false, Bool.not_false, Bool.true_and]
      have := ih (pre ++ [d]) (fun y hy => hr y (by simp [hy])) (by simpa using hp)
      simpa [rowPaint] using this
theorem paIs_l0 (g : BoardM W H L) (hl : L.length ≤ 1048576) (col : List Int) (hcol : (col.length : Int) = W * H) (rest pre : List Int) (hr : ∀ c ∈ rest, hasB W H L c = true) (hp : (pre ++ rest).length ≤ 64) :
    Ev (fun k => spec_paIs.l0 k col (pre ++ rest) ((pre ++ rest).length : Int) (pre.length : Int) W H L A B) (rest.all fun c => rowPaint col c (leapsM W H L A B c)) := by
  induction rest generalizing pre with
  | nil =>
    refine Ev.step (fun k => by rw [spec_paIs.l0]) ?_
    simp only [List.append_nil, nlt_end, if_false, List.all_nil]
    exact Ev.now _
  | cons c r ih =>
    refine Ev.step (fun k => by rw [spec_paIs.l0]) ?_
    have h0 : (0 : Int) ≤ (pre.length : Int) := by omega
    have h5 : pre.length ≤ 64 := by simp at hp; omega
    have hc := has_range (hr c (by simp))
    simp only [lt_mid pre c r, h0, if_true, rd_mid, List.all_cons]
    refine Ev.bind (boLeaps_ev g hl A B c hc) ?_
    have := ih (pre ++ [c]) (fun x hx => hr x (by simp [hx])) (by simpa using hp)
    have := paIs_l1 (W := W) (H := H) (L := L) (A := A) (B := B) col (pre ++ c :: r) hcol c hc pre.length h5 _ (leapsM W H L A B c) [] (fun d hd => has_range (leapsM_has hd)) (by simpa using leapsM_length g A B c) (by simpa using this)
    simpa using this
theorem paint_same (l : Leap A B) (col : List Int) : ((cellsM W H L).all fun c => rowPaint col c (leapsM W H L A B c)) = paintB W H L A B col := by
  unfold paintB rowPaint
  rw [Bool.eq_iff_iff]
  simp only [List.all_eq_true, Bool.not_eq_true', decide_eq_false_iff_not]
  constructor
  · intro h p hp
    obtain ⟨c, d, rfl, h1, h2, h3, _⟩ := (mem_pairsM p).1 hp
    exact h c (mem_cellsM.2 h1) d (List.mem_filter.2 ⟨mem_cellsM.2 h2, h3⟩)
  · intro h c hc d hd
    have h1 := mem_cellsM.1 hc
    obtain ⟨h2, h3⟩ := List.mem_filter.1 hd
    have h2 := mem_cellsM.1 h2
    rcases Int.lt_trichotomy c d with hlt | heq | hgt
    · exact h [c, d] ((mem_pairsM _).2 ⟨c, d, rfl, h1, h2, h3, hlt⟩)
    · subst heq
      rw [isB_self l] at h3
      cases h3
    · have := h [d, c] ((mem_pairsM _).2 ⟨d, c, rfl, h2, h1, by rw [isB_symm]; exact h3, hgt⟩)
      exact fun e => this e.symm
end
theorem isPainting_both (W H : Int) (L : List Int) (A B : Int) (col : List Int) (hl : L.length ≤ 1048576) (hs : col.length ≤ 1048576) : ∃ (r b : Bool), Ev (fun k => spec_IsPainting.f k W H L A B col) (r, b) ∧ Ev (fun k => impl_IsPainting.f k W H L A B col) (r, b) := by
  by_cases t : Two W H L A B
  · have g := t.1
    refine ⟨colsB W H L col && paintB W H L A B col, true, ?_, ?_⟩
    · unfold spec_IsPainting.f
      refine Ev.bind (two_yes t hl) ?_
      simp only [if_true]
      refine Ev.bind (paGood_ev g hl col) ?_
      rcases Bool.eq_false_or_eq_true (colsB W H L col) with hx | hx
      · have hc : (col.length : Int) = W * H := by
          unfold colsB at hx
          simp only [Bool.and_eq_true, decide_eq_true_eq] at hx
          exact hx.1
        simp only [hx, if_true, Bool.true_and]
        refine Ev.bind (a := paintB W H L A B col) ?_ (Ev.now _)
        unfold spec_paIs.f
        refine Ev.bind (boCells_ev g hl) ?_
        have := paIs_l0 (A := A) (B := B) g hl col hc (cellsM W H L) [] (fun c hc => mem_cellsM.1 hc) (by simpa using cellsM_length g)
        rw [paint_same t.2] at this
        simpa using this
      · simp only [hx, Bool.false_eq_true, if_false, Bool.false_and]
        exact Ev.now _
    · unfold impl_IsPainting.f
      refine Ev.bind (graphOf_two t hl) ?_
      simp only [if_true]
      exact Ev.bind (isPainting_ev g hl col) (Ev.now _)
  · refine ⟨false, false, ?_, ?_⟩
    · unfold spec_IsPainting.f
      refine Ev.bind (two_no t hl) ?_
      simp only [Bool.false_eq_true, if_false]
      exact Ev.now _
    · unfold impl_IsPainting.f
      refine Ev.bind (graphOf_not t hl) ?_
      simp only [Bool.false_eq_true, if_false]
      exact Ev.now _
theorem FnExactIsPainting : FnExactIsPaintingSaid := by
  intro a0_0 a0_1 l0_2 a1_0 a1_1 l2 _ _ hlen_l0_2 _ _ _ hlen_l2 _
  by_cases hb_l2 : (l2.length : Int) > 1048576
  · refine ⟨0, ?_⟩
    simp [laws_FnExactIsPainting.f, hb_l2]
  have hs_l2 : l2.length ≤ 1048576 := by omega
  by_cases hb_l0_2 : 1048576 < l0_2.length
  · refine ⟨0, ?_⟩
    simp [laws_FnExactIsPainting.f, szBoard_big a0_0 a0_1 l0_2 hb_l0_2 hlen_l0_2, hb_l2]
  have hs_l0_2 : l0_2.length ≤ 1048576 := by omega
  obtain ⟨r, b, hs, hi⟩ := isPainting_both a0_0 a0_1 l0_2 a1_0 a1_1 l2 hs_l0_2 hs_l2
  refine rounds_of ?_
  have n0 : ¬ (1048576 - (l0_2.length : Int) < 0) := by omega
  have n1 : ¬ (1 + (l0_2.length : Int) < 0) := by omega
  have n2 : ¬ (1 + (l2.length : Int) < 0) := by omega
  have n12 : ¬ (1 + (l0_2.length : Int) + (l2.length : Int) < 0) := by omega
  unfold laws_FnExactIsPainting.f
  repeat (first
    | exact Ev.now _
    | refine Ev.bind (toBoard_ev _ _ _ (by assumption)) ?_
    | refine Ev.bind (eqBoard_ev _ _ _ (by assumption)) ?_
    | refine Ev.bind (markBoard_ev _ _ _ (by assumption)) ?_
    | refine Ev.bind (toIntS_ev _ (by assumption)) ?_
    | refine Ev.bind (eqIntS_ev _ (by assumption)) ?_
    | refine Ev.bind (markIntS_ev _ (by assumption)) ?_
    | refine Ev.bind (heldIntS_ev _ (by assumption)) ?_
    | refine Ev.bind (markIntS_any _ _ (by assumption) (by omega)) ?_
    | refine Ev.bind hs ?_
    | refine Ev.bind hi ?_
    | simp only [Option.bind_some, if_true, if_false, bne_self_eq_false, Bool.false_eq_true, ne_eq, not_true_eq_false, not_false_eq_true, hb_l2, szBoard_fit _ _ _ hs_l0_2, laws_toLeaper.f, n0, n1, n2, n12]
    | (refine Ev.step (fun k => by rw [laws_FnExactIsPainting.j0]) ?_))
end Go.Proofs.Ythoklbeenjppbaa.Pure

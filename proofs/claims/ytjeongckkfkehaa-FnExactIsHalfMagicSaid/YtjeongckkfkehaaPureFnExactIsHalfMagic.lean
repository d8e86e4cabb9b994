/- IsHalfMagic: the program and the reference tell the same, so the law's function answers true for all arguments. -/
import Derived.Test.YtjeongckkfkehaaStateFnExactIsHalfMagic
import Derived.Test.YtjeongckkfkehaaHSums
import Derived.Test.YtjeongckkfkehaaHTour
import Derived.Test.YtjeongckkfkehaaHMax
import Derived.Test.YtjeongckkfkehaaQ39
import Derived.Test.YtjeongckkfkehaaQ40
namespace Go.Proofs.Ytjeongckkfkehaa.Pure
open Go.RowKit Go.IntWalk Go.Proofs.Ytjeongckkfkehaa.Q Go.Proofs.Ytjeongckkfkehaa.H Go.Proofs.YtjeongckkfkehaaW.PrintWords Go.Proofs.YtjeongckkfkehaaW.PrintMore
set_option linter.unusedVariables false
set_option linter.unusedSimpArgs false
theorem foldl_min (zs : List Int) : ∀ a, zs.foldl min a ≤ a ∧ (∀ x ∈ zs, zs.foldl min a ≤ x) ∧ (zs.foldl min a = a ∨ zs.foldl min a ∈ zs) := by
  induction zs with
  | nil => intro a; simp
  | cons z r ih =>
    intro a
    obtain ⟨h1, h2, h3⟩ := ih (min a z)
    simp only [List.foldl_cons]
    refine ⟨by omega, fun x hx => ?_, ?_⟩
    · rcases List.mem_cons.1 hx with rfl | hx
      · omega
      · exact h2 x hx
    · rcases h3 with h3 | h3
      · rcases Int.le_total a z with h | h
        · left; rw [h3, Int.min_eq_left h]
        · right; rw [h3, Int.min_eq_right h]; simp
      · right; simp [h3]
theorem minOf_spec (l : List Int) (h : 0 < l.length) : (∀ x ∈ l, Lib.minOf l ≤ x) ∧ Lib.minOf l ∈ l := by
  cases l with
  | nil => simp at h
  | cons z r =>
    obtain ⟨h1, h2, h3⟩ := foldl_min (z :: r) z
    unfold Lib.minOf
    refine ⟨fun x hx => h2 x hx, ?_⟩
    rcases h3 with h3 | h3
    · show (z :: r).foldl min z ∈ z :: r
      rw [h3]; simp
    · exact h3
def evenB (l : List Int) : Bool := l.all fun n => decide (rd l 0 ≤ n) && decide (n ≤ rd l 0)
theorem even_iff (l : List Int) (h : 0 < l.length) : evenB l = decide (Lib.minOf l = Lib.maxOf l) := by
  obtain ⟨a1, a2⟩ := minOf_spec l h
  obtain ⟨b1, b2⟩ := maxOf_spec l h
  have h0 : rd l 0 ∈ l := by
    have := rd_nat l 0 h
    simp only [Int.natCast_zero] at this
    rw [this]; exact List.getElem_mem h
  unfold evenB
  rw [Bool.eq_iff_iff]
  simp only [List.all_eq_true, Bool.and_eq_true, decide_eq_true_eq]
  constructor
  · intro hh
    have := hh _ a2
    have := hh _ b2
    omega
  · intro e x hx
    have := a1 x hx
    have := b1 x hx
    have := a1 _ h0
    have := b1 _ h0
    omega
theorem isHalfMagic_both (W H : Int) (L : List Int) (A B : Int) (s : List Int) (hl : L.length ≤ 1048576) (hs : s.length ≤ 1048576) : ∃ (r b : Bool), Ev (fun k => spec_IsHalfMagic.f k W H L A B s) (r, b) ∧ Ev (fun k => impl_IsHalfMagic.f k W H L A B s) (r, b) := by
  by_cases t : Walked W H L A B s
  · have hw := walkB_has t.2
    have g := t.1.1
    obtain ⟨a, b, h1, h2, h3, h4, la, lb⟩ := sums_ev' g s hw.2.2 hw.2.1
    have t0 := toTour_ev g hl A B s
    have t1 := isTour_ev g hl A B s
    rcases Bool.eq_false_or_eq_true (tourB W H L A B s) with hx | hx
    · rw [hx] at t0 t1
      have pa : (0 : Int) < (a.length : Int) := by have := g.2.2.1; omega
      have pb : (0 : Int) < (b.length : Int) := by have := g.1; omega
      have pa' : 0 < a.length := by omega
      have pb' : 0 < b.length := by omega
      refine ⟨evenB a && evenB b, true, ?_, ?_⟩
      · unfold spec_IsHalfMagic.f
        refine Ev.bind (blWalk_yes t hl) ?_
        simp only [if_true]
        refine Ev.bind t0 ?_
        simp only [if_true]
        refine Ev.bind h3 ?_
        simp only [pa, pb, if_true]
        refine Ev.bind (l1All_ev a _ _ (by omega)) ?_
        show Ev (fun n => if evenB a = true then _ else _) _
        rcases Bool.eq_false_or_eq_true (evenB a) with ea | ea
        · simp only [ea, if_true, Bool.true_and]
          exact Ev.bind (l1All_ev b _ _ (by omega)) (Ev.now _)
        · simp only [ea, Bool.false_eq_true, if_false, Bool.false_and]
          exact Ev.now _
      · unfold impl_IsHalfMagic.f
        refine Ev.bind (walkGraph_yes t hl) ?_
        simp only [if_true]
        refine Ev.bind h4 ?_
        refine Ev.bind t1 ?_
        simp only [if_true, slices_Min_int_int.f, slices_Max_int_int.f, pa', pb', Option.bind_some, even_iff a pa', even_iff b pb']
        by_cases ea : Lib.minOf a = Lib.maxOf a
        · simp only [ea, if_true, decide_true, Bool.true_and]
          by_cases eb : Lib.minOf b = Lib.maxOf b
          · simp only [eb, decide_true, beq_self_eq_true]; exact Ev.now _
          · have : (Lib.minOf b == Lib.maxOf b) = false := beq_eq_false_iff_ne.2 eb
            simp only [eb, this, decide_false]; exact Ev.now _
        · simp only [ea, if_false, decide_false, Bool.false_and]
          exact Ev.now _
    · rw [hx] at t0 t1
      refine ⟨false, true, ?_, ?_⟩
      · unfold spec_IsHalfMagic.f
        refine Ev.bind (blWalk_yes t hl) ?_
        simp only [if_true]
        refine Ev.bind t0 ?_
        simp only [Bool.false_eq_true, if_false]
        exact Ev.now _
      · unfold impl_IsHalfMagic.f
        refine Ev.bind (walkGraph_yes t hl) ?_
        simp only [if_true]
        refine Ev.bind h4 ?_
        refine Ev.bind t1 ?_
        simp only [Bool.false_eq_true, if_false]
        exact Ev.now _
  · refine ⟨false, false, ?_, ?_⟩
    · unfold spec_IsHalfMagic.f
      refine Ev.bind (blWalk_no t hl) ?_
      simp only [Bool.false_eq_true, if_false]
      exact Ev.now _
    · unfold impl_IsHalfMagic.f
      refine Ev.bind (walkGraph_no t hl) ?_
      simp only [Bool.false_eq_true, if_false]
      exact Ev.now _
theorem FnExactIsHalfMagic : FnExactIsHalfMagicSaid := by
  intro a0_0 a0_1 l0_2 a1_0 a1_1 l2 _ _ hlen_l0_2 _ _ _ hlen_l2 _
  by_cases hb_l2 : (l2.length : Int) > 1048576
  · refine ⟨0, ?_⟩
    simp [laws_FnExactIsHalfMagic.f, hb_l2]
  have hs_l2 : l2.length ≤ 1048576 := by omega
  by_cases hb_l0_2 : 1048576 < l0_2.length
  · refine ⟨0, ?_⟩
    simp [laws_FnExactIsHalfMagic.f, szBoard_big a0_0 a0_1 l0_2 hb_l0_2 hlen_l0_2, hb_l2]
  have hs_l0_2 : l0_2.length ≤ 1048576 := by omega
  obtain ⟨r, b, hs, hi⟩ := isHalfMagic_both a0_0 a0_1 l0_2 a1_0 a1_1 l2 hs_l0_2 hs_l2
  refine rounds_of ?_
  have n0 : ¬ (1048576 - (l0_2.length : Int) < 0) := by omega
  have n1 : ¬ (1 + (l0_2.length : Int) < 0) := by omega
  have n2 : ¬ (1 + (l2.length : Int) < 0) := by omega
  have n12 : ¬ (1 + (l0_2.length : Int) + (l2.length : Int) < 0) := by omega
  unfold laws_FnExactIsHalfMagic.f
  repeat (first
    | exact Ev.now _
    | refine Ev.bind (toBoard_ev _ _ _ (by assumption)) ?_
    | refine Ev.bind (eqBoard_ev _ _ _ (by assumption)) ?_
    | refine Ev.bind (markBoard_ev _ _ _ (by assumption)) ?_
    | refine Ev.bind (toIntS_ev _ (by assumption)) ?_
    | refine Ev.bind (eqIntS_ev _ (by assumption)) ?_
    | refine Ev.bind (markIntS_ev _ (by assumption)) ?_
    | refine Ev.bind (heldIntS_ev _ (by assumption)) ?_
    | refine Ev.bind (markIntS_any _ _ (by assumption) (by omega)) ?_
    | refine Ev.bind hs ?_
    | refine Ev.bind hi ?_
    | simp only [Option.bind_some, if_true, if_false, bne_self_eq_false, Bool.false_eq_true, ne_eq, not_true_eq_false, not_false_eq_true, hb_l2, szBoard_fit _ _ _ hs_l0_2, laws_toLeaper.f, n0, n1, n2, n12]
    | (refine Ev.step (fun k => by rw [laws_FnExactIsHalfMagic.j0]) ?_))
end Go.Proofs.Ytjeongckkfkehaa.Pure

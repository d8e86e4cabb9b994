/- Written by a program of this session: functions of the translation as plain Lean functions, each with a proof that the call does what the plain function says; the conditions stand in each theorem. -/
import Derived.Test.YtemaokhlolimhaaQ0
import Derived.Test.YtemaokhlolimhaaQ3
namespace Go.Proofs.Ytemaokhlolimhaa.Q
open Go.RowKit Go.Proofs.YtemaokhlolimhaaW.PrintWords Go.Proofs.YtemaokhlolimhaaW.PrintLast Go.Proofs.YtemaokhlolimhaaW.PrintMore
attribute [local go_sem] max2_int min2_int max_two min_two max_three min_three max_four min_four   -- for this text's walks alone
set_option linter.unusedVariables false
set_option linter.unusedSimpArgs false

theorem ze1 {p : Prop} (h : p := by repeat (first | (with_reducible first | exact HB.out | apply below_alloc | apply pw_below_drewN | apply below_drew1 | refine below_set ?_ GE199.out) | exact HB.out)) : p := h
theorem ze2 {p : Prop} (h : p := by repeat (first | (with_reducible first | exact HB.out | apply below_alloc | apply pw_below_drewN | apply below_drew1) | exact HB.out)) : p := h
theorem ze3 {p : Prop} (h : p := by first | exact BK199.out | ((with_reducible repeat (first | refine blk_drewN ?_ _ | refine blk_drew ?_ | refine blk_alloc ?_ _)); exact BK199.out)) : p := h
theorem ze4 {p : Prop} (h : p := by first | exact HO_3.out | ((with_reducible repeat (first | apply Kd.S_alloc | apply Kd.S_drewN | apply Kd.S_drew)); exact HO_3.out)) : p := h
theorem ze5 {p : Prop} (h : p := by repeat (first | (with_reducible first | exact HB.out | apply below_alloc | apply pw_below_drewN | apply below_drew1 | refine below_set ?_ GE206.out) | exact HB.out)) : p := h
theorem ze6 {p : Prop} (h : p := by first | rfl | (simp [errW_none, errW_some] <;> rfl) | (simp [*, errW_none, errW_some] <;> rfl)) : p := h
theorem ze7 {p : Prop} (h : p := by first | rfl | (simp; done) | (simp [*]; done)) : p := h
theorem ze8 {p : Prop} (h : p := by rw [hg]; exact (below_size ze2)) : p := h
/-! ### impl_Leaper_steps: function 58 -/
mutual
def impl_Leaper_steps.l0 : Nat → List (List Int) → Int → Int → Int → Option ((List (List Int)))
 | 0, _, _, _, _ => none
 | k + 1, x3, x4, x200000, x200001 => if x4 ≤ 5 then (impl_Leaper_steps.l1 k x3 x4 (-5) x200000 x200001) else (some x3)
def impl_Leaper_steps.l1 : Nat → List (List Int) → Int → Int → Int → Int → Option ((List (List Int)))
 | 0, _, _, _, _, _ => none
 | k + 1, x3, x4, x5, x200000, x200001 => if x5 ≤ 5 then (if (mn (mx x4 (wrap64 (-x4))) (mx x5 (wrap64 (-x5)))) = x200000 then (if (mx (mx x4 (wrap64 (-x4))) (mx x5 (wrap64 (-x5)))) = x200001 then (if x3.length < 5864062014805 then (impl_Leaper_steps.l1 k (x3 ++ [(([x4, x5] : List Int))]) x4 (wrap64 (x5 + 1)) x200000 x200001) else (none)) else (impl_Leaper_steps.l1 k x3 x4 (wrap64 (x5 + 1)) x200000 x200001)) else (impl_Leaper_steps.l1 k x3 x4 (wrap64 (x5 + 1)) x200000 x200001)) else (impl_Leaper_steps.l0 k x3 (wrap64 (x4 + 1)) x200000 x200001)
end
def impl_Leaper_steps.f (k : Nat) (a0_0 : Int) (a0_1 : Int) : Option ((List (List Int))) := impl_Leaper_steps.l0 k ([] : List (List Int)) (-5) a0_0 a0_1
theorem impl_Leaper_steps.mono_l : ∀ k, (∀ y0 y1 y2 y3, LeO (impl_Leaper_steps.l0 k y0 y1 y2 y3) (impl_Leaper_steps.l0 (k + 1) y0 y1 y2 y3)) ∧ (∀ y0 y1 y2 y3 y4, LeO (impl_Leaper_steps.l1 k y0 y1 y2 y3 y4) (impl_Leaper_steps.l1 (k + 1) y0 y1 y2 y3 y4))
 | 0 => ⟨fun _ _ _ _ r h => by simp [impl_Leaper_steps.l0] at h, fun _ _ _ _ _ r h => by simp [impl_Leaper_steps.l1] at h⟩
 | k + 1 => by
  obtain ⟨ih0, ih1⟩ := impl_Leaper_steps.mono_l k
  refine ⟨?_, ?_⟩
  ·intro y0 y1 y2 y3
   unfold impl_Leaper_steps.l0
   repeat' first
   | (with_reducible exact ih0 _ _ _ _)
   | (with_reducible exact ih1 _ _ _ _ _)
   | (with_reducible exact LeO.refl _)
   | (with_reducible exact LeO.none _)
   | (with_reducible refine LeO.ite ?_ ?_)
   | (with_reducible refine LeO.bind ?_ (fun _ => ?_))
   | exact ih0 _ _ _ _
   | exact ih1 _ _ _ _ _
   | exact LeO.none _
   | refine LeO.ite ?_ ?_
   | refine LeO.bind ?_ (fun _ => ?_)
  ·intro y0 y1 y2 y3 y4
   unfold impl_Leaper_steps.l1
   repeat' first
   | (with_reducible exact ih0 _ _ _ _)
   | (with_reducible exact ih1 _ _ _ _ _)
   | (with_reducible exact LeO.refl _)
   | (with_reducible exact LeO.none _)
   | (with_reducible refine LeO.ite ?_ ?_)
   | (with_reducible refine LeO.bind ?_ (fun _ => ?_))
   | exact ih0 _ _ _ _
   | exact ih1 _ _ _ _ _
   | exact LeO.none _
   | refine LeO.ite ?_ ?_
   | refine LeO.bind ?_ (fun _ => ?_)
theorem impl_Leaper_steps.mono : ∀ a0 a1 k, LeO (impl_Leaper_steps.f k a0 a1) (impl_Leaper_steps.f (k + 1) a0 a1) := by
 intro a0 a1 k
 obtain ⟨ih0, ih1⟩ := impl_Leaper_steps.mono_l k
 unfold impl_Leaper_steps.f
 repeat' first
   | (with_reducible exact ih0 _ _ _ _)
   | (with_reducible exact ih1 _ _ _ _ _)
   | (with_reducible exact LeO.refl _)
   | (with_reducible exact LeO.none _)
   | (with_reducible refine LeO.ite ?_ ?_)
   | (with_reducible refine LeO.bind ?_ (fun _ => ?_))
   | exact ih0 _ _ _ _
   | exact ih1 _ _ _ _ _
   | exact LeO.none _
   | refine LeO.ite ?_ ?_
   | refine LeO.bind ?_ (fun _ => ?_)
set_option maxHeartbeats 8000000 in
set_option maxRecDepth 100000 in
theorem impl_Leaper_steps.calls (k : Nat) (a0_0 : Int) (a0_1 : Int) (r : List (List Int)) (w : World) (h : impl_Leaper_steps.f k a0_0 a0_1 = some r) :
  Calls Try.prog 58 #[.agg #[.int .i64 a0_0, .int .i64 a0_1]] w fun e w' => ∃ v0_ : Value, e = .returned (v0_) ∧ Kd.S (Kd.slice 3 (Kd.int .i64)) 22 w' w.heap.size (fun _ => True) v0_ r ∧ Below w.heap.size w w' := by
 have hu33 := Try.underlying33
 have HB := Aside0.mk (Below.refl w.heap.size w)
 have H : (impl_Leaper_steps.l0 k ([] : List (List Int)) (-5) a0_0 a0_1) = some r := h
 clear h
 have H' := Aside0.mk H
 clear H
 go_enter Try.func58, Try.ntmps58
 go_wp2_with (first | ((with_reducible refine gate_dst (N := 1) rfl ?_); (try (refine gate_guard (by rfl) ?_; dsimp only)); refine box_event ?hg (N := 1) ?hd (cs := #[.int .i64 a0_0, .int .i64 a0_1]) (t := 33) ?hr ?_; (case hd => rfl); (case hg => rfl); (case hr => first | (go_simp; done) | (go_simp; rfl)); intro gb199 hg w2 hbox hb; have n0_ := Aside0.mk (below_step ze2 hb); have n1_ := Aside0.mk (hbox); have n2_ := Aside0.mk ((ze8 : w.heap.size ≤ gb199)); have n3_ := Aside0.mk ((ze8 : w.heap.size ≤ gb199)); clear HB; have HB := n0_; have BK199 := n1_; have GW199 := n2_; have GE199 := n3_; clear n0_ n1_ n2_ n3_; clear hb hbox hg))
 go_loopg [3, 4] k (fun kq v3 v4 w' => ∃ (x3_1 : List (List Int)) (x4_1 : Int), v4 = .int .i64 x4_1 ∧ Aside0 (impl_Leaper_steps.l0 kq x3_1 x4_1 a0_0 a0_1 = some r) ∧ Aside0 (kq ≤ k) ∧ Aside0 (Kd.S (Kd.slice 3 (Kd.int .i64)) 22 w' w.heap.size (fun _ => True) v3 x3_1) ∧ Aside0 (w'.heap[gb199]? = some (.cells #[.int .i64 a0_0, .int .i64 a0_1] 33 (0, 0))) ∧ Aside0 (Below w.heap.size w w'))
 case atStart => exact ⟨(([] : List (List Int))), ((-5)), ze7, H', ⟨Nat.le_refl _⟩, ⟨by first | exact Kd.S_nil _ _ _ _ _ | exact Kd.N_nil _ _ _ _ _ | exact Kd.V_nil _ _ _ _ _ | exact Kd.Q_nil _ _ _ _ _ | exact Kd.R_nil _ _ _ _ _⟩, ⟨ze3⟩, ⟨ze1⟩⟩
 case round =>
  clear H'
  try clear p2
  obtain ⟨x3_1, x4_1, rfl, HA, HK1, HO_3, BK199, HB⟩ := hrel
  cases gk with
  | zero => exact absurd HA.out (by simp [impl_Leaper_steps.l0])
  | succ k1 =>
   have H := HA.out
   clear HA
   simp only [impl_Leaper_steps.l0] at H
   by_cases c3 : x4_1 ≤ 5
   rotate_left
   ·rw [if_neg c3] at H
    have c3b0 : decide (x4_1 ≤ 5) = false := decide_eq_false c3
    clear c3
    obtain rfl := Option.some.inj H
    go_wp2
    go_ret
    exact ⟨_, ze6, ze4, ze1⟩
   rw [if_pos c3] at H
   have c3b0 : decide (x4_1 ≤ 5) = true := decide_eq_true c3
   clear c3
   have H' := Aside0.mk H
   clear H
   go_wp2
   go_loopg [3, 5] k1 (fun kq v3 v5 w' => ∃ (x3_2 : List (List Int)) (x5_2 : Int), v5 = .int .i64 x5_2 ∧ Aside0 (impl_Leaper_steps.l1 kq x3_2 x4_1 x5_2 a0_0 a0_1 = some r) ∧ Aside0 (kq ≤ k1) ∧ Aside0 (Kd.S (Kd.slice 3 (Kd.int .i64)) 22 w' w.heap.size (fun _ => True) v3 x3_2) ∧ Aside0 (w'.heap[gb199]? = some (.cells #[.int .i64 a0_0, .int .i64 a0_1] 33 (0, 0))) ∧ Aside0 (Below w.heap.size w w'))
   case atStart => exact ⟨(x3_1), ((-5)), ze7, H', ⟨Nat.le_refl _⟩, ⟨ze4⟩, ⟨ze3⟩, ⟨ze1⟩⟩
   case round =>
    clear H'
    try clear p2; try clear c3; try clear c3b0; try clear p2
    obtain ⟨x3_2, x5_2, rfl, HA, HK2, HO_3, BK199, HB⟩ := hrel
    cases gk with
    | zero => exact absurd HA.out (by simp [impl_Leaper_steps.l1])
    | succ k2 =>
     have H := HA.out
     clear HA
     simp only [impl_Leaper_steps.l1] at H
     by_cases c4 : x5_2 ≤ 5
     rotate_left
     ·rw [if_neg c4] at H
      have c4b0 : decide (x5_2 ≤ 5) = false := decide_eq_false c4
      clear c4
      have H' := Aside0.mk H
      clear H
      go_wp2
      go_roundg k2
      case measure => have := HK1.out; have := HK2.out; omega
      case rel => exact ⟨(x3_2), (wrap64 (x4_1 + 1)), ze7, H', ⟨by have := HK1.out; have := HK2.out; omega⟩, ⟨ze4⟩, ⟨ze3⟩, ⟨ze1⟩⟩
     rw [if_pos c4] at H
     have c4b0 : decide (x5_2 ≤ 5) = true := decide_eq_true c4
     clear c4
     obtain ⟨ji5, hji5⟩ : ∃ j_ : Int, (mx x4_1 (wrap64 (-x4_1))) = j_ := ⟨_, rfl⟩
     replace H : (if (mn (ji5) (mx x5_2 (wrap64 (-x5_2)))) = a0_0 then (if (mx (ji5) (mx x5_2 (wrap64 (-x5_2)))) = a0_1 then (if x3_2.length < 5864062014805 then (impl_Leaper_steps.l1 k2 (x3_2 ++ [(([x4_1, x5_2] : List Int))]) x4_1 (wrap64 (x5_2 + 1)) a0_0 a0_1) else (none)) else (impl_Leaper_steps.l1 k2 x3_2 x4_1 (wrap64 (x5_2 + 1)) a0_0 a0_1)) else (impl_Leaper_steps.l1 k2 x3_2 x4_1 (wrap64 (x5_2 + 1)) a0_0 a0_1)) = some r := by first | (rw [hji5] at H; exact H) | (simp only [hji5] at H ⊢; exact H)
     have hji5_ : (if x4_1 < (wrap64 (-x4_1)) then (wrap64 (-x4_1)) else x4_1) = ji5 := hji5
     obtain ⟨ji6, hji6⟩ : ∃ j_ : Int, (mx x5_2 (wrap64 (-x5_2))) = j_ := ⟨_, rfl⟩
     replace H : (if (mn (ji5) (ji6)) = a0_0 then (if (mx (ji5) (ji6)) = a0_1 then (if x3_2.length < 5864062014805 then (impl_Leaper_steps.l1 k2 (x3_2 ++ [(([x4_1, x5_2] : List Int))]) x4_1 (wrap64 (x5_2 + 1)) a0_0 a0_1) else (none)) else (impl_Leaper_steps.l1 k2 x3_2 x4_1 (wrap64 (x5_2 + 1)) a0_0 a0_1)) else (impl_Leaper_steps.l1 k2 x3_2 x4_1 (wrap64 (x5_2 + 1)) a0_0 a0_1)) = some r := by first | (rw [hji6] at H; exact H) | (simp only [hji6] at H ⊢; exact H)
     have hji6_ : (if x5_2 < (wrap64 (-x5_2)) then (wrap64 (-x5_2)) else x5_2) = ji6 := hji6
     obtain ⟨ji7, hji7⟩ : ∃ j_ : Int, (mn (ji5) (ji6)) = j_ := ⟨_, rfl⟩
     replace H : (if (ji7) = a0_0 then (if (mx (ji5) (ji6)) = a0_1 then (if x3_2.length < 5864062014805 then (impl_Leaper_steps.l1 k2 (x3_2 ++ [(([x4_1, x5_2] : List Int))]) x4_1 (wrap64 (x5_2 + 1)) a0_0 a0_1) else (none)) else (impl_Leaper_steps.l1 k2 x3_2 x4_1 (wrap64 (x5_2 + 1)) a0_0 a0_1)) else (impl_Leaper_steps.l1 k2 x3_2 x4_1 (wrap64 (x5_2 + 1)) a0_0 a0_1)) = some r := by first | (rw [hji7] at H; exact H) | (simp only [hji7] at H ⊢; exact H)
     have hji7_ : (if (ji6) < (ji5) then (ji6) else (ji5)) = ji7 := hji7
     by_cases c8 : (ji7) = a0_0
     rotate_left
     ·rw [if_neg c8] at H
      have c8b0 : ((ji7) == a0_0) = false := beq_eq_false_iff_ne.mpr c8
      have c8b1 : ((ji7) != a0_0) = true := bne_iff_ne.mpr c8
      have H' := Aside0.mk H
      clear H
      have hcz18_0 : wr.cell? ⟨gb199, 0, none⟩ = some (.int .i64 a0_0) := (blk_cell BK199.out 0).trans rfl
      have hcz18_1 : wr.cell? ⟨gb199, 1, none⟩ = some (.int .i64 a0_1) := (blk_cell BK199.out 1).trans rfl
      have hfz18_0 := blk_frozen BK199.out 0
      have hfz18_1 := blk_frozen BK199.out 1
      go_wp2
      go_roundg k2
      case measure => have := HK1.out; have := HK2.out; omega
      case rel => exact ⟨(x3_2), (wrap64 (x5_2 + 1)), ze7, H', ⟨by have := HK1.out; have := HK2.out; omega⟩, ⟨ze4⟩, ⟨ze3⟩, ⟨ze1⟩⟩
     rw [if_pos c8] at H
     have c8b0 : ((ji7) == a0_0) = true := beq_iff_eq.mpr c8
     have c8b1 : ((ji7) != a0_0) = false := bne_eq_false_iff_eq.mpr c8
     clear c8
     obtain ⟨ji9, hji9⟩ : ∃ j_ : Int, (mx (ji5) (ji6)) = j_ := ⟨_, rfl⟩
     replace H : (if (ji9) = a0_1 then (if x3_2.length < 5864062014805 then (impl_Leaper_steps.l1 k2 (x3_2 ++ [(([x4_1, x5_2] : List Int))]) x4_1 (wrap64 (x5_2 + 1)) a0_0 a0_1) else (none)) else (impl_Leaper_steps.l1 k2 x3_2 x4_1 (wrap64 (x5_2 + 1)) a0_0 a0_1)) = some r := by first | (rw [hji9] at H; exact H) | (simp only [hji9] at H ⊢; exact H)
     have hji9_ : (if (ji5) < (ji6) then (ji6) else (ji5)) = ji9 := hji9
     by_cases c10 : (ji9) = a0_1
     rotate_left
     ·rw [if_neg c10] at H
      have c10b0 : ((ji9) == a0_1) = false := beq_eq_false_iff_ne.mpr c10
      have c10b1 : ((ji9) != a0_1) = true := bne_iff_ne.mpr c10
      have H' := Aside0.mk H
      clear H
      have hcz17_0 : wr.cell? ⟨gb199, 0, none⟩ = some (.int .i64 a0_0) := (blk_cell BK199.out 0).trans rfl
      have hcz17_1 : wr.cell? ⟨gb199, 1, none⟩ = some (.int .i64 a0_1) := (blk_cell BK199.out 1).trans rfl
      have hfz17_0 := blk_frozen BK199.out 0
      have hfz17_1 := blk_frozen BK199.out 1
      go_wp2
      go_roundg k2
      case measure => have := HK1.out; have := HK2.out; omega
      case rel => exact ⟨(x3_2), (wrap64 (x5_2 + 1)), ze7, H', ⟨by have := HK1.out; have := HK2.out; omega⟩, ⟨ze4⟩, ⟨ze3⟩, ⟨ze1⟩⟩
     rw [if_pos c10] at H
     have c10b0 : ((ji9) == a0_1) = true := beq_iff_eq.mpr c10
     have c10b1 : ((ji9) != a0_1) = false := bne_eq_false_iff_eq.mpr c10
     clear c10
     obtain ⟨y200, hy200⟩ : ∃ y_ : List Int, y_ = (([x4_1, x5_2] : List Int)) := ⟨_, rfl⟩
     replace H : (if x3_2.length < 5864062014805 then (impl_Leaper_steps.l1 k2 (x3_2 ++ [y200]) x4_1 (wrap64 (x5_2 + 1)) a0_0 a0_1) else (none)) = some r := by first | (rw [hy200]; with_reducible exact H) | (have H2_ := (Option.bind_some _ _).symm.trans H; rw [hy200]; with_reducible exact H2_) | (have H2_ := (Option.bind_some _ _).symm.trans H; with_reducible exact H2_) | with_reducible exact H | (rw [hy200]; exact H) | exact H
     have Ny200 := Aside0.mk hy200
     clear hy200
     by_cases c11 : x3_2.length < 5864062014805
     rotate_left
     ·rw [if_neg c11] at H
      exact absurd H (by simp)
     rw [if_pos c11] at H
     have LMc11 := Aside0.mk c11
     clear c11
     obtain ⟨y203, hy203⟩ : ∃ y_ : List (List Int), y_ = (x3_2 ++ [y200]) := ⟨_, rfl⟩
     replace H : (impl_Leaper_steps.l1 k2 y203 x4_1 (wrap64 (x5_2 + 1)) a0_0 a0_1) = some r := by first | (rw [hy203]; with_reducible exact H) | (have H2_ := (Option.bind_some _ _).symm.trans H; rw [hy203]; with_reducible exact H2_) | (have H2_ := (Option.bind_some _ _).symm.trans H; with_reducible exact H2_) | with_reducible exact H | (rw [hy203]; exact H) | exact H
     have Ny203 := Aside0.mk hy203
     clear hy203
     have H' := Aside0.mk H
     clear H
     have hcz12_0 : wr.cell? ⟨gb199, 0, none⟩ = some (.int .i64 a0_0) := (blk_cell BK199.out 0).trans rfl
     have hcz12_1 : wr.cell? ⟨gb199, 1, none⟩ = some (.int .i64 a0_1) := (blk_cell BK199.out 1).trans rfl
     have hfz12_0 := blk_frozen BK199.out 0
     have hfz12_1 := blk_frozen BK199.out 1
     go_wp2_with (first | ((with_reducible refine gate_dst (N := 41) rfl ?_); (try (refine gate_guard (by rfl) ?_; dsimp only)); refine Kd.R_lit (Kd.int .i64) _ 3 ?hg (N := 41) ?hd (xs := ([x4_1, x5_2] : List Int)) (inner := [.int .i64 x4_1, .int .i64 x5_2]) (ok := fun _ => True) (okp := fun _ => True) ?hr ?hp (fun _ hk => hk) trivial (Below.refl _ _) (Nat.le_refl _) (by simp) ?_; (case hd => rfl); (case hg => rfl); (case hr => first | (go_simp; done) | (go_simp; rfl)); (case hp => exact (Reps.one (show Kd.M (Kd.int .i64) _ _ _ x4_1 [.int .i64 x4_1] from rfl) (Reps.one (show Kd.M (Kd.int .i64) _ _ _ x5_2 [.int .i64 x5_2] from rfl) (Reps.none _ _)))); intro v201 w13 ho14 hb hg_ hnew_; clear hg_ hnew_; (first | rw [← Ny200.out] at ho14 | (simp only [Int.reduceToNat] at ho14; rw [← Ny200.out] at ho14)); have n0_ := Aside0.mk (Kd.S_elder' ze4 (Kd.R_base ho14) hb); have n1_ := Aside0.mk (Kd.R_lower ho14 (below_size ze1)); have n2_ := Aside0.mk (blk_below (g := gb199) (o := .cells #[.int .i64 a0_0, .int .i64 a0_1] 33 (0, 0)) ze3 hb); have n3_ := Aside0.mk (below_step ze1 hb); clear HO_3; clear BK199; clear HB; have HO_3 := n0_; have HO202 := n1_; have BK199 := n2_; have HB := n3_; clear n0_ n1_ n2_ n3_; clear hb ho14; obtain ⟨Ao16, co16, eo16⟩ := Kd.R_slice HO202.out; subst eo16) | ((with_reducible refine gate_builtin (b := .append) (xs := #[.tmp 38, .tmp 42]) rfl ?_); (try (refine gate_guard (by rfl) ?_; dsimp only)); at_builtin; refine Kd.S_append (Kd.slice 3 (Kd.int .i64)) (w0 := w) w.heap.size rfl (.tmp 38) (.tmp 42) 28 22 (.slice none 0 0) 24 rfl Try.underlying28 info22 rfl (by decide) (by omega) u3 x3_2 y200 [.slice Ao16 y200.length co16] (fun _ => True) (fun k_ => some k_ = (.slice Ao16 y200.length co16 : Value).ownBlock) rfl rfl ?aP (fun k_ hk_ => ((Kd.R_mono (ok' := fun k_ => ((fun _ => True)) k_ ∧ some k_ ≠ (u3 : Value).ownBlock) (Kd.R_apart' (HO202.out) (Kd.S_typed HO_3.out) (by decide)) (fun k_ hk => ⟨trivial, hk.2⟩))).1 k_ hk_.symm) ?aF ?aO ?aB ?aS ?aL ?_; (case aP => exact Kd.M_row (Kd.R_mono (Kd.R_tight rfl (Kd.R_mono (ok' := fun k_ => ((fun _ => True)) k_ ∧ some k_ ≠ (u3 : Value).ownBlock) (Kd.R_apart' (HO202.out) (Kd.S_typed HO_3.out) (by decide)) (fun k_ hk => ⟨trivial, hk.2⟩))) (fun _ h_ => h_))); (case aB => exact ze1); (case aF => exact (fun _ _ => trivial)); (case aO => exact (by (with_reducible repeat (first | apply Kd.S_alloc | apply Kd.S_drewN | apply Kd.S_drew)); exact Kd.S_mono HO_3.out (fun k_ hk => ⟨trivial, fun e_ => hk.2 e_⟩))); (case aS => exact (below_size ze1)); (case aL => have := LMc11.out; omega); intro v204 w15 ho hb hg hat; rw [← Ny203.out] at ho; have n0_ := Aside0.mk (blk_grown (g := gb199) (o := .cells #[.int .i64 a0_0, .int .i64 a0_1] 33 (0, 0)) ze3 hg (Kd.S_ne HO_3.out BK199.out (by decide))); have n1_ := Aside0.mk (hb); have n2_ := Aside0.mk (ho); clear BK199; clear HB; clear HO_3; clear HO202; have BK199 := n0_; have HB := n1_; have HO205 := n2_; clear n0_ n1_ n2_; clear ho hb hg hat))
     go_roundg k2
     case measure => have := HK1.out; have := HK2.out; omega
     case rel => exact ⟨(y203), (wrap64 (x5_2 + 1)), ze7, H', ⟨by have := HK1.out; have := HK2.out; omega⟩, ⟨by first | exact HO205.out | ((with_reducible repeat (first | apply Kd.S_alloc | apply Kd.S_drewN | apply Kd.S_drew)); exact HO205.out)⟩, ⟨ze3⟩, ⟨ze1⟩⟩

/-! ### impl_Board_has: function 59 -/
def impl_Board_has.f (k : Nat) (a0_0 : Int) (a0_1 : Int) (l0_2 : List Int) (a1 : Int) : Option (Bool) := if a1 ≥ 0 then (if a1 < (wrap64 (a0_0 * a0_1)) then ((slices_Contains_int_int.f k l0_2 a1).bind fun t207 => (some (!t207))) else (some false)) else (some false)
theorem impl_Board_has.mono : ∀ a0 a1 a2 a3 k, LeO (impl_Board_has.f k a0 a1 a2 a3) (impl_Board_has.f (k + 1) a0 a1 a2 a3) := by
 intro a0 a1 a2 a3 k
 unfold impl_Board_has.f
 repeat' first
   | (with_reducible exact slices_Contains_int_int.mono _ _ _)
   | (with_reducible exact LeO.refl _)
   | (with_reducible exact LeO.none _)
   | (with_reducible refine LeO.ite ?_ ?_)
   | (with_reducible refine LeO.bind ?_ (fun _ => ?_))
   | exact slices_Contains_int_int.mono _ _ _
   | exact LeO.none _
   | refine LeO.ite ?_ ?_
   | refine LeO.bind ?_ (fun _ => ?_)
set_option maxHeartbeats 8000000 in
set_option maxRecDepth 100000 in
theorem impl_Board_has.calls (k : Nat) (a0_0 : Int) (a0_1 : Int) (A0_2 : Option Addr) (c0_2 : Nat) (l0_2 : List Int) (a1 : Int) (r : Bool) (w : World) (hr0_2 : Kd.C (Kd.int .i64) w A0_2 l0_2.length l0_2) (hc0_2 : l0_2.length ≤ c0_2) (h : impl_Board_has.f k a0_0 a0_1 l0_2 a1 = some r) :
  Calls Try.prog 59 #[.agg #[.int .i64 a0_0, .int .i64 a0_1, .slice A0_2 l0_2.length c0_2], .int .i64 a1] w fun e w' => e = .returned (.bool r) ∧ Below w.heap.size w w' := by
 have hu31 := Try.underlying31
 have HR0_2 := Aside0.mk hr0_2
 have HC0_2 := Aside0.mk hc0_2
 clear hr0_2 hc0_2
 have HB := Aside0.mk (Below.refl w.heap.size w)
 have H : (if a1 ≥ 0 then (if a1 < (wrap64 (a0_0 * a0_1)) then ((slices_Contains_int_int.f k l0_2 a1).bind fun t207 => (some (!t207))) else (some false)) else (some false)) = some r := h
 clear h
 by_cases c3 : a1 ≥ 0
 rotate_left
 ·rw [if_neg c3] at H
  have c3b0 : decide (0 ≤ a1) = false := decide_eq_false c3
  clear c3
  obtain rfl := Option.some.inj H
  go_enter Try.func59, Try.ntmps59
  go_wp2_with (first | ((with_reducible refine gate_dst (N := 2) rfl ?_); refine box_event ?hg (N := 2) ?hd (cs := #[.int .i64 a0_0, .int .i64 a0_1, .slice A0_2 l0_2.length c0_2]) (t := 31) ?hr ?_; (case hd => rfl); (case hg => rfl); (case hr => first | (go_simp; done) | (go_simp; rfl)); intro gb206 hg w10 hbox hb; have n0_ := Aside0.mk (below_step ze2 hb); have n1_ := Aside0.mk (hbox); have n2_ := Aside0.mk ((ze8 : w.heap.size ≤ gb206)); have n3_ := Aside0.mk ((ze8 : w.heap.size ≤ gb206)); clear HB; have HB := n0_; have BK206 := n1_; have GW206 := n2_; have GE206 := n3_; clear n0_ n1_ n2_ n3_; clear hb hbox hg))
  go_ret
  exact ⟨ze6, ze5⟩
 rw [if_pos c3] at H
 have c3b0 : decide (0 ≤ a1) = true := decide_eq_true c3
 clear c3
 by_cases c4 : a1 < (wrap64 (a0_0 * a0_1))
 rotate_left
 ·rw [if_neg c4] at H
  have c4b0 : decide (a1 < (wrap64 (a0_0 * a0_1))) = false := decide_eq_false c4
  clear c4
  obtain rfl := Option.some.inj H
  go_enter Try.func59, Try.ntmps59
  go_wp2_with (first | ((with_reducible refine gate_dst (N := 2) rfl ?_); refine box_event ?hg (N := 2) ?hd (cs := #[.int .i64 a0_0, .int .i64 a0_1, .slice A0_2 l0_2.length c0_2]) (t := 31) ?hr ?_; (case hd => rfl); (case hg => rfl); (case hr => first | (go_simp; done) | (go_simp; rfl)); intro gb206 hg w8 hbox hb; have n0_ := Aside0.mk (below_step ze2 hb); have n1_ := Aside0.mk (hbox); have n2_ := Aside0.mk ((ze8 : w.heap.size ≤ gb206)); have n3_ := Aside0.mk ((ze8 : w.heap.size ≤ gb206)); clear HB; have HB := n0_; have BK206 := n1_; have GW206 := n2_; have GE206 := n3_; clear n0_ n1_ n2_ n3_; clear hb hbox hg; have hcz9_0 : w8.cell? ⟨gb206, 0, none⟩ = some (.int .i64 a0_0) := (blk_cell BK206.out 0).trans rfl; have hcz9_1 : w8.cell? ⟨gb206, 1, none⟩ = some (.int .i64 a0_1) := (blk_cell BK206.out 1).trans rfl; have hcz9_2 : w8.cell? ⟨gb206, 2, none⟩ = some (.slice A0_2 l0_2.length c0_2) := (blk_cell BK206.out 2).trans rfl; have hfz9_0 := blk_frozen BK206.out 0; have hfz9_1 := blk_frozen BK206.out 1; have hfz9_2 := blk_frozen BK206.out 2))
  go_ret
  exact ⟨ze6, ze5⟩
 rw [if_pos c4] at H
 have c4b0 : decide (a1 < (wrap64 (a0_0 * a0_1))) = true := decide_eq_true c4
 clear c4
 replace H := Option.bind_eq_some_iff.mp H
 obtain ⟨t207, A50, H⟩ := H
 replace H : (some (!t207)) = some r := H
 have A5 := Aside0.mk A50
 clear A50
 obtain rfl := Option.some.inj H
 go_enter Try.func59, Try.ntmps59
 go_wp2_with (first | ((with_reducible refine gate_dst (N := 2) rfl ?_); refine box_event ?hg (N := 2) ?hd (cs := #[.int .i64 a0_0, .int .i64 a0_1, .slice A0_2 l0_2.length c0_2]) (t := 31) ?hr ?_; (case hd => rfl); (case hg => rfl); (case hr => first | (go_simp; done) | (go_simp; rfl)); intro gb206 hg w6 hbox hb; have n0_ := Aside0.mk (below_step ze2 hb); have n1_ := Aside0.mk (hbox); have n2_ := Aside0.mk ((ze8 : w.heap.size ≤ gb206)); have n3_ := Aside0.mk ((ze8 : w.heap.size ≤ gb206)); clear HB; have HB := n0_; have BK206 := n1_; have GW206 := n2_; have GE206 := n3_; clear n0_ n1_ n2_ n3_; clear hb hbox hg; have hcz7_0 : w6.cell? ⟨gb206, 0, none⟩ = some (.int .i64 a0_0) := (blk_cell BK206.out 0).trans rfl; have hcz7_1 : w6.cell? ⟨gb206, 1, none⟩ = some (.int .i64 a0_1) := (blk_cell BK206.out 1).trans rfl; have hcz7_2 : w6.cell? ⟨gb206, 2, none⟩ = some (.slice A0_2 l0_2.length c0_2) := (blk_cell BK206.out 2).trans rfl; have hfz7_0 := blk_frozen BK206.out 0; have hfz7_1 := blk_frozen BK206.out 1; have hfz7_2 := blk_frozen BK206.out 2) | (go_at_call 41; (with_reducible refine (slices_Contains_int_int.calls k _ _ l0_2 a1 t207 _ ?side1 ?side2 A5.out).mono ?_); (case side1 => repeat (first | exact (Kd.C_below HR0_2.out HB.out) | (with_reducible refine Kd.C_alloc ?_ _) | (with_reducible refine Kd.C_drewN ?_ _) | (with_reducible refine Kd.C_drew ?_))); (case side2 => exact HC0_2.out); rintro e w' ⟨rfl, ⟨nd, rfl⟩⟩))
 go_ret
 exact ⟨ze6, ze5⟩

end Go.Proofs.Ytemaokhlolimhaa.Q

/- Written by a program of this session: functions of the translation as plain Lean functions, each with a proof that the call does what the plain function says; the conditions stand in each theorem. -/
import Derived.Test.YtbecdckdbeoomaaQ0
import Derived.Test.YtbecdckdbeoomaaQ1
namespace Go.Proofs.Ytbecdckdbeoomaa.Q
open Go.RowKit Go.Proofs.YtbecdckdbeoomaaW.PrintWords Go.Proofs.YtbecdckdbeoomaaW.PrintLast Go.Proofs.YtbecdckdbeoomaaW.PrintMore
attribute [local go_sem] max2_int min2_int max_two min_two max_three min_three max_four min_four   -- for this text's walks alone
set_option linter.unusedVariables false
set_option linter.unusedSimpArgs false

theorem zj1 {p : Prop} (h : p := by repeat (first | (with_reducible first | exact HB.out | apply below_alloc | apply pw_below_drewN | apply below_drew1 | refine below_set ?_ GE145.out) | exact HB.out)) : p := h
theorem zj2 {p : Prop} (h : p := by (try simp only [List.map_toArray, List.map_cons, List.map_nil]); first | done | rfl | (simp only [List.length_drop, List.length_take]; rfl)) : p := h
theorem zj3 {p : Prop} (h : p := by first | exact BK145.out | ((with_reducible repeat (first | refine blk_drewN ?_ _ | refine blk_drew ?_ | refine blk_alloc ?_ _)); exact BK145.out)) : p := h
theorem zj4 {p : Prop} (h : p := by first | exact HO_3.out | ((with_reducible repeat (first | apply Kd.S_alloc | apply Kd.S_drewN | apply Kd.S_drew)); exact HO_3.out)) : p := h
theorem zj5 {p : Prop} (h : p := by first | rfl | (simp; done) | (simp [*]; done)) : p := h
theorem zj6 {p : Prop} (h : p := by (with_reducible repeat (first | apply Kd.S_alloc | apply Kd.S_drewN | apply Kd.S_drew)); exact Kd.S_mono HO_3.out (fun k_ hk => ⟨trivial, fun e_ => hk.2 e_⟩)) : p := h
theorem zj7 {p : Prop} (h : p := by repeat (first | (with_reducible first | exact HB.out | apply below_alloc | apply pw_below_drewN | apply below_drew1) | exact HB.out)) : p := h
theorem zj8 {p : Prop} (h : p := by have := HK1.out; have := HK2.out; omega) : p := h
/-! ### spec_boSteps: function 41 -/
mutual
def spec_boSteps.l0 : Nat → List (List Int) → Int → Int → Int → Option ((List (List Int)))
 | 0, _, _, _, _ => none
 | k + 1, x3, x4, x146000, x146001 => if x4 ≤ x146001 then (spec_boSteps.l1 k x3 x4 (wrap64 (-x146001)) x146000 x146001) else (some x3)
def spec_boSteps.l1 : Nat → List (List Int) → Int → Int → Int → Int → Option ((List (List Int)))
 | 0, _, _, _, _, _ => none
 | k + 1, x3, x4, x5, x146000, x146001 => if x5 ≤ x146001 then ((spec_l1Abs.f x4).bind fun t146 => ((spec_l1Abs.f x5).bind fun t147 => (if t146 = x146000 then (if t147 = x146001 then (if x3.length < 5864062014805 then (spec_boSteps.l1 k (x3 ++ [(([x4, x5] : List Int))]) x4 (wrap64 (x5 + 1)) x146000 x146001) else (none)) else (if t146 = x146001 then (if t147 = x146000 then (if x3.length < 5864062014805 then (spec_boSteps.l1 k (x3 ++ [(([x4, x5] : List Int))]) x4 (wrap64 (x5 + 1)) x146000 x146001) else (none)) else (spec_boSteps.l1 k x3 x4 (wrap64 (x5 + 1)) x146000 x146001)) else (spec_boSteps.l1 k x3 x4 (wrap64 (x5 + 1)) x146000 x146001))) else (if t146 = x146001 then (if t147 = x146000 then (if x3.length < 5864062014805 then (spec_boSteps.l1 k (x3 ++ [(([x4, x5] : List Int))]) x4 (wrap64 (x5 + 1)) x146000 x146001) else (none)) else (spec_boSteps.l1 k x3 x4 (wrap64 (x5 + 1)) x146000 x146001)) else (spec_boSteps.l1 k x3 x4 (wrap64 (x5 + 1)) x146000 x146001))))) else (spec_boSteps.l0 k x3 (wrap64 (x4 + 1)) x146000 x146001)
end
def spec_boSteps.f (k : Nat) (a0_0 : Int) (a0_1 : Int) : Option ((List (List Int))) := spec_boSteps.l0 k ([] : List (List Int)) (wrap64 (-a0_1)) a0_0 a0_1
set_option maxHeartbeats 8000000 in
set_option maxRecDepth 100000 in
theorem spec_boSteps.calls (k : Nat) (a0_0 : Int) (a0_1 : Int) (r : List (List Int)) (w : World) (h : spec_boSteps.f k a0_0 a0_1 = some r) :
  Calls Try.prog 41 #[.agg #[.int .i64 a0_0, .int .i64 a0_1]] w fun e w' => ∃ v0_ : Value, e = .returned (v0_) ∧ Kd.S (Kd.slice 3 (Kd.int .i64)) 22 w' w.heap.size (fun _ => True) v0_ r ∧ Below w.heap.size w w' := by
 have hu32 := Try.underlying32
 have HB := Aside0.mk (Below.refl w.heap.size w)
 have H : (spec_boSteps.l0 k ([] : List (List Int)) (wrap64 (-a0_1)) a0_0 a0_1) = some r := h
 clear h
 have H' := Aside0.mk H
 clear H
 go_enter Try.func41, Try.ntmps41
 go_wp2_with (first | ((with_reducible refine gate_dst (N := 1) rfl ?_); refine box_event ?hg (N := 1) ?hd (cs := #[.int .i64 a0_0, .int .i64 a0_1]) (t := 32) ?hr ?_; (case hd => rfl); (case hg => rfl); (case hr => first | (go_simp; done) | (go_simp; rfl)); intro gb145 hg w2 hbox hb; have n0_ := Aside0.mk (below_step zj7 hb); have n1_ := Aside0.mk (hbox); have n2_ := Aside0.mk ((by rw [hg]; exact (below_size zj7) : w.heap.size ≤ gb145)); have n3_ := Aside0.mk ((by rw [hg]; exact (below_size zj7) : w.heap.size ≤ gb145)); clear HB; have HB := n0_; have BK145 := n1_; have GW145 := n2_; have GE145 := n3_; clear n0_ n1_ n2_ n3_; clear hb hbox hg; have hcz3_0 : w2.cell? ⟨gb145, 0, none⟩ = some (.int .i64 a0_0) := (blk_cell BK145.out 0).trans rfl; have hcz3_1 : w2.cell? ⟨gb145, 1, none⟩ = some (.int .i64 a0_1) := (blk_cell BK145.out 1).trans rfl; have hfz3_0 := blk_frozen BK145.out 0; have hfz3_1 := blk_frozen BK145.out 1))
 go_loopg [3, 4] k (fun kq v3 v4 w' => ∃ (x3_1 : List (List Int)) (x4_1 : Int), v4 = .int .i64 x4_1 ∧ Aside0 (spec_boSteps.l0 kq x3_1 x4_1 a0_0 a0_1 = some r) ∧ Aside0 (kq ≤ k) ∧ Aside0 (Kd.S (Kd.slice 3 (Kd.int .i64)) 22 w' w.heap.size (fun _ => True) v3 x3_1) ∧ Aside0 (w'.heap[gb145]? = some (.cells #[.int .i64 a0_0, .int .i64 a0_1] 32 (0, 0))) ∧ Aside0 (Below w.heap.size w w'))
 case atStart => exact ⟨(([] : List (List Int))), (wrap64 (-a0_1)), zj5, H', ⟨Nat.le_refl _⟩, ⟨by first | exact Kd.S_nil _ _ _ _ _ | exact Kd.N_nil _ _ _ _ _ | exact Kd.V_nil _ _ _ _ _ | exact Kd.Q_nil _ _ _ _ _ | exact Kd.R_nil _ _ _ _ _⟩, ⟨zj3⟩, ⟨zj1⟩⟩
 case round =>
  clear H'
  try clear p2; try clear hcz3_0; try clear hcz3_1; try clear hfz3_0; try clear hfz3_1
  obtain ⟨x3_1, x4_1, rfl, HA, HK1, HO_3, BK145, HB⟩ := hrel
  cases gk with
  | zero => exact absurd HA.out (by simp [spec_boSteps.l0])
  | succ k1 =>
   have H := HA.out
   clear HA
   simp only [spec_boSteps.l0] at H
   by_cases c4 : x4_1 ≤ a0_1
   rotate_left
   ·rw [if_neg c4] at H
    have c4b0 : decide (x4_1 ≤ a0_1) = false := decide_eq_false c4
    clear c4
    obtain rfl := Option.some.inj H
    have hcz38_0 : wr.cell? ⟨gb145, 0, none⟩ = some (.int .i64 a0_0) := (blk_cell BK145.out 0).trans rfl
    have hcz38_1 : wr.cell? ⟨gb145, 1, none⟩ = some (.int .i64 a0_1) := (blk_cell BK145.out 1).trans rfl
    have hfz38_0 := blk_frozen BK145.out 0
    have hfz38_1 := blk_frozen BK145.out 1
    go_wp2
    go_ret
    exact ⟨_, by first | rfl | (simp [errW_none, errW_some] <;> rfl) | (simp [*, errW_none, errW_some] <;> rfl), zj4, zj1⟩
   rw [if_pos c4] at H
   have c4b0 : decide (x4_1 ≤ a0_1) = true := decide_eq_true c4
   clear c4
   have H' := Aside0.mk H
   clear H
   have hcz5_0 : wr.cell? ⟨gb145, 0, none⟩ = some (.int .i64 a0_0) := (blk_cell BK145.out 0).trans rfl
   have hcz5_1 : wr.cell? ⟨gb145, 1, none⟩ = some (.int .i64 a0_1) := (blk_cell BK145.out 1).trans rfl
   have hfz5_0 := blk_frozen BK145.out 0
   have hfz5_1 := blk_frozen BK145.out 1
   go_wp2
   go_loopg [3, 5] k1 (fun kq v3 v5 w' => ∃ (x3_2 : List (List Int)) (x5_2 : Int), v5 = .int .i64 x5_2 ∧ Aside0 (spec_boSteps.l1 kq x3_2 x4_1 x5_2 a0_0 a0_1 = some r) ∧ Aside0 (kq ≤ k1) ∧ Aside0 (Kd.S (Kd.slice 3 (Kd.int .i64)) 22 w' w.heap.size (fun _ => True) v3 x3_2) ∧ Aside0 (w'.heap[gb145]? = some (.cells #[.int .i64 a0_0, .int .i64 a0_1] 32 (0, 0))) ∧ Aside0 (Below w.heap.size w w'))
   case atStart => exact ⟨(x3_1), (wrap64 (-a0_1)), zj5, H', ⟨Nat.le_refl _⟩, ⟨zj4⟩, ⟨zj3⟩, ⟨zj1⟩⟩
   case round =>
    clear H'
    try clear p2; try clear c4; try clear c4b0; try clear hcz3_0; try clear hcz3_1; try clear hcz5_0; try clear hcz5_1; try clear hfz3_0; try clear hfz3_1; try clear hfz5_0; try clear hfz5_1; try clear p2
    obtain ⟨x3_2, x5_2, rfl, HA, HK2, HO_3, BK145, HB⟩ := hrel
    cases gk with
    | zero => exact absurd HA.out (by simp [spec_boSteps.l1])
    | succ k2 =>
     have H := HA.out
     clear HA
     simp only [spec_boSteps.l1] at H
     by_cases c6 : x5_2 ≤ a0_1
     rotate_left
     ·rw [if_neg c6] at H
      have c6b0 : decide (x5_2 ≤ a0_1) = false := decide_eq_false c6
      clear c6
      have H' := Aside0.mk H
      clear H
      have hcz37_0 : wr.cell? ⟨gb145, 0, none⟩ = some (.int .i64 a0_0) := (blk_cell BK145.out 0).trans rfl
      have hcz37_1 : wr.cell? ⟨gb145, 1, none⟩ = some (.int .i64 a0_1) := (blk_cell BK145.out 1).trans rfl
      have hfz37_0 := blk_frozen BK145.out 0
      have hfz37_1 := blk_frozen BK145.out 1
      go_wp2
      go_roundg k2
      case measure => have := HK1.out; have := HK2.out; omega
      case rel => exact ⟨(x3_2), (wrap64 (x4_1 + 1)), zj5, H', ⟨zj8⟩, ⟨zj4⟩, ⟨zj3⟩, ⟨zj1⟩⟩
     rw [if_pos c6] at H
     have c6b0 : decide (x5_2 ≤ a0_1) = true := decide_eq_true c6
     clear c6
     replace H := Option.bind_eq_some_iff.mp H
     obtain ⟨t146, A70, H⟩ := H
     replace H : ((spec_l1Abs.f x5_2).bind fun t147 => (if t146 = a0_0 then (if t147 = a0_1 then (if x3_2.length < 5864062014805 then (spec_boSteps.l1 k2 (x3_2 ++ [(([x4_1, x5_2] : List Int))]) x4_1 (wrap64 (x5_2 + 1)) a0_0 a0_1) else (none)) else (if t146 = a0_1 then (if t147 = a0_0 then (if x3_2.length < 5864062014805 then (spec_boSteps.l1 k2 (x3_2 ++ [(([x4_1, x5_2] : List Int))]) x4_1 (wrap64 (x5_2 + 1)) a0_0 a0_1) else (none)) else (spec_boSteps.l1 k2 x3_2 x4_1 (wrap64 (x5_2 + 1)) a0_0 a0_1)) else (spec_boSteps.l1 k2 x3_2 x4_1 (wrap64 (x5_2 + 1)) a0_0 a0_1))) else (if t146 = a0_1 then (if t147 = a0_0 then (if x3_2.length < 5864062014805 then (spec_boSteps.l1 k2 (x3_2 ++ [(([x4_1, x5_2] : List Int))]) x4_1 (wrap64 (x5_2 + 1)) a0_0 a0_1) else (none)) else (spec_boSteps.l1 k2 x3_2 x4_1 (wrap64 (x5_2 + 1)) a0_0 a0_1)) else (spec_boSteps.l1 k2 x3_2 x4_1 (wrap64 (x5_2 + 1)) a0_0 a0_1)))) = some r := H
     have A7 := Aside0.mk A70
     clear A70
     replace H := Option.bind_eq_some_iff.mp H
     obtain ⟨t147, A80, H⟩ := H
     replace H : (if t146 = a0_0 then (if t147 = a0_1 then (if x3_2.length < 5864062014805 then (spec_boSteps.l1 k2 (x3_2 ++ [(([x4_1, x5_2] : List Int))]) x4_1 (wrap64 (x5_2 + 1)) a0_0 a0_1) else (none)) else (if t146 = a0_1 then (if t147 = a0_0 then (if x3_2.length < 5864062014805 then (spec_boSteps.l1 k2 (x3_2 ++ [(([x4_1, x5_2] : List Int))]) x4_1 (wrap64 (x5_2 + 1)) a0_0 a0_1) else (none)) else (spec_boSteps.l1 k2 x3_2 x4_1 (wrap64 (x5_2 + 1)) a0_0 a0_1)) else (spec_boSteps.l1 k2 x3_2 x4_1 (wrap64 (x5_2 + 1)) a0_0 a0_1))) else (if t146 = a0_1 then (if t147 = a0_0 then (if x3_2.length < 5864062014805 then (spec_boSteps.l1 k2 (x3_2 ++ [(([x4_1, x5_2] : List Int))]) x4_1 (wrap64 (x5_2 + 1)) a0_0 a0_1) else (none)) else (spec_boSteps.l1 k2 x3_2 x4_1 (wrap64 (x5_2 + 1)) a0_0 a0_1)) else (spec_boSteps.l1 k2 x3_2 x4_1 (wrap64 (x5_2 + 1)) a0_0 a0_1))) = some r := H
     have A8 := Aside0.mk A80
     clear A80
     by_cases c9 : t146 = a0_0
     rotate_left
     ·rw [if_neg c9] at H
      have c9b0 : (t146 == a0_0) = false := beq_eq_false_iff_ne.mpr c9
      have c9b1 : (t146 != a0_0) = true := bne_iff_ne.mpr c9
      by_cases c27 : t146 = a0_1
      rotate_left
      ·rw [if_neg c27] at H
       have c27b0 : (t146 == a0_1) = false := beq_eq_false_iff_ne.mpr c27
       have c27b1 : (t146 != a0_1) = true := bne_iff_ne.mpr c27
       have H' := Aside0.mk H
       clear H
       have hcz36_0 : wr.cell? ⟨gb145, 0, none⟩ = some (.int .i64 a0_0) := (blk_cell BK145.out 0).trans rfl
       have hcz36_1 : wr.cell? ⟨gb145, 1, none⟩ = some (.int .i64 a0_1) := (blk_cell BK145.out 1).trans rfl
       have hfz36_0 := blk_frozen BK145.out 0
       have hfz36_1 := blk_frozen BK145.out 1
       go_wp2_with (first | ((with_reducible refine gate_callee (f := 79) rfl ?_); refine goesL_ (some 27) rfl rfl Try.func79 (by kernel_rfl) rfl #[.int .i64 x4_1] rfl zj2 ?_; (with_reducible refine (spec_l1Abs.calls x4_1 t146 _ A7.out).mono ?_); rintro e w' ⟨rfl, ⟨nd, rfl⟩⟩; refine ⟨_, rfl, ?_⟩) | ((with_reducible refine gate_callee (f := 79) rfl ?_); refine goesL_ (some 29) rfl rfl Try.func79 (by kernel_rfl) rfl #[.int .i64 x5_2] rfl zj2 ?_; (with_reducible refine (spec_l1Abs.calls x5_2 t147 _ A8.out).mono ?_); rintro e w' ⟨rfl, ⟨nd, rfl⟩⟩; refine ⟨_, rfl, ?_⟩))
       go_roundg k2
       case measure => have := HK1.out; have := HK2.out; omega
       case rel => exact ⟨(x3_2), (wrap64 (x5_2 + 1)), zj5, H', ⟨zj8⟩, ⟨zj4⟩, ⟨zj3⟩, ⟨zj1⟩⟩
      rw [if_pos c27] at H
      have c27b0 : (t146 == a0_1) = true := beq_iff_eq.mpr c27
      have c27b1 : (t146 != a0_1) = false := bne_eq_false_iff_eq.mpr c27
      clear c27
      by_cases c28 : t147 = a0_0
      rotate_left
      ·rw [if_neg c28] at H
       have c28b0 : (t147 == a0_0) = false := beq_eq_false_iff_ne.mpr c28
       have c28b1 : (t147 != a0_0) = true := bne_iff_ne.mpr c28
       have H' := Aside0.mk H
       clear H
       have hcz35_0 : wr.cell? ⟨gb145, 0, none⟩ = some (.int .i64 a0_0) := (blk_cell BK145.out 0).trans rfl
       have hcz35_1 : wr.cell? ⟨gb145, 1, none⟩ = some (.int .i64 a0_1) := (blk_cell BK145.out 1).trans rfl
       have hfz35_0 := blk_frozen BK145.out 0
       have hfz35_1 := blk_frozen BK145.out 1
       go_wp2_with (first | ((with_reducible refine gate_callee (f := 79) rfl ?_); refine goesL_ (some 27) rfl rfl Try.func79 (by kernel_rfl) rfl #[.int .i64 x4_1] rfl zj2 ?_; (with_reducible refine (spec_l1Abs.calls x4_1 t146 _ A7.out).mono ?_); rintro e w' ⟨rfl, ⟨nd, rfl⟩⟩; refine ⟨_, rfl, ?_⟩) | ((with_reducible refine gate_callee (f := 79) rfl ?_); refine goesL_ (some 29) rfl rfl Try.func79 (by kernel_rfl) rfl #[.int .i64 x5_2] rfl zj2 ?_; (with_reducible refine (spec_l1Abs.calls x5_2 t147 _ A8.out).mono ?_); rintro e w' ⟨rfl, ⟨nd, rfl⟩⟩; refine ⟨_, rfl, ?_⟩))
       go_roundg k2
       case measure => have := HK1.out; have := HK2.out; omega
       case rel => exact ⟨(x3_2), (wrap64 (x5_2 + 1)), zj5, H', ⟨zj8⟩, ⟨zj4⟩, ⟨zj3⟩, ⟨zj1⟩⟩
      rw [if_pos c28] at H
      have c28b0 : (t147 == a0_0) = true := beq_iff_eq.mpr c28
      have c28b1 : (t147 != a0_0) = false := bne_eq_false_iff_eq.mpr c28
      clear c28
      obtain ⟨y160, hy160⟩ : ∃ y_ : List Int, y_ = (([x4_1, x5_2] : List Int)) := ⟨_, rfl⟩
      replace H : (if x3_2.length < 5864062014805 then (spec_boSteps.l1 k2 (x3_2 ++ [y160]) x4_1 (wrap64 (x5_2 + 1)) a0_0 a0_1) else (none)) = some r := by first | (rw [hy160]; with_reducible exact H) | (have H2_ := (Option.bind_some _ _).symm.trans H; rw [hy160]; with_reducible exact H2_) | (have H2_ := (Option.bind_some _ _).symm.trans H; with_reducible exact H2_) | with_reducible exact H | (rw [hy160]; exact H) | exact H
      have Ny160 := Aside0.mk hy160
      clear hy160
      by_cases c29 : x3_2.length < 5864062014805
      rotate_left
      ·rw [if_neg c29] at H
       exact absurd H (by simp)
      rw [if_pos c29] at H
      have LMc29 := Aside0.mk c29
      clear c29
      obtain ⟨y163, hy163⟩ : ∃ y_ : List (List Int), y_ = (x3_2 ++ [y160]) := ⟨_, rfl⟩
      replace H : (spec_boSteps.l1 k2 y163 x4_1 (wrap64 (x5_2 + 1)) a0_0 a0_1) = some r := by first | (rw [hy163]; with_reducible exact H) | (have H2_ := (Option.bind_some _ _).symm.trans H; rw [hy163]; with_reducible exact H2_) | (have H2_ := (Option.bind_some _ _).symm.trans H; with_reducible exact H2_) | with_reducible exact H | (rw [hy163]; exact H) | exact H
      have Ny163 := Aside0.mk hy163
      clear hy163
      have H' := Aside0.mk H
      clear H
      have hcz30_0 : wr.cell? ⟨gb145, 0, none⟩ = some (.int .i64 a0_0) := (blk_cell BK145.out 0).trans rfl
      have hcz30_1 : wr.cell? ⟨gb145, 1, none⟩ = some (.int .i64 a0_1) := (blk_cell BK145.out 1).trans rfl
      have hfz30_0 := blk_frozen BK145.out 0
      have hfz30_1 := blk_frozen BK145.out 1
      go_wp2_with (first | ((with_reducible refine gate_callee (f := 79) rfl ?_); refine goesL_ (some 27) rfl rfl Try.func79 (by kernel_rfl) rfl #[.int .i64 x4_1] rfl zj2 ?_; (with_reducible refine (spec_l1Abs.calls x4_1 t146 _ A7.out).mono ?_); rintro e w' ⟨rfl, ⟨nd, rfl⟩⟩; refine ⟨_, rfl, ?_⟩) | ((with_reducible refine gate_callee (f := 79) rfl ?_); refine goesL_ (some 29) rfl rfl Try.func79 (by kernel_rfl) rfl #[.int .i64 x5_2] rfl zj2 ?_; (with_reducible refine (spec_l1Abs.calls x5_2 t147 _ A8.out).mono ?_); rintro e w' ⟨rfl, ⟨nd, rfl⟩⟩; refine ⟨_, rfl, ?_⟩) | ((with_reducible refine gate_dst (N := 55) rfl ?_); refine Kd.R_lit (Kd.int .i64) _ 3 ?hg (N := 55) ?hd (xs := ([x4_1, x5_2] : List Int)) (inner := [.int .i64 x4_1, .int .i64 x5_2]) (ok := fun _ => True) (okp := fun _ => True) ?hr ?hp (fun _ hk => hk) trivial (Below.refl _ _) (Nat.le_refl _) (by simp) ?_; (case hd => rfl); (case hg => rfl); (case hr => first | (go_simp; done) | (go_simp; rfl)); (case hp => exact (Reps.one (show Kd.M (Kd.int .i64) _ _ _ x4_1 [.int .i64 x4_1] from rfl) (Reps.one (show Kd.M (Kd.int .i64) _ _ _ x5_2 [.int .i64 x5_2] from rfl) (Reps.none _ _)))); intro v161 w31 ho32 hb hg_ hnew_; clear hg_ hnew_; (first | rw [← Ny160.out] at ho32 | (simp only [Int.reduceToNat] at ho32; rw [← Ny160.out] at ho32)); have n0_ := Aside0.mk (Kd.S_elder' zj4 (Kd.R_base ho32) hb); have n1_ := Aside0.mk (Kd.R_lower ho32 (below_size zj1)); have n2_ := Aside0.mk (blk_below (g := gb145) (o := .cells #[.int .i64 a0_0, .int .i64 a0_1] 32 (0, 0)) zj3 hb); have n3_ := Aside0.mk (below_step zj1 hb); clear HO_3; clear BK145; clear HB; have HO_3 := n0_; have HO162 := n1_; have BK145 := n2_; have HB := n3_; clear n0_ n1_ n2_ n3_; clear hb ho32; obtain ⟨Ao34, co34, eo34⟩ := Kd.R_slice HO162.out; subst eo34) | ((with_reducible refine gate_builtin (b := .append) (xs := #[.tmp 52, .tmp 56]) rfl ?_); at_builtin; refine Kd.S_append (Kd.slice 3 (Kd.int .i64)) (w0 := w) w.heap.size rfl (.tmp 52) (.tmp 56) 53 22 (.slice none 0 0) 24 rfl Try.underlying53 info22 rfl (by decide) (by omega) u3 x3_2 y160 [.slice Ao34 y160.length co34] (fun _ => True) (fun k_ => some k_ = (.slice Ao34 y160.length co34 : Value).ownBlock) rfl rfl ?aP (fun k_ hk_ => ((Kd.R_mono (ok' := fun k_ => ((fun _ => True)) k_ ∧ some k_ ≠ (u3 : Value).ownBlock) (Kd.R_apart' (HO162.out) (Kd.S_typed HO_3.out) (by decide)) (fun k_ hk => ⟨trivial, hk.2⟩))).1 k_ hk_.symm) ?aF ?aO ?aB ?aS ?aL ?_; (case aP => exact Kd.M_row (Kd.R_mono (Kd.R_tight rfl (Kd.R_mono (ok' := fun k_ => ((fun _ => True)) k_ ∧ some k_ ≠ (u3 : Value).ownBlock) (Kd.R_apart' (HO162.out) (Kd.S_typed HO_3.out) (by decide)) (fun k_ hk => ⟨trivial, hk.2⟩))) (fun _ h_ => h_))); (case aB => exact zj1); (case aF => exact (fun _ _ => trivial)); (case aO => exact zj6); (case aS => exact (below_size zj1)); (case aL => have := LMc29.out; omega); intro v164 w33 ho hb hg hat; rw [← Ny163.out] at ho; have n0_ := Aside0.mk (blk_grown (g := gb145) (o := .cells #[.int .i64 a0_0, .int .i64 a0_1] 32 (0, 0)) zj3 hg (Kd.S_ne HO_3.out BK145.out (by decide))); have n1_ := Aside0.mk (hb); have n2_ := Aside0.mk (ho); clear BK145; clear HB; clear HO_3; clear HO162; have BK145 := n0_; have HB := n1_; have HO165 := n2_; clear n0_ n1_ n2_; clear ho hb hg hat))
      go_roundg k2
      case measure => have := HK1.out; have := HK2.out; omega
      case rel => exact ⟨(y163), (wrap64 (x5_2 + 1)), zj5, H', ⟨zj8⟩, ⟨by first | exact HO165.out | ((with_reducible repeat (first | apply Kd.S_alloc | apply Kd.S_drewN | apply Kd.S_drew)); exact HO165.out)⟩, ⟨zj3⟩, ⟨zj1⟩⟩
     rw [if_pos c9] at H
     have c9b0 : (t146 == a0_0) = true := beq_iff_eq.mpr c9
     have c9b1 : (t146 != a0_0) = false := bne_eq_false_iff_eq.mpr c9
     clear c9
     by_cases c10 : t147 = a0_1
     ·rw [if_pos c10] at H
      have c10b0 : (t147 == a0_1) = true := beq_iff_eq.mpr c10
      have c10b1 : (t147 != a0_1) = false := bne_eq_false_iff_eq.mpr c10
      clear c10
      obtain ⟨y148, hy148⟩ : ∃ y_ : List Int, y_ = (([x4_1, x5_2] : List Int)) := ⟨_, rfl⟩
      replace H : (if x3_2.length < 5864062014805 then (spec_boSteps.l1 k2 (x3_2 ++ [y148]) x4_1 (wrap64 (x5_2 + 1)) a0_0 a0_1) else (none)) = some r := by first | (rw [hy148]; with_reducible exact H) | (have H2_ := (Option.bind_some _ _).symm.trans H; rw [hy148]; with_reducible exact H2_) | (have H2_ := (Option.bind_some _ _).symm.trans H; with_reducible exact H2_) | with_reducible exact H | (rw [hy148]; exact H) | exact H
      have Ny148 := Aside0.mk hy148
      clear hy148
      by_cases c11 : x3_2.length < 5864062014805
      rotate_left
      ·rw [if_neg c11] at H
       exact absurd H (by simp)
      rw [if_pos c11] at H
      have LMc11 := Aside0.mk c11
      clear c11
      obtain ⟨y151, hy151⟩ : ∃ y_ : List (List Int), y_ = (x3_2 ++ [y148]) := ⟨_, rfl⟩
      replace H : (spec_boSteps.l1 k2 y151 x4_1 (wrap64 (x5_2 + 1)) a0_0 a0_1) = some r := by first | (rw [hy151]; with_reducible exact H) | (have H2_ := (Option.bind_some _ _).symm.trans H; rw [hy151]; with_reducible exact H2_) | (have H2_ := (Option.bind_some _ _).symm.trans H; with_reducible exact H2_) | with_reducible exact H | (rw [hy151]; exact H) | exact H
      have Ny151 := Aside0.mk hy151
      clear hy151
      have H' := Aside0.mk H
      clear H
      have hcz12_0 : wr.cell? ⟨gb145, 0, none⟩ = some (.int .i64 a0_0) := (blk_cell BK145.out 0).trans rfl
      have hcz12_1 : wr.cell? ⟨gb145, 1, none⟩ = some (.int .i64 a0_1) := (blk_cell BK145.out 1).trans rfl
      have hfz12_0 := blk_frozen BK145.out 0
      have hfz12_1 := blk_frozen BK145.out 1
      go_wp2_with (first | ((with_reducible refine gate_callee (f := 79) rfl ?_); refine goesL_ (some 27) rfl rfl Try.func79 (by kernel_rfl) rfl #[.int .i64 x4_1] rfl zj2 ?_; (with_reducible refine (spec_l1Abs.calls x4_1 t146 _ A7.out).mono ?_); rintro e w' ⟨rfl, ⟨nd, rfl⟩⟩; refine ⟨_, rfl, ?_⟩) | ((with_reducible refine gate_callee (f := 79) rfl ?_); refine goesL_ (some 29) rfl rfl Try.func79 (by kernel_rfl) rfl #[.int .i64 x5_2] rfl zj2 ?_; (with_reducible refine (spec_l1Abs.calls x5_2 t147 _ A8.out).mono ?_); rintro e w' ⟨rfl, ⟨nd, rfl⟩⟩; refine ⟨_, rfl, ?_⟩) | ((with_reducible refine gate_dst (N := 55) rfl ?_); refine Kd.R_lit (Kd.int .i64) _ 3 ?hg (N := 55) ?hd (xs := ([x4_1, x5_2] : List Int)) (inner := [.int .i64 x4_1, .int .i64 x5_2]) (ok := fun _ => True) (okp := fun _ => True) ?hr ?hp (fun _ hk => hk) trivial (Below.refl _ _) (Nat.le_refl _) (by simp) ?_; (case hd => rfl); (case hg => rfl); (case hr => first | (go_simp; done) | (go_simp; rfl)); (case hp => exact (Reps.one (show Kd.M (Kd.int .i64) _ _ _ x4_1 [.int .i64 x4_1] from rfl) (Reps.one (show Kd.M (Kd.int .i64) _ _ _ x5_2 [.int .i64 x5_2] from rfl) (Reps.none _ _)))); intro v149 w13 ho14 hb hg_ hnew_; clear hg_ hnew_; (first | rw [← Ny148.out] at ho14 | (simp only [Int.reduceToNat] at ho14; rw [← Ny148.out] at ho14)); have n0_ := Aside0.mk (Kd.S_elder' zj4 (Kd.R_base ho14) hb); have n1_ := Aside0.mk (Kd.R_lower ho14 (below_size zj1)); have n2_ := Aside0.mk (blk_below (g := gb145) (o := .cells #[.int .i64 a0_0, .int .i64 a0_1] 32 (0, 0)) zj3 hb); have n3_ := Aside0.mk (below_step zj1 hb); clear HO_3; clear BK145; clear HB; have HO_3 := n0_; have HO150 := n1_; have BK145 := n2_; have HB := n3_; clear n0_ n1_ n2_ n3_; clear hb ho14; obtain ⟨Ao16, co16, eo16⟩ := Kd.R_slice HO150.out; subst eo16) | ((with_reducible refine gate_builtin (b := .append) (xs := #[.tmp 52, .tmp 56]) rfl ?_); at_builtin; refine Kd.S_append (Kd.slice 3 (Kd.int .i64)) (w0 := w) w.heap.size rfl (.tmp 52) (.tmp 56) 53 22 (.slice none 0 0) 24 rfl Try.underlying53 info22 rfl (by decide) (by omega) u3 x3_2 y148 [.slice Ao16 y148.length co16] (fun _ => True) (fun k_ => some k_ = (.slice Ao16 y148.length co16 : Value).ownBlock) rfl rfl ?aP (fun k_ hk_ => ((Kd.R_mono (ok' := fun k_ => ((fun _ => True)) k_ ∧ some k_ ≠ (u3 : Value).ownBlock) (Kd.R_apart' (HO150.out) (Kd.S_typed HO_3.out) (by decide)) (fun k_ hk => ⟨trivial, hk.2⟩))).1 k_ hk_.symm) ?aF ?aO ?aB ?aS ?aL ?_; (case aP => exact Kd.M_row (Kd.R_mono (Kd.R_tight rfl (Kd.R_mono (ok' := fun k_ => ((fun _ => True)) k_ ∧ some k_ ≠ (u3 : Value).ownBlock) (Kd.R_apart' (HO150.out) (Kd.S_typed HO_3.out) (by decide)) (fun k_ hk => ⟨trivial, hk.2⟩))) (fun _ h_ => h_))); (case aB => exact zj1); (case aF => exact (fun _ _ => trivial)); (case aO => exact zj6); (case aS => exact (below_size zj1)); (case aL => have := LMc11.out; omega); intro v152 w15 ho hb hg hat; rw [← Ny151.out] at ho; have n0_ := Aside0.mk (blk_grown (g := gb145) (o := .cells #[.int .i64 a0_0, .int .i64 a0_1] 32 (0, 0)) zj3 hg (Kd.S_ne HO_3.out BK145.out (by decide))); have n1_ := Aside0.mk (hb); have n2_ := Aside0.mk (ho); clear BK145; clear HB; clear HO_3; clear HO150; have BK145 := n0_; have HB := n1_; have HO153 := n2_; clear n0_ n1_ n2_; clear ho hb hg hat))
      go_roundg k2
      case measure => have := HK1.out; have := HK2.out; omega
      case rel => exact ⟨(y151), (wrap64 (x5_2 + 1)), zj5, H', ⟨zj8⟩, ⟨by first | exact HO153.out | ((with_reducible repeat (first | apply Kd.S_alloc | apply Kd.S_drewN | apply Kd.S_drew)); exact HO153.out)⟩, ⟨zj3⟩, ⟨zj1⟩⟩
     rw [if_neg c10] at H
     have c10b0 : (t147 == a0_1) = false := beq_eq_false_iff_ne.mpr c10
     have c10b1 : (t147 != a0_1) = true := bne_iff_ne.mpr c10
     by_cases c17 : t146 = a0_1
     rotate_left
     ·rw [if_neg c17] at H
      have c17b0 : (t146 == a0_1) = false := beq_eq_false_iff_ne.mpr c17
      have c17b1 : (t146 != a0_1) = true := bne_iff_ne.mpr c17
      have H' := Aside0.mk H
      clear H
      have hcz26_0 : wr.cell? ⟨gb145, 0, none⟩ = some (.int .i64 a0_0) := (blk_cell BK145.out 0).trans rfl
      have hcz26_1 : wr.cell? ⟨gb145, 1, none⟩ = some (.int .i64 a0_1) := (blk_cell BK145.out 1).trans rfl
      have hfz26_0 := blk_frozen BK145.out 0
      have hfz26_1 := blk_frozen BK145.out 1
      go_wp2_with (first | ((with_reducible refine gate_callee (f := 79) rfl ?_); refine goesL_ (some 27) rfl rfl Try.func79 (by kernel_rfl) rfl #[.int .i64 x4_1] rfl zj2 ?_; (with_reducible refine (spec_l1Abs.calls x4_1 t146 _ A7.out).mono ?_); rintro e w' ⟨rfl, ⟨nd, rfl⟩⟩; refine ⟨_, rfl, ?_⟩) | ((with_reducible refine gate_callee (f := 79) rfl ?_); refine goesL_ (some 29) rfl rfl Try.func79 (by kernel_rfl) rfl #[.int .i64 x5_2] rfl zj2 ?_; (with_reducible refine (spec_l1Abs.calls x5_2 t147 _ A8.out).mono ?_); rintro e w' ⟨rfl, ⟨nd, rfl⟩⟩; refine ⟨_, rfl, ?_⟩))
      go_roundg k2
      case measure => have := HK1.out; have := HK2.out; omega
      case rel => exact ⟨(x3_2), (wrap64 (x5_2 + 1)), zj5, H', ⟨zj8⟩, ⟨zj4⟩, ⟨zj3⟩, ⟨zj1⟩⟩
     rw [if_pos c17] at H
     have c17b0 : (t146 == a0_1) = true := beq_iff_eq.mpr c17
     have c17b1 : (t146 != a0_1) = false := bne_eq_false_iff_eq.mpr c17
     clear c17
     by_cases c18 : t147 = a0_0
     rotate_left
     ·rw [if_neg c18] at H
      have c18b0 : (t147 == a0_0) = false := beq_eq_false_iff_ne.mpr c18
      have c18b1 : (t147 != a0_0) = true := bne_iff_ne.mpr c18
      have H' := Aside0.mk H
      clear H
      have hcz25_0 : wr.cell? ⟨gb145, 0, none⟩ = some (.int .i64 a0_0) := (blk_cell BK145.out 0).trans rfl
      have hcz25_1 : wr.cell? ⟨gb145, 1, none⟩ = some (.int .i64 a0_1) := (blk_cell BK145.out 1).trans rfl
      have hfz25_0 := blk_frozen BK145.out 0
      have hfz25_1 := blk_frozen BK145.out 1
      go_wp2_with (first | ((with_reducible refine gate_callee (f := 79) rfl ?_); refine goesL_ (some 27) rfl rfl Try.func79 (by kernel_rfl) rfl #[.int .i64 x4_1] rfl zj2 ?_; (with_reducible refine (spec_l1Abs.calls x4_1 t146 _ A7.out).mono ?_); rintro e w' ⟨rfl, ⟨nd, rfl⟩⟩; refine ⟨_, rfl, ?_⟩) | ((with_reducible refine gate_callee (f := 79) rfl ?_); refine goesL_ (some 29) rfl rfl Try.func79 (by kernel_rfl) rfl #[.int .i64 x5_2] rfl zj2 ?_; (with_reducible refine (spec_l1Abs.calls x5_2 t147 _ A8.out).mono ?_); rintro e w' ⟨rfl, ⟨nd, rfl⟩⟩; refine ⟨_, rfl, ?_⟩))
      go_roundg k2
      case measure => have := HK1.out; have := HK2.out; omega
      case rel => exact ⟨(x3_2), (wrap64 (x5_2 + 1)), zj5, H', ⟨zj8⟩, ⟨zj4⟩, ⟨zj3⟩, ⟨zj1⟩⟩
     rw [if_pos c18] at H
     have c18b0 : (t147 == a0_0) = true := beq_iff_eq.mpr c18
     have c18b1 : (t147 != a0_0) = false := bne_eq_false_iff_eq.mpr c18
     clear c18
     obtain ⟨y154, hy154⟩ : ∃ y_ : List Int, y_ = (([x4_1, x5_2] : List Int)) := ⟨_, rfl⟩
     replace H : (if x3_2.length < 5864062014805 then (spec_boSteps.l1 k2 (x3_2 ++ [y154]) x4_1 (wrap64 (x5_2 + 1)) a0_0 a0_1) else (none)) = some r := by first | (rw [hy154]; with_reducible exact H) | (have H2_ := (Option.bind_some _ _).symm.trans H; rw [hy154]; with_reducible exact H2_) | (have H2_ := (Option.bind_some _ _).symm.trans H; with_reducible exact H2_) | with_reducible exact H | (rw [hy154]; exact H) | exact H
     have Ny154 := Aside0.mk hy154
     clear hy154
     by_cases c19 : x3_2.length < 5864062014805
     rotate_left
     ·rw [if_neg c19] at H
      exact absurd H (by simp)
     rw [if_pos c19] at H
     have LMc19 := Aside0.mk c19
     clear c19
     obtain ⟨y157, hy157⟩ : ∃ y_ : List (List Int), y_ = (x3_2 ++ [y154]) := ⟨_, rfl⟩
     replace H : (spec_boSteps.l1 k2 y157 x4_1 (wrap64 (x5_2 + 1)) a0_0 a0_1) = some r := by first | (rw [hy157]; with_reducible exact H) | (have H2_ := (Option.bind_some _ _).symm.trans H; rw [hy157]; with_reducible exact H2_) | (have H2_ := (Option.bind_some _ _).symm.trans H; with_reducible exact H2_) | with_reducible exact H | (rw [hy157]; exact H) | exact H
     have Ny157 := Aside0.mk hy157
     clear hy157
     have H' := Aside0.mk H
     clear H
     have hcz20_0 : wr.cell? ⟨gb145, 0, none⟩ = some (.int .i64 a0_0) := (blk_cell BK145.out 0).trans rfl
     have hcz20_1 : wr.cell? ⟨gb145, 1, none⟩ = some (.int .i64 a0_1) := (blk_cell BK145.out 1).trans rfl
     have hfz20_0 := blk_frozen BK145.out 0
     have hfz20_1 := blk_frozen BK145.out 1
     go_wp2_with (first | ((with_reducible refine gate_callee (f := 79) rfl ?_); refine goesL_ (some 27) rfl rfl Try.func79 (by kernel_rfl) rfl #[.int .i64 x4_1] rfl zj2 ?_; (with_reducible refine (spec_l1Abs.calls x4_1 t146 _ A7.out).mono ?_); rintro e w' ⟨rfl, ⟨nd, rfl⟩⟩; refine ⟨_, rfl, ?_⟩) | ((with_reducible refine gate_callee (f := 79) rfl ?_); refine goesL_ (some 29) rfl rfl Try.func79 (by kernel_rfl) rfl #[.int .i64 x5_2] rfl zj2 ?_; (with_reducible refine (spec_l1Abs.calls x5_2 t147 _ A8.out).mono ?_); rintro e w' ⟨rfl, ⟨nd, rfl⟩⟩; refine ⟨_, rfl, ?_⟩) | ((with_reducible refine gate_dst (N := 55) rfl ?_); refine Kd.R_lit (Kd.int .i64) _ 3 ?hg (N := 55) ?hd (xs := ([x4_1, x5_2] : List Int)) (inner := [.int .i64 x4_1, .int .i64 x5_2]) (ok := fun _ => True) (okp := fun _ => True) ?hr ?hp (fun _ hk => hk) trivial (Below.refl _ _) (Nat.le_refl _) (by simp) ?_; (case hd => rfl); (case hg => rfl); (case hr => first | (go_simp; done) | (go_simp; rfl)); (case hp => exact (Reps.one (show Kd.M (Kd.int .i64) _ _ _ x4_1 [.int .i64 x4_1] from rfl) (Reps.one (show Kd.M (Kd.int .i64) _ _ _ x5_2 [.int .i64 x5_2] from rfl) (Reps.none _ _)))); intro v155 w21 ho22 hb hg_ hnew_; clear hg_ hnew_; (first | rw [← Ny154.out] at ho22 | (simp only [Int.reduceToNat] at ho22; rw [← Ny154.out] at ho22)); have n0_ := Aside0.mk (Kd.S_elder' zj4 (Kd.R_base ho22) hb); have n1_ := Aside0.mk (Kd.R_lower ho22 (below_size zj1)); have n2_ := Aside0.mk (blk_below (g := gb145) (o := .cells #[.int .i64 a0_0, .int .i64 a0_1] 32 (0, 0)) zj3 hb); have n3_ := Aside0.mk (below_step zj1 hb); clear HO_3; clear BK145; clear HB; have HO_3 := n0_; have HO156 := n1_; have BK145 := n2_; have HB := n3_; clear n0_ n1_ n2_ n3_; clear hb ho22; obtain ⟨Ao24, co24, eo24⟩ := Kd.R_slice HO156.out; subst eo24) | ((with_reducible refine gate_builtin (b := .append) (xs := #[.tmp 52, .tmp 56]) rfl ?_); at_builtin; refine Kd.S_append (Kd.slice 3 (Kd.int .i64)) (w0 := w) w.heap.size rfl (.tmp 52) (.tmp 56) 53 22 (.slice none 0 0) 24 rfl Try.underlying53 info22 rfl (by decide) (by omega) u3 x3_2 y154 [.slice Ao24 y154.length co24] (fun _ => True) (fun k_ => some k_ = (.slice Ao24 y154.length co24 : Value).ownBlock) rfl rfl ?aP (fun k_ hk_ => ((Kd.R_mono (ok' := fun k_ => ((fun _ => True)) k_ ∧ some k_ ≠ (u3 : Value).ownBlock) (Kd.R_apart' (HO156.out) (Kd.S_typed HO_3.out) (by decide)) (fun k_ hk => ⟨trivial, hk.2⟩))).1 k_ hk_.symm) ?aF ?aO ?aB ?aS ?aL ?_; (case aP => exact Kd.M_row (Kd.R_mono (Kd.R_tight rfl (Kd.R_mono (ok' := fun k_ => ((fun _ => True)) k_ ∧ some k_ ≠ (u3 : Value).ownBlock) (Kd.R_apart' (HO156.out) (Kd.S_typed HO_3.out) (by decide)) (fun k_ hk => ⟨trivial, hk.2⟩))) (fun _ h_ => h_))); (case aB => exact zj1); (case aF => exact (fun _ _ => trivial)); (case aO => exact zj6); (case aS => exact (below_size zj1)); (case aL => have := LMc19.out; omega); intro v158 w23 ho hb hg hat; rw [← Ny157.out] at ho; have n0_ := Aside0.mk (blk_grown (g := gb145) (o := .cells #[.int .i64 a0_0, .int .i64 a0_1] 32 (0, 0)) zj3 hg (Kd.S_ne HO_3.out BK145.out (by decide))); have n1_ := Aside0.mk (hb); have n2_ := Aside0.mk (ho); clear BK145; clear HB; clear HO_3; clear HO156; have BK145 := n0_; have HB := n1_; have HO159 := n2_; clear n0_ n1_ n2_; clear ho hb hg hat))
     go_roundg k2
     case measure => have := HK1.out; have := HK2.out; omega
     case rel => exact ⟨(y157), (wrap64 (x5_2 + 1)), zj5, H', ⟨zj8⟩, ⟨by first | exact HO159.out | ((with_reducible repeat (first | apply Kd.S_alloc | apply Kd.S_drewN | apply Kd.S_drew)); exact HO159.out)⟩, ⟨zj3⟩, ⟨zj1⟩⟩

end Go.Proofs.Ytbecdckdbeoomaa.Q

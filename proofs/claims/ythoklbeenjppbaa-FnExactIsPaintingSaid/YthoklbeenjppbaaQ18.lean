/- Written by a program of this session: functions of the translation as plain Lean functions, each with a proof that the call does what the plain function says; the conditions stand in each theorem. -/
import Derived.Test.YthoklbeenjppbaaQ0
import Derived.Test.YthoklbeenjppbaaQ2
namespace Go.Proofs.Ythoklbeenjppbaa.Q
open Go.RowKit Go.Proofs.YthoklbeenjppbaaW.PrintWords Go.Proofs.YthoklbeenjppbaaW.PrintLast Go.Proofs.YthoklbeenjppbaaW.PrintMore
attribute [local go_sem] max2_int min2_int max_two min_two max_three min_three max_four min_four   -- for this text's walks alone
set_option linter.unusedVariables false
set_option linter.unusedSimpArgs false

theorem zs1 {p : Prop} (h : p := by repeat (first | (with_reducible first | exact HB.out | apply below_alloc | apply pw_below_drewN | apply below_drew1 | refine below_set ?_ GE458.out) | exact HB.out)) : p := h
theorem zs2 {p : Prop} (h : p := by repeat (first | exact (Kd.C_below HR0_2.out HB.out) | (with_reducible refine Kd.C_alloc ?_ _) | (with_reducible refine Kd.C_drewN ?_ _) | (with_reducible refine Kd.C_drew ?_))) : p := h
theorem zs3 {p : Prop} (h : p := by (with_reducible repeat (first | refine blk_drewN ?_ _ | refine blk_drew ?_ | refine blk_alloc ?_ _)); exact BK458.out) : p := h
theorem zs4 {p : Prop} (h : p := by repeat (first | (with_reducible first | exact HB.out | apply below_alloc | apply pw_below_drewN | apply below_drew1 | refine below_set ?_ GE0.out) | exact HB.out)) : p := h
theorem zs5 {p : Prop} (h : p := by first | (with_reducible assumption) | assumption) : p := h
theorem zs6 {p : Prop} (h : p := by (try simp only [List.map_toArray, List.map_cons, List.map_nil]); first | done | rfl | (simp only [List.length_drop, List.length_take]; rfl)) : p := h
theorem zs7 {p : Prop} (h : p := by (with_reducible repeat (first | refine blk_drewN ?_ _ | refine blk_drew ?_ | refine blk_alloc ?_ _)); exact BK0.out) : p := h
theorem zs8 {p : Prop} (h : p := by repeat (first | (with_reducible first | exact HB.out | apply below_alloc | apply pw_below_drewN | apply below_drew1) | exact HB.out)) : p := h
theorem zs9 {p : Prop} (h : p := by first | rfl | (simp [errW_none, errW_some] <;> rfl) | (simp [*, errW_none, errW_some] <;> rfl)) : p := h
theorem zs10 {p : Prop} (h : p := by (with_reducible repeat (first | apply Kd.S_alloc | apply Kd.S_drewN | apply Kd.S_drew)); exact HO_3.out) : p := h
theorem zs11 {p : Prop} (h : p := by first | rfl | (simp; done) | (simp [*]; done)) : p := h
/-! ### impl_Board_coloured: function 96 -/
def impl_Board_coloured.l0 : Nat → List Int → Int → Int → Int → Int → List Int → Option (Bool)
 | 0, _, _, _, _, _, _ => none
 | k + 1, x15, x16, x17, x459000, x459001, x459002 => if x17 < x16 then (if 0 ≤ x17 then (if x17 < (x15.length : Int) then ((impl_Board_has.f k x459000 x459001 x459002 x17).bind fun t460 => (if t460 = true then (if (rd x15 x17) < 0 then (some false) else (if (rd x15 x17) ≥ 9 then (some false) else ((impl_Board_has.f k x459000 x459001 x459002 x17).bind fun t461 => (if t461 = true then (impl_Board_coloured.l0 k x15 x16 (wrap64 (x17 + 1)) x459000 x459001 x459002) else (if (rd x15 x17) = (-1) then (impl_Board_coloured.l0 k x15 x16 (wrap64 (x17 + 1)) x459000 x459001 x459002) else (some false)))))) else ((impl_Board_has.f k x459000 x459001 x459002 x17).bind fun t462 => (if t462 = true then (impl_Board_coloured.l0 k x15 x16 (wrap64 (x17 + 1)) x459000 x459001 x459002) else (if (rd x15 x17) = (-1) then (impl_Board_coloured.l0 k x15 x16 (wrap64 (x17 + 1)) x459000 x459001 x459002) else (some false)))))) else (none)) else (none)) else (some true)
def impl_Board_coloured.f (k : Nat) (a0_0 : Int) (a0_1 : Int) (l0_2 : List Int) (l1 : List Int) : Option (Bool) := if (l1.length : Int) = (wrap64 (a0_0 * a0_1)) then (impl_Board_coloured.l0 k l1 (l1.length : Int) 0 a0_0 a0_1 l0_2) else (some false)
set_option maxHeartbeats 8000000 in
set_option maxRecDepth 100000 in
theorem impl_Board_coloured.calls (k : Nat) (a0_0 : Int) (a0_1 : Int) (A0_2 : Option Addr) (c0_2 : Nat) (l0_2 : List Int) (A1 : Option Addr) (c1 : Nat) (l1 : List Int) (r : Bool) (w : World) (hr0_2 : Kd.C (Kd.int .i64) w A0_2 l0_2.length l0_2) (hc0_2 : l0_2.length ≤ c0_2) (hr1 : Kd.C (Kd.int .i64) w A1 l1.length l1) (hc1 : l1.length ≤ c1) (h : impl_Board_coloured.f k a0_0 a0_1 l0_2 l1 = some r) :
  Calls Try.prog 96 #[.agg #[.int .i64 a0_0, .int .i64 a0_1, .slice A0_2 l0_2.length c0_2], .slice A1 l1.length c1] w fun e w' => e = .returned (.bool r) ∧ Below w.heap.size w w' := by
 have hu30 := Try.underlying30
 have HR0_2 := Aside0.mk hr0_2
 have HC0_2 := Aside0.mk hc0_2
 clear hr0_2 hc0_2
 have HR1 := Aside0.mk hr1
 have HC1 := Aside0.mk hc1
 clear hr1 hc1
 have HB := Aside0.mk (Below.refl w.heap.size w)
 have H : (if (l1.length : Int) = (wrap64 (a0_0 * a0_1)) then (impl_Board_coloured.l0 k l1 (l1.length : Int) 0 a0_0 a0_1 l0_2) else (some false)) = some r := h
 clear h
 by_cases c3 : (l1.length : Int) = (wrap64 (a0_0 * a0_1))
 rotate_left
 ·rw [if_neg c3] at H
  have c3b0 : ((l1.length : Int) == (wrap64 (a0_0 * a0_1))) = false := beq_eq_false_iff_ne.mpr c3
  have c3b1 : ((l1.length : Int) != (wrap64 (a0_0 * a0_1))) = true := bne_iff_ne.mpr c3
  obtain rfl := Option.some.inj H
  go_enter Try.func96, Try.ntmps96
  go_wp2_with (first | ((with_reducible refine gate_dst (N := 2) rfl ?_); refine box_event ?hg (N := 2) ?hd (cs := #[.int .i64 a0_0, .int .i64 a0_1, .slice A0_2 l0_2.length c0_2]) (t := 30) ?hr ?_; (case hd => rfl); (case hg => rfl); (case hr => first | (go_simp; done) | (go_simp; rfl)); intro gb458 hg w47 hbox hb; have n0_ := Aside0.mk (below_step zs8 hb); have n1_ := Aside0.mk (hbox); have n2_ := Aside0.mk ((by rw [hg]; exact (below_size zs8) : w.heap.size ≤ gb458)); have n3_ := Aside0.mk ((by rw [hg]; exact (below_size zs8) : w.heap.size ≤ gb458)); clear HB; have HB := n0_; have BK458 := n1_; have GW458 := n2_; have GE458 := n3_; clear n0_ n1_ n2_ n3_; clear hb hbox hg; have hcz48_0 : w47.cell? ⟨gb458, 0, none⟩ = some (.int .i64 a0_0) := (blk_cell BK458.out 0).trans rfl; have hcz48_1 : w47.cell? ⟨gb458, 1, none⟩ = some (.int .i64 a0_1) := (blk_cell BK458.out 1).trans rfl; have hcz48_2 : w47.cell? ⟨gb458, 2, none⟩ = some (.slice A0_2 l0_2.length c0_2) := (blk_cell BK458.out 2).trans rfl; have hfz48_0 := blk_frozen BK458.out 0; have hfz48_1 := blk_frozen BK458.out 1; have hfz48_2 := blk_frozen BK458.out 2))
  go_ret
  exact ⟨zs9, zs1⟩
 rw [if_pos c3] at H
 have c3b0 : ((l1.length : Int) == (wrap64 (a0_0 * a0_1))) = true := beq_iff_eq.mpr c3
 have c3b1 : ((l1.length : Int) != (wrap64 (a0_0 * a0_1))) = false := bne_eq_false_iff_eq.mpr c3
 clear c3
 have H' := Aside0.mk H
 clear H
 go_enter Try.func96, Try.ntmps96
 go_wp2_with (first | ((with_reducible refine gate_dst (N := 2) rfl ?_); refine box_event ?hg (N := 2) ?hd (cs := #[.int .i64 a0_0, .int .i64 a0_1, .slice A0_2 l0_2.length c0_2]) (t := 30) ?hr ?_; (case hd => rfl); (case hg => rfl); (case hr => first | (go_simp; done) | (go_simp; rfl)); intro gb458 hg w4 hbox hb; have n0_ := Aside0.mk (below_step zs8 hb); have n1_ := Aside0.mk (hbox); have n2_ := Aside0.mk ((by rw [hg]; exact (below_size zs8) : w.heap.size ≤ gb458)); have n3_ := Aside0.mk ((by rw [hg]; exact (below_size zs8) : w.heap.size ≤ gb458)); clear HB; have HB := n0_; have BK458 := n1_; have GW458 := n2_; have GE458 := n3_; clear n0_ n1_ n2_ n3_; clear hb hbox hg; have hcz5_0 : w4.cell? ⟨gb458, 0, none⟩ = some (.int .i64 a0_0) := (blk_cell BK458.out 0).trans rfl; have hcz5_1 : w4.cell? ⟨gb458, 1, none⟩ = some (.int .i64 a0_1) := (blk_cell BK458.out 1).trans rfl; have hcz5_2 : w4.cell? ⟨gb458, 2, none⟩ = some (.slice A0_2 l0_2.length c0_2) := (blk_cell BK458.out 2).trans rfl; have hfz5_0 := blk_frozen BK458.out 0; have hfz5_1 := blk_frozen BK458.out 1; have hfz5_2 := blk_frozen BK458.out 2))
 go_loopg [17] k (fun kq v17 w' => ∃ (x17_1 : Int), v17 = .int .i64 x17_1 ∧ Aside0 (impl_Board_coloured.l0 kq l1 (l1.length : Int) x17_1 a0_0 a0_1 l0_2 = some r) ∧ Aside0 (kq ≤ k) ∧ Aside0 (w'.heap[gb458]? = some (.cells #[.int .i64 a0_0, .int .i64 a0_1, (.slice A0_2 l0_2.length c0_2)] 30 (0, 0))) ∧ Aside0 (Below w.heap.size w w'))
 case atStart => exact ⟨(0), zs11, H', ⟨Nat.le_refl _⟩, ⟨zs3⟩, ⟨zs1⟩⟩
 case round =>
  clear H'
  try clear c1; try clear p2; try clear c3; try clear c3b0; try clear c3b1; try clear hcz5_0; try clear hcz5_1; try clear hcz5_2; try clear hfz5_0; try clear hfz5_1; try clear hfz5_2
  obtain ⟨x17_1, rfl, HA, HK1, BK458, HB⟩ := hrel
  cases gk with
  | zero => exact absurd HA.out (by simp [impl_Board_coloured.l0])
  | succ k1 =>
   have H := HA.out
   clear HA
   simp only [impl_Board_coloured.l0] at H
   by_cases c6 : x17_1 < (l1.length : Int)
   rotate_left
   ·rw [if_neg c6] at H
    have c6b0 : decide (x17_1 < (l1.length : Int)) = false := decide_eq_false c6
    clear c6
    obtain rfl := Option.some.inj H
    go_wp2
    go_ret
    exact ⟨zs9, zs1⟩
   rw [if_pos c6] at H
   have c6b0 : decide (x17_1 < (l1.length : Int)) = true := decide_eq_true c6
   clear c6
   by_cases c7 : 0 ≤ x17_1
   rotate_left
   ·rw [if_neg c7] at H
    exact absurd H (by simp)
   rw [if_pos c7] at H
   have c7b0 : decide (0 ≤ x17_1) = true := decide_eq_true c7
   clear c7
   by_cases c8 : x17_1 < (l1.length : Int)
   rotate_left
   ·rw [if_neg c8] at H
    exact absurd H (by simp)
   rw [if_pos c8] at H
   have c8b0 : decide (x17_1 < (l1.length : Int)) = true := decide_eq_true c8
   clear c8
   replace H := Option.bind_eq_some_iff.mp H
   obtain ⟨t460, A90, H⟩ := H
   replace H : (if t460 = true then (if (rd l1 x17_1) < 0 then (some false) else (if (rd l1 x17_1) ≥ 9 then (some false) else ((impl_Board_has.f k1 a0_0 a0_1 l0_2 x17_1).bind fun t461 => (if t461 = true then (impl_Board_coloured.l0 k1 l1 (l1.length : Int) (wrap64 (x17_1 + 1)) a0_0 a0_1 l0_2) else (if (rd l1 x17_1) = (-1) then (impl_Board_coloured.l0 k1 l1 (l1.length : Int) (wrap64 (x17_1 + 1)) a0_0 a0_1 l0_2) else (some false)))))) else ((impl_Board_has.f k1 a0_0 a0_1 l0_2 x17_1).bind fun t462 => (if t462 = true then (impl_Board_coloured.l0 k1 l1 (l1.length : Int) (wrap64 (x17_1 + 1)) a0_0 a0_1 l0_2) else (if (rd l1 x17_1) = (-1) then (impl_Board_coloured.l0 k1 l1 (l1.length : Int) (wrap64 (x17_1 + 1)) a0_0 a0_1 l0_2) else (some false))))) = some r := H
   have A9 := Aside0.mk A90
   clear A90
   by_cases c10 : t460 = true
   rotate_left
   ·replace c10 := Bool.eq_false_iff.mpr c10
    subst c10
    have H1 : ((impl_Board_has.f k1 a0_0 a0_1 l0_2 x17_1).bind fun t462 => (if t462 = true then (impl_Board_coloured.l0 k1 l1 (l1.length : Int) (wrap64 (x17_1 + 1)) a0_0 a0_1 l0_2) else (if (rd l1 x17_1) = (-1) then (impl_Board_coloured.l0 k1 l1 (l1.length : Int) (wrap64 (x17_1 + 1)) a0_0 a0_1 l0_2) else (some false)))) = some r := by rw [if_neg (show ¬ (false = true) by decide)] at H; exact H
    clear H
    have H := H1
    clear H1
    replace H := Option.bind_eq_some_iff.mp H
    obtain ⟨t462, A320, H⟩ := H
    replace H : (if t462 = true then (impl_Board_coloured.l0 k1 l1 (l1.length : Int) (wrap64 (x17_1 + 1)) a0_0 a0_1 l0_2) else (if (rd l1 x17_1) = (-1) then (impl_Board_coloured.l0 k1 l1 (l1.length : Int) (wrap64 (x17_1 + 1)) a0_0 a0_1 l0_2) else (some false))) = some r := H
    have A32 := Aside0.mk A320
    clear A320
    by_cases c33 : t462 = true
    ·subst c33
     have H1 : (impl_Board_coloured.l0 k1 l1 (l1.length : Int) (wrap64 (x17_1 + 1)) a0_0 a0_1 l0_2) = some r := by rw [if_pos rfl] at H; exact H
     clear H
     have H := H1
     clear H1
     have H' := Aside0.mk H
     clear H
     have p459 : 0 ≤ (x17_1 : Int) := of_decide_eq_true zs5
     have q459 : x17_1 < (l1.length : Int) := of_decide_eq_true zs5
     obtain ⟨ad459, e459, hx459_0⟩ := Kd.at_int HR1.out x17_1 p459 q459
     cases e459
     (first | replace hx459_0 := (HB.out.cell (World.block_lt_of_cell? w _ hx459_0)).trans hx459_0 | skip)
     replace p459 := eq_true p459
     replace q459 := eq_true q459
     have hcz34_0 : wr.cell? ⟨gb458, 0, none⟩ = some (.int .i64 a0_0) := (blk_cell BK458.out 0).trans rfl
     have hcz34_1 : wr.cell? ⟨gb458, 1, none⟩ = some (.int .i64 a0_1) := (blk_cell BK458.out 1).trans rfl
     have hcz34_2 : wr.cell? ⟨gb458, 2, none⟩ = some (.slice A0_2 l0_2.length c0_2) := (blk_cell BK458.out 2).trans rfl
     have hfz34_0 := blk_frozen BK458.out 0
     have hfz34_1 := blk_frozen BK458.out 1
     have hfz34_2 := blk_frozen BK458.out 2
     go_wp2_with (first | ((with_reducible refine gate_callee (f := 88) rfl ?_); refine goesL_ (some 24) rfl rfl Try.func88 (by kernel_rfl) rfl #[.agg #[.int .i64 a0_0, .int .i64 a0_1, .slice A0_2 l0_2.length c0_2], .int .i64 x17_1] rfl zs6 ?_; (with_reducible refine (impl_Board_has.calls k1 a0_0 a0_1 _ _ l0_2 x17_1 false _ ?side1 ?side2 A9.out).mono ?_); (case side1 => exact zs2); (case side2 => exact HC0_2.out); rintro e w35 ⟨rfl, hb⟩; refine ⟨_, rfl, ?_⟩; have n0_ := Aside0.mk (blk_below (g := gb458) (o := .cells #[.int .i64 a0_0, .int .i64 a0_1, .slice A0_2 l0_2.length c0_2] 30 (0, 0)) zs3 hb); have n1_ := Aside0.mk (below_step zs1 hb); clear BK458; clear HB; have BK458 := n0_; have HB := n1_; clear n0_ n1_; (try clear hb); (try clear hb2); (try clear hk); (try clear hi); (try clear hna_); (try clear hnb_); have hcz36_0 : w35.cell? ⟨gb458, 0, none⟩ = some (.int .i64 a0_0) := (blk_cell BK458.out 0).trans rfl; have hcz36_1 : w35.cell? ⟨gb458, 1, none⟩ = some (.int .i64 a0_1) := (blk_cell BK458.out 1).trans rfl; have hcz36_2 : w35.cell? ⟨gb458, 2, none⟩ = some (.slice A0_2 l0_2.length c0_2) := (blk_cell BK458.out 2).trans rfl; have hfz36_0 := blk_frozen BK458.out 0; have hfz36_1 := blk_frozen BK458.out 1; have hfz36_2 := blk_frozen BK458.out 2) | (go_at_call 88; (with_reducible refine (impl_Board_has.calls k1 a0_0 a0_1 _ _ l0_2 x17_1 true _ ?side1 ?side2 A32.out).mono ?_); (case side1 => exact zs2); (case side2 => exact HC0_2.out); rintro e w37 ⟨rfl, hb⟩; have n0_ := Aside0.mk (blk_below (g := gb458) (o := .cells #[.int .i64 a0_0, .int .i64 a0_1, .slice A0_2 l0_2.length c0_2] 30 (0, 0)) zs3 hb); have n1_ := Aside0.mk (below_step zs1 hb); clear BK458; clear HB; have BK458 := n0_; have HB := n1_; clear n0_ n1_; (try clear hb); (try clear hb2); (try clear hk); (try clear hi); (try clear hna_); (try clear hnb_)))
     go_roundg k1
     case measure => have := HK1.out; omega
     case rel => exact ⟨(wrap64 (x17_1 + 1)), zs11, H', ⟨by have := HK1.out; omega⟩, ⟨zs3⟩, ⟨zs1⟩⟩
    replace c33 := Bool.eq_false_iff.mpr c33
    subst c33
    have H1 : (if (rd l1 x17_1) = (-1) then (impl_Board_coloured.l0 k1 l1 (l1.length : Int) (wrap64 (x17_1 + 1)) a0_0 a0_1 l0_2) else (some false)) = some r := by rw [if_neg (show ¬ (false = true) by decide)] at H; exact H
    clear H
    have H := H1
    clear H1
    by_cases c38 : (rd l1 x17_1) = (-1)
    rotate_left
    ·rw [if_neg c38] at H
     have c38b0 : ((rd l1 x17_1) == (-1)) = false := beq_eq_false_iff_ne.mpr c38
     have c38b1 : ((rd l1 x17_1) != (-1)) = true := bne_iff_ne.mpr c38
     obtain rfl := Option.some.inj H
     have p459 : 0 ≤ (x17_1 : Int) := of_decide_eq_true zs5
     have q459 : x17_1 < (l1.length : Int) := of_decide_eq_true zs5
     obtain ⟨ad459, e459, hx459_0⟩ := Kd.at_int HR1.out x17_1 p459 q459
     cases e459
     (first | replace hx459_0 := (HB.out.cell (World.block_lt_of_cell? w _ hx459_0)).trans hx459_0 | skip)
     replace p459 := eq_true p459
     replace q459 := eq_true q459
     have hcz43_0 : wr.cell? ⟨gb458, 0, none⟩ = some (.int .i64 a0_0) := (blk_cell BK458.out 0).trans rfl
     have hcz43_1 : wr.cell? ⟨gb458, 1, none⟩ = some (.int .i64 a0_1) := (blk_cell BK458.out 1).trans rfl
     have hcz43_2 : wr.cell? ⟨gb458, 2, none⟩ = some (.slice A0_2 l0_2.length c0_2) := (blk_cell BK458.out 2).trans rfl
     have hfz43_0 := blk_frozen BK458.out 0
     have hfz43_1 := blk_frozen BK458.out 1
     have hfz43_2 := blk_frozen BK458.out 2
     go_wp2_with (first | ((with_reducible refine gate_callee (f := 88) rfl ?_); refine goesL_ (some 24) rfl rfl Try.func88 (by kernel_rfl) rfl #[.agg #[.int .i64 a0_0, .int .i64 a0_1, .slice A0_2 l0_2.length c0_2], .int .i64 x17_1] rfl zs6 ?_; (with_reducible refine (impl_Board_has.calls k1 a0_0 a0_1 _ _ l0_2 x17_1 false _ ?side1 ?side2 A9.out).mono ?_); (case side1 => exact zs2); (case side2 => exact HC0_2.out); rintro e w44 ⟨rfl, hb⟩; refine ⟨_, rfl, ?_⟩; have n0_ := Aside0.mk (blk_below (g := gb458) (o := .cells #[.int .i64 a0_0, .int .i64 a0_1, .slice A0_2 l0_2.length c0_2] 30 (0, 0)) zs3 hb); have n1_ := Aside0.mk (below_step zs1 hb); clear BK458; clear HB; have BK458 := n0_; have HB := n1_; clear n0_ n1_; (try clear hb); (try clear hb2); (try clear hk); (try clear hi); (try clear hna_); (try clear hnb_); have hcz45_0 : w44.cell? ⟨gb458, 0, none⟩ = some (.int .i64 a0_0) := (blk_cell BK458.out 0).trans rfl; have hcz45_1 : w44.cell? ⟨gb458, 1, none⟩ = some (.int .i64 a0_1) := (blk_cell BK458.out 1).trans rfl; have hcz45_2 : w44.cell? ⟨gb458, 2, none⟩ = some (.slice A0_2 l0_2.length c0_2) := (blk_cell BK458.out 2).trans rfl; have hfz45_0 := blk_frozen BK458.out 0; have hfz45_1 := blk_frozen BK458.out 1; have hfz45_2 := blk_frozen BK458.out 2) | (go_at_call 88; (with_reducible refine (impl_Board_has.calls k1 a0_0 a0_1 _ _ l0_2 x17_1 false _ ?side1 ?side2 A32.out).mono ?_); (case side1 => exact zs2); (case side2 => exact HC0_2.out); rintro e w46 ⟨rfl, hb⟩; have n0_ := Aside0.mk (blk_below (g := gb458) (o := .cells #[.int .i64 a0_0, .int .i64 a0_1, .slice A0_2 l0_2.length c0_2] 30 (0, 0)) zs3 hb); have n1_ := Aside0.mk (below_step zs1 hb); clear BK458; clear HB; have BK458 := n0_; have HB := n1_; clear n0_ n1_; (try clear hb); (try clear hb2); (try clear hk); (try clear hi); (try clear hna_); (try clear hnb_)))
     go_ret
     exact ⟨zs9, zs1⟩
    rw [if_pos c38] at H
    have c38b0 : ((rd l1 x17_1) == (-1)) = true := beq_iff_eq.mpr c38
    have c38b1 : ((rd l1 x17_1) != (-1)) = false := bne_eq_false_iff_eq.mpr c38
    clear c38
    have H' := Aside0.mk H
    clear H
    have p459 : 0 ≤ (x17_1 : Int) := of_decide_eq_true zs5
    have q459 : x17_1 < (l1.length : Int) := of_decide_eq_true zs5
    obtain ⟨ad459, e459, hx459_0⟩ := Kd.at_int HR1.out x17_1 p459 q459
    cases e459
    (first | replace hx459_0 := (HB.out.cell (World.block_lt_of_cell? w _ hx459_0)).trans hx459_0 | skip)
    replace p459 := eq_true p459
    replace q459 := eq_true q459
    have hcz39_0 : wr.cell? ⟨gb458, 0, none⟩ = some (.int .i64 a0_0) := (blk_cell BK458.out 0).trans rfl
    have hcz39_1 : wr.cell? ⟨gb458, 1, none⟩ = some (.int .i64 a0_1) := (blk_cell BK458.out 1).trans rfl
    have hcz39_2 : wr.cell? ⟨gb458, 2, none⟩ = some (.slice A0_2 l0_2.length c0_2) := (blk_cell BK458.out 2).trans rfl
    have hfz39_0 := blk_frozen BK458.out 0
    have hfz39_1 := blk_frozen BK458.out 1
    have hfz39_2 := blk_frozen BK458.out 2
    go_wp2_with (first | ((with_reducible refine gate_callee (f := 88) rfl ?_); refine goesL_ (some 24) rfl rfl Try.func88 (by kernel_rfl) rfl #[.agg #[.int .i64 a0_0, .int .i64 a0_1, .slice A0_2 l0_2.length c0_2], .int .i64 x17_1] rfl zs6 ?_; (with_reducible refine (impl_Board_has.calls k1 a0_0 a0_1 _ _ l0_2 x17_1 false _ ?side1 ?side2 A9.out).mono ?_); (case side1 => exact zs2); (case side2 => exact HC0_2.out); rintro e w40 ⟨rfl, hb⟩; refine ⟨_, rfl, ?_⟩; have n0_ := Aside0.mk (blk_below (g := gb458) (o := .cells #[.int .i64 a0_0, .int .i64 a0_1, .slice A0_2 l0_2.length c0_2] 30 (0, 0)) zs3 hb); have n1_ := Aside0.mk (below_step zs1 hb); clear BK458; clear HB; have BK458 := n0_; have HB := n1_; clear n0_ n1_; (try clear hb); (try clear hb2); (try clear hk); (try clear hi); (try clear hna_); (try clear hnb_); have hcz41_0 : w40.cell? ⟨gb458, 0, none⟩ = some (.int .i64 a0_0) := (blk_cell BK458.out 0).trans rfl; have hcz41_1 : w40.cell? ⟨gb458, 1, none⟩ = some (.int .i64 a0_1) := (blk_cell BK458.out 1).trans rfl; have hcz41_2 : w40.cell? ⟨gb458, 2, none⟩ = some (.slice A0_2 l0_2.length c0_2) := (blk_cell BK458.out 2).trans rfl; have hfz41_0 := blk_frozen BK458.out 0; have hfz41_1 := blk_frozen BK458.out 1; have hfz41_2 := blk_frozen BK458.out 2) | (go_at_call 88; (with_reducible refine (impl_Board_has.calls k1 a0_0 a0_1 _ _ l0_2 x17_1 false _ ?side1 ?side2 A32.out).mono ?_); (case side1 => exact zs2); (case side2 => exact HC0_2.out); rintro e w42 ⟨rfl, hb⟩; have n0_ := Aside0.mk (blk_below (g := gb458) (o := .cells #[.int .i64 a0_0, .int .i64 a0_1, .slice A0_2 l0_2.length c0_2] 30 (0, 0)) zs3 hb); have n1_ := Aside0.mk (below_step zs1 hb); clear BK458; clear HB; have BK458 := n0_; have HB := n1_; clear n0_ n1_; (try clear hb); (try clear hb2); (try clear hk); (try clear hi); (try clear hna_); (try clear hnb_)))
    go_roundg k1
    case measure => have := HK1.out; omega
    case rel => exact ⟨(wrap64 (x17_1 + 1)), zs11, H', ⟨by have := HK1.out; omega⟩, ⟨zs3⟩, ⟨zs1⟩⟩
   subst c10
   have H1 : (if (rd l1 x17_1) < 0 then (some false) else (if (rd l1 x17_1) ≥ 9 then (some false) else ((impl_Board_has.f k1 a0_0 a0_1 l0_2 x17_1).bind fun t461 => (if t461 = true then (impl_Board_coloured.l0 k1 l1 (l1.length : Int) (wrap64 (x17_1 + 1)) a0_0 a0_1 l0_2) else (if (rd l1 x17_1) = (-1) then (impl_Board_coloured.l0 k1 l1 (l1.length : Int) (wrap64 (x17_1 + 1)) a0_0 a0_1 l0_2) else (some false)))))) = some r := by rw [if_pos rfl] at H; exact H
   clear H
   have H := H1
   clear H1
   by_cases c11 : (rd l1 x17_1) < 0
   ·rw [if_pos c11] at H
    have c11b0 : decide ((rd l1 x17_1) < 0) = true := decide_eq_true c11
    clear c11
    obtain rfl := Option.some.inj H
    have p459 : 0 ≤ (x17_1 : Int) := of_decide_eq_true zs5
    have q459 : x17_1 < (l1.length : Int) := of_decide_eq_true zs5
    obtain ⟨ad459, e459, hx459_0⟩ := Kd.at_int HR1.out x17_1 p459 q459
    cases e459
    (first | replace hx459_0 := (HB.out.cell (World.block_lt_of_cell? w _ hx459_0)).trans hx459_0 | skip)
    replace p459 := eq_true p459
    replace q459 := eq_true q459
    have hcz12_0 : wr.cell? ⟨gb458, 0, none⟩ = some (.int .i64 a0_0) := (blk_cell BK458.out 0).trans rfl
    have hcz12_1 : wr.cell? ⟨gb458, 1, none⟩ = some (.int .i64 a0_1) := (blk_cell BK458.out 1).trans rfl
    have hcz12_2 : wr.cell? ⟨gb458, 2, none⟩ = some (.slice A0_2 l0_2.length c0_2) := (blk_cell BK458.out 2).trans rfl
    have hfz12_0 := blk_frozen BK458.out 0
    have hfz12_1 := blk_frozen BK458.out 1
    have hfz12_2 := blk_frozen BK458.out 2
    go_wp2_with (first | ((with_reducible refine gate_callee (f := 88) rfl ?_); refine goesL_ (some 24) rfl rfl Try.func88 (by kernel_rfl) rfl #[.agg #[.int .i64 a0_0, .int .i64 a0_1, .slice A0_2 l0_2.length c0_2], .int .i64 x17_1] rfl zs6 ?_; (with_reducible refine (impl_Board_has.calls k1 a0_0 a0_1 _ _ l0_2 x17_1 true _ ?side1 ?side2 A9.out).mono ?_); (case side1 => exact zs2); (case side2 => exact HC0_2.out); rintro e w13 ⟨rfl, hb⟩; refine ⟨_, rfl, ?_⟩; have n0_ := Aside0.mk (blk_below (g := gb458) (o := .cells #[.int .i64 a0_0, .int .i64 a0_1, .slice A0_2 l0_2.length c0_2] 30 (0, 0)) zs3 hb); have n1_ := Aside0.mk (below_step zs1 hb); clear BK458; clear HB; have BK458 := n0_; have HB := n1_; clear n0_ n1_; (try clear hb); (try clear hb2); (try clear hk); (try clear hi); (try clear hna_); (try clear hnb_)))
    go_ret
    exact ⟨zs9, zs1⟩
   rw [if_neg c11] at H
   have c11b0 : decide ((rd l1 x17_1) < 0) = false := decide_eq_false c11
   clear c11
   by_cases c14 : (rd l1 x17_1) ≥ 9
   ·rw [if_pos c14] at H
    have c14b0 : decide (9 ≤ (rd l1 x17_1)) = true := decide_eq_true c14
    clear c14
    obtain rfl := Option.some.inj H
    have p459 : 0 ≤ (x17_1 : Int) := of_decide_eq_true zs5
    have q459 : x17_1 < (l1.length : Int) := of_decide_eq_true zs5
    obtain ⟨ad459, e459, hx459_0⟩ := Kd.at_int HR1.out x17_1 p459 q459
    cases e459
    (first | replace hx459_0 := (HB.out.cell (World.block_lt_of_cell? w _ hx459_0)).trans hx459_0 | skip)
    replace p459 := eq_true p459
    replace q459 := eq_true q459
    have hcz15_0 : wr.cell? ⟨gb458, 0, none⟩ = some (.int .i64 a0_0) := (blk_cell BK458.out 0).trans rfl
    have hcz15_1 : wr.cell? ⟨gb458, 1, none⟩ = some (.int .i64 a0_1) := (blk_cell BK458.out 1).trans rfl
    have hcz15_2 : wr.cell? ⟨gb458, 2, none⟩ = some (.slice A0_2 l0_2.length c0_2) := (blk_cell BK458.out 2).trans rfl
    have hfz15_0 := blk_frozen BK458.out 0
    have hfz15_1 := blk_frozen BK458.out 1
    have hfz15_2 := blk_frozen BK458.out 2
    go_wp2_with (first | ((with_reducible refine gate_callee (f := 88) rfl ?_); refine goesL_ (some 24) rfl rfl Try.func88 (by kernel_rfl) rfl #[.agg #[.int .i64 a0_0, .int .i64 a0_1, .slice A0_2 l0_2.length c0_2], .int .i64 x17_1] rfl zs6 ?_; (with_reducible refine (impl_Board_has.calls k1 a0_0 a0_1 _ _ l0_2 x17_1 true _ ?side1 ?side2 A9.out).mono ?_); (case side1 => exact zs2); (case side2 => exact HC0_2.out); rintro e w16 ⟨rfl, hb⟩; refine ⟨_, rfl, ?_⟩; have n0_ := Aside0.mk (blk_below (g := gb458) (o := .cells #[.int .i64 a0_0, .int .i64 a0_1, .slice A0_2 l0_2.length c0_2] 30 (0, 0)) zs3 hb); have n1_ := Aside0.mk (below_step zs1 hb); clear BK458; clear HB; have BK458 := n0_; have HB := n1_; clear n0_ n1_; (try clear hb); (try clear hb2); (try clear hk); (try clear hi); (try clear hna_); (try clear hnb_)))
    go_ret
    exact ⟨zs9, zs1⟩
   rw [if_neg c14] at H
   have c14b0 : decide (9 ≤ (rd l1 x17_1)) = false := decide_eq_false c14
   clear c14
   replace H := Option.bind_eq_some_iff.mp H
   obtain ⟨t461, A170, H⟩ := H
   replace H : (if t461 = true then (impl_Board_coloured.l0 k1 l1 (l1.length : Int) (wrap64 (x17_1 + 1)) a0_0 a0_1 l0_2) else (if (rd l1 x17_1) = (-1) then (impl_Board_coloured.l0 k1 l1 (l1.length : Int) (wrap64 (x17_1 + 1)) a0_0 a0_1 l0_2) else (some false))) = some r := H
   have A17 := Aside0.mk A170
   clear A170
   by_cases c18 : t461 = true
   ·subst c18
    have H1 : (impl_Board_coloured.l0 k1 l1 (l1.length : Int) (wrap64 (x17_1 + 1)) a0_0 a0_1 l0_2) = some r := by rw [if_pos rfl] at H; exact H
    clear H
    have H := H1
    clear H1
    have H' := Aside0.mk H
    clear H
    have p459 : 0 ≤ (x17_1 : Int) := of_decide_eq_true zs5
    have q459 : x17_1 < (l1.length : Int) := of_decide_eq_true zs5
    obtain ⟨ad459, e459, hx459_0⟩ := Kd.at_int HR1.out x17_1 p459 q459
    cases e459
    (first | replace hx459_0 := (HB.out.cell (World.block_lt_of_cell? w _ hx459_0)).trans hx459_0 | skip)
    replace p459 := eq_true p459
    replace q459 := eq_true q459
    have hcz19_0 : wr.cell? ⟨gb458, 0, none⟩ = some (.int .i64 a0_0) := (blk_cell BK458.out 0).trans rfl
    have hcz19_1 : wr.cell? ⟨gb458, 1, none⟩ = some (.int .i64 a0_1) := (blk_cell BK458.out 1).trans rfl
    have hcz19_2 : wr.cell? ⟨gb458, 2, none⟩ = some (.slice A0_2 l0_2.length c0_2) := (blk_cell BK458.out 2).trans rfl
    have hfz19_0 := blk_frozen BK458.out 0
    have hfz19_1 := blk_frozen BK458.out 1
    have hfz19_2 := blk_frozen BK458.out 2
    go_wp2_with (first | ((with_reducible refine gate_callee (f := 88) rfl ?_); refine goesL_ (some 24) rfl rfl Try.func88 (by kernel_rfl) rfl #[.agg #[.int .i64 a0_0, .int .i64 a0_1, .slice A0_2 l0_2.length c0_2], .int .i64 x17_1] rfl zs6 ?_; (with_reducible refine (impl_Board_has.calls k1 a0_0 a0_1 _ _ l0_2 x17_1 true _ ?side1 ?side2 A9.out).mono ?_); (case side1 => exact zs2); (case side2 => exact HC0_2.out); rintro e w20 ⟨rfl, hb⟩; refine ⟨_, rfl, ?_⟩; have n0_ := Aside0.mk (blk_below (g := gb458) (o := .cells #[.int .i64 a0_0, .int .i64 a0_1, .slice A0_2 l0_2.length c0_2] 30 (0, 0)) zs3 hb); have n1_ := Aside0.mk (below_step zs1 hb); clear BK458; clear HB; have BK458 := n0_; have HB := n1_; clear n0_ n1_; (try clear hb); (try clear hb2); (try clear hk); (try clear hi); (try clear hna_); (try clear hnb_); have hcz21_0 : w20.cell? ⟨gb458, 0, none⟩ = some (.int .i64 a0_0) := (blk_cell BK458.out 0).trans rfl; have hcz21_1 : w20.cell? ⟨gb458, 1, none⟩ = some (.int .i64 a0_1) := (blk_cell BK458.out 1).trans rfl; have hcz21_2 : w20.cell? ⟨gb458, 2, none⟩ = some (.slice A0_2 l0_2.length c0_2) := (blk_cell BK458.out 2).trans rfl; have hfz21_0 := blk_frozen BK458.out 0; have hfz21_1 := blk_frozen BK458.out 1; have hfz21_2 := blk_frozen BK458.out 2) | (go_at_call 88; (with_reducible refine (impl_Board_has.calls k1 a0_0 a0_1 _ _ l0_2 x17_1 true _ ?side1 ?side2 A17.out).mono ?_); (case side1 => exact zs2); (case side2 => exact HC0_2.out); rintro e w22 ⟨rfl, hb⟩; have n0_ := Aside0.mk (blk_below (g := gb458) (o := .cells #[.int .i64 a0_0, .int .i64 a0_1, .slice A0_2 l0_2.length c0_2] 30 (0, 0)) zs3 hb); have n1_ := Aside0.mk (below_step zs1 hb); clear BK458; clear HB; have BK458 := n0_; have HB := n1_; clear n0_ n1_; (try clear hb); (try clear hb2); (try clear hk); (try clear hi); (try clear hna_); (try clear hnb_)))
    go_roundg k1
    case measure => have := HK1.out; omega
    case rel => exact ⟨(wrap64 (x17_1 + 1)), zs11, H', ⟨by have := HK1.out; omega⟩, ⟨zs3⟩, ⟨zs1⟩⟩
   replace c18 := Bool.eq_false_iff.mpr c18
   subst c18
   have H1 : (if (rd l1 x17_1) = (-1) then (impl_Board_coloured.l0 k1 l1 (l1.length : Int) (wrap64 (x17_1 + 1)) a0_0 a0_1 l0_2) else (some false)) = some r := by rw [if_neg (show ¬ (false = true) by decide)] at H; exact H
   clear H
   have H := H1
   clear H1
   by_cases c23 : (rd l1 x17_1) = (-1)
   rotate_left
   ·rw [if_neg c23] at H
    have c23b0 : ((rd l1 x17_1) == (-1)) = false := beq_eq_false_iff_ne.mpr c23
    have c23b1 : ((rd l1 x17_1) != (-1)) = true := bne_iff_ne.mpr c23
    obtain rfl := Option.some.inj H
    have p459 : 0 ≤ (x17_1 : Int) := of_decide_eq_true zs5
    have q459 : x17_1 < (l1.length : Int) := of_decide_eq_true zs5
    obtain ⟨ad459, e459, hx459_0⟩ := Kd.at_int HR1.out x17_1 p459 q459
    cases e459
    (first | replace hx459_0 := (HB.out.cell (World.block_lt_of_cell? w _ hx459_0)).trans hx459_0 | skip)
    replace p459 := eq_true p459
    replace q459 := eq_true q459
    have hcz28_0 : wr.cell? ⟨gb458, 0, none⟩ = some (.int .i64 a0_0) := (blk_cell BK458.out 0).trans rfl
    have hcz28_1 : wr.cell? ⟨gb458, 1, none⟩ = some (.int .i64 a0_1) := (blk_cell BK458.out 1).trans rfl
    have hcz28_2 : wr.cell? ⟨gb458, 2, none⟩ = some (.slice A0_2 l0_2.length c0_2) := (blk_cell BK458.out 2).trans rfl
    have hfz28_0 := blk_frozen BK458.out 0
    have hfz28_1 := blk_frozen BK458.out 1
    have hfz28_2 := blk_frozen BK458.out 2
    go_wp2_with (first | ((with_reducible refine gate_callee (f := 88) rfl ?_); refine goesL_ (some 24) rfl rfl Try.func88 (by kernel_rfl) rfl #[.agg #[.int .i64 a0_0, .int .i64 a0_1, .slice A0_2 l0_2.length c0_2], .int .i64 x17_1] rfl zs6 ?_; (with_reducible refine (impl_Board_has.calls k1 a0_0 a0_1 _ _ l0_2 x17_1 true _ ?side1 ?side2 A9.out).mono ?_); (case side1 => exact zs2); (case side2 => exact HC0_2.out); rintro e w29 ⟨rfl, hb⟩; refine ⟨_, rfl, ?_⟩; have n0_ := Aside0.mk (blk_below (g := gb458) (o := .cells #[.int .i64 a0_0, .int .i64 a0_1, .slice A0_2 l0_2.length c0_2] 30 (0, 0)) zs3 hb); have n1_ := Aside0.mk (below_step zs1 hb); clear BK458; clear HB; have BK458 := n0_; have HB := n1_; clear n0_ n1_; (try clear hb); (try clear hb2); (try clear hk); (try clear hi); (try clear hna_); (try clear hnb_); have hcz30_0 : w29.cell? ⟨gb458, 0, none⟩ = some (.int .i64 a0_0) := (blk_cell BK458.out 0).trans rfl; have hcz30_1 : w29.cell? ⟨gb458, 1, none⟩ = some (.int .i64 a0_1) := (blk_cell BK458.out 1).trans rfl; have hcz30_2 : w29.cell? ⟨gb458, 2, none⟩ = some (.slice A0_2 l0_2.length c0_2) := (blk_cell BK458.out 2).trans rfl; have hfz30_0 := blk_frozen BK458.out 0; have hfz30_1 := blk_frozen BK458.out 1; have hfz30_2 := blk_frozen BK458.out 2) | (go_at_call 88; (with_reducible refine (impl_Board_has.calls k1 a0_0 a0_1 _ _ l0_2 x17_1 false _ ?side1 ?side2 A17.out).mono ?_); (case side1 => exact zs2); (case side2 => exact HC0_2.out); rintro e w31 ⟨rfl, hb⟩; have n0_ := Aside0.mk (blk_below (g := gb458) (o := .cells #[.int .i64 a0_0, .int .i64 a0_1, .slice A0_2 l0_2.length c0_2] 30 (0, 0)) zs3 hb); have n1_ := Aside0.mk (below_step zs1 hb); clear BK458; clear HB; have BK458 := n0_; have HB := n1_; clear n0_ n1_; (try clear hb); (try clear hb2); (try clear hk); (try clear hi); (try clear hna_); (try clear hnb_)))
    go_ret
    exact ⟨zs9, zs1⟩
   rw [if_pos c23] at H
   have c23b0 : ((rd l1 x17_1) == (-1)) = true := beq_iff_eq.mpr c23
   have c23b1 : ((rd l1 x17_1) != (-1)) = false := bne_eq_false_iff_eq.mpr c23
   clear c23
   have H' := Aside0.mk H
   clear H
   have p459 : 0 ≤ (x17_1 : Int) := of_decide_eq_true zs5
   have q459 : x17_1 < (l1.length : Int) := of_decide_eq_true zs5
   obtain ⟨ad459, e459, hx459_0⟩ := Kd.at_int HR1.out x17_1 p459 q459
   cases e459
   (first | replace hx459_0 := (HB.out.cell (World.block_lt_of_cell? w _ hx459_0)).trans hx459_0 | skip)
   replace p459 := eq_true p459
   replace q459 := eq_true q459
   have hcz24_0 : wr.cell? ⟨gb458, 0, none⟩ = some (.int .i64 a0_0) := (blk_cell BK458.out 0).trans rfl
   have hcz24_1 : wr.cell? ⟨gb458, 1, none⟩ = some (.int .i64 a0_1) := (blk_cell BK458.out 1).trans rfl
   have hcz24_2 : wr.cell? ⟨gb458, 2, none⟩ = some (.slice A0_2 l0_2.length c0_2) := (blk_cell BK458.out 2).trans rfl
   have hfz24_0 := blk_frozen BK458.out 0
   have hfz24_1 := blk_frozen BK458.out 1
   have hfz24_2 := blk_frozen BK458.out 2
   go_wp2_with (first | ((with_reducible refine gate_callee (f := 88) rfl ?_); refine goesL_ (some 24) rfl rfl Try.func88 (by kernel_rfl) rfl #[.agg #[.int .i64 a0_0, .int .i64 a0_1, .slice A0_2 l0_2.length c0_2], .int .i64 x17_1] rfl zs6 ?_; (with_reducible refine (impl_Board_has.calls k1 a0_0 a0_1 _ _ l0_2 x17_1 true _ ?side1 ?side2 A9.out).mono ?_); (case side1 => exact zs2); (case side2 => exact HC0_2.out); rintro e w25 ⟨rfl, hb⟩; refine ⟨_, rfl, ?_⟩; have n0_ := Aside0.mk (blk_below (g := gb458) (o := .cells #[.int .i64 a0_0, .int .i64 a0_1, .slice A0_2 l0_2.length c0_2] 30 (0, 0)) zs3 hb); have n1_ := Aside0.mk (below_step zs1 hb); clear BK458; clear HB; have BK458 := n0_; have HB := n1_; clear n0_ n1_; (try clear hb); (try clear hb2); (try clear hk); (try clear hi); (try clear hna_); (try clear hnb_); have hcz26_0 : w25.cell? ⟨gb458, 0, none⟩ = some (.int .i64 a0_0) := (blk_cell BK458.out 0).trans rfl; have hcz26_1 : w25.cell? ⟨gb458, 1, none⟩ = some (.int .i64 a0_1) := (blk_cell BK458.out 1).trans rfl; have hcz26_2 : w25.cell? ⟨gb458, 2, none⟩ = some (.slice A0_2 l0_2.length c0_2) := (blk_cell BK458.out 2).trans rfl; have hfz26_0 := blk_frozen BK458.out 0; have hfz26_1 := blk_frozen BK458.out 1; have hfz26_2 := blk_frozen BK458.out 2) | (go_at_call 88; (with_reducible refine (impl_Board_has.calls k1 a0_0 a0_1 _ _ l0_2 x17_1 false _ ?side1 ?side2 A17.out).mono ?_); (case side1 => exact zs2); (case side2 => exact HC0_2.out); rintro e w27 ⟨rfl, hb⟩; have n0_ := Aside0.mk (blk_below (g := gb458) (o := .cells #[.int .i64 a0_0, .int .i64 a0_1, .slice A0_2 l0_2.length c0_2] 30 (0, 0)) zs3 hb); have n1_ := Aside0.mk (below_step zs1 hb); clear BK458; clear HB; have BK458 := n0_; have HB := n1_; clear n0_ n1_; (try clear hb); (try clear hb2); (try clear hk); (try clear hi); (try clear hna_); (try clear hnb_)))
   go_roundg k1
   case measure => have := HK1.out; omega
   case rel => exact ⟨(wrap64 (x17_1 + 1)), zs11, H', ⟨by have := HK1.out; omega⟩, ⟨zs3⟩, ⟨zs1⟩⟩

/-! ### impl_graph_pairs: function 97 -/
mutual
def impl_graph_pairs.l0 : Nat → List (List Int) → List Int → Int → Int → Int → Int → List Int → Int → Int → List Int → List (List Int) → Option ((List (List Int)))
 | 0, _, _, _, _, _, _, _, _, _, _, _ => none
 | k + 1, x3, x11, x12, x13, x1000, x1001, x1002, x1003, x1004, x1005, x1006 => if x13 < x12 then (if 0 ≤ x13 then (if x13 < (x11.length : Int) then (if 0 ≤ (rd x11 x13) then (if (rd x11 x13) < (x1006.length : Int) then (impl_graph_pairs.l1 k x3 (rd x11 x13) x11 x12 x13 (rd_L1 x1006 (rd x11 x13)) ((rd_L1 x1006 (rd x11 x13)).length : Int) 0 x1000 x1001 x1002 x1003 x1004 x1005 x1006) else (none)) else (none)) else (none)) else (none)) else (some x3)
def impl_graph_pairs.l1 : Nat → List (List Int) → Int → List Int → Int → Int → List Int → Int → Int → Int → Int → List Int → Int → Int → List Int → List (List Int) → Option ((List (List Int)))
 | 0, _, _, _, _, _, _, _, _, _, _, _, _, _, _, _ => none
 | k + 1, x3, x5, x11, x12, x13, x23, x24, x25, x1000, x1001, x1002, x1003, x1004, x1005, x1006 => if x25 < x24 then (if 0 ≤ x25 then (if x25 < (x23.length : Int) then (if x5 < (rd x23 x25) then (if x3.length < 5864062014805 then (impl_graph_pairs.l1 k (x3 ++ [(([x5, rd x23 x25] : List Int))]) x5 x11 x12 x13 x23 x24 (wrap64 (x25 + 1)) x1000 x1001 x1002 x1003 x1004 x1005 x1006) else (none)) else (impl_graph_pairs.l1 k x3 x5 x11 x12 x13 x23 x24 (wrap64 (x25 + 1)) x1000 x1001 x1002 x1003 x1004 x1005 x1006)) else (none)) else (none)) else (impl_graph_pairs.l0 k x3 x11 x12 (wrap64 (x13 + 1)) x1000 x1001 x1002 x1003 x1004 x1005 x1006)
end
def impl_graph_pairs.f (k : Nat) (a0_0 : Int) (a0_1 : Int) (l0_2 : List Int) (a0_3 : Int) (a0_4 : Int) (l0_5 : List Int) (l0_6 : List (List Int)) : Option ((List (List Int))) := impl_graph_pairs.l0 k ([] : List (List Int)) l0_5 (l0_5.length : Int) 0 a0_0 a0_1 l0_2 a0_3 a0_4 l0_5 l0_6
set_option maxHeartbeats 8000000 in
set_option maxRecDepth 100000 in
theorem impl_graph_pairs.calls (k : Nat) (gb0 : Nat) (a0_0 : Int) (a0_1 : Int) (A0_2 : Option Addr) (c0_2 : Nat) (l0_2 : List Int) (a0_3 : Int) (a0_4 : Int) (A0_5 : Option Addr) (c0_5 : Nat) (l0_5 : List Int) (A0_6 : Option Addr) (c0_6 : Nat) (l0_6 : List (List Int)) (r : List (List Int)) (w : World) (hg0 : w.heap[gb0]? = some (.cells #[.int .i64 a0_0, .int .i64 a0_1, .slice A0_2 l0_2.length c0_2, .int .i64 a0_3, .int .i64 a0_4, .slice A0_5 l0_5.length c0_5, .slice A0_6 l0_6.length c0_6] 60 (0, 0))) (hr0_2 : Kd.C (Kd.int .i64) w A0_2 l0_2.length l0_2) (hc0_2 : l0_2.length ≤ c0_2) (hr0_5 : Kd.C (Kd.int .i64) w A0_5 l0_5.length l0_5) (hc0_5 : l0_5.length ≤ c0_5) (hr0_6 : Kd.C (Kd.slice 3 (Kd.int .i64)) w A0_6 l0_6.length l0_6) (hc0_6 : l0_6.length ≤ c0_6) (h : impl_graph_pairs.f k a0_0 a0_1 l0_2 a0_3 a0_4 l0_5 l0_6 = some r) :
  Calls Try.prog 97 #[.pointer (some ⟨gb0, 0, none⟩)] w fun e w' => ∃ v0_ : Value, e = .returned (v0_) ∧ Kd.S (Kd.slice 3 (Kd.int .i64)) 22 w' w.heap.size (fun _ => True) v0_ r ∧ Below w.heap.size w w' := by
 have HR0_2 := Aside0.mk hr0_2
 have HC0_2 := Aside0.mk hc0_2
 clear hr0_2 hc0_2
 have HR0_5 := Aside0.mk hr0_5
 have HC0_5 := Aside0.mk hc0_5
 clear hr0_5 hc0_5
 have HR0_6 := Aside0.mk hr0_6
 have HC0_6 := Aside0.mk hc0_6
 clear hr0_6 hc0_6
 have BK0 := Aside0.mk hg0
 clear hg0
 have HB := Aside0.mk (Below.refl w.heap.size w)
 have H : (impl_graph_pairs.l0 k ([] : List (List Int)) l0_5 (l0_5.length : Int) 0 a0_0 a0_1 l0_2 a0_3 a0_4 l0_5 l0_6) = some r := h
 clear h
 have H' := Aside0.mk H
 clear H
 have hcz2_0 : w.cell? ⟨gb0, 0, none⟩ = some (.int .i64 a0_0) := (blk_cell BK0.out 0).trans rfl
 have hcz2_1 : w.cell? ⟨gb0, 1, none⟩ = some (.int .i64 a0_1) := (blk_cell BK0.out 1).trans rfl
 have hcz2_2 : w.cell? ⟨gb0, 2, none⟩ = some (.slice A0_2 l0_2.length c0_2) := (blk_cell BK0.out 2).trans rfl
 have hcz2_3 : w.cell? ⟨gb0, 3, none⟩ = some (.int .i64 a0_3) := (blk_cell BK0.out 3).trans rfl
 have hcz2_4 : w.cell? ⟨gb0, 4, none⟩ = some (.int .i64 a0_4) := (blk_cell BK0.out 4).trans rfl
 have hcz2_5 : w.cell? ⟨gb0, 5, none⟩ = some (.slice A0_5 l0_5.length c0_5) := (blk_cell BK0.out 5).trans rfl
 have hcz2_6 : w.cell? ⟨gb0, 6, none⟩ = some (.slice A0_6 l0_6.length c0_6) := (blk_cell BK0.out 6).trans rfl
 have hfz2_0 := blk_frozen BK0.out 0
 have hfz2_1 := blk_frozen BK0.out 1
 have hfz2_2 := blk_frozen BK0.out 2
 have hfz2_3 := blk_frozen BK0.out 3
 have hfz2_4 := blk_frozen BK0.out 4
 have hfz2_5 := blk_frozen BK0.out 5
 have hfz2_6 := blk_frozen BK0.out 6
 go_enter Try.func97, Try.ntmps97
 go_wp2
 go_loopg [3, 13] k (fun kq v3 v13 w' => ∃ (x3_1 : List (List Int)) (x13_1 : Int), v13 = .int .i64 x13_1 ∧ Aside0 (impl_graph_pairs.l0 kq x3_1 l0_5 (l0_5.length : Int) x13_1 a0_0 a0_1 l0_2 a0_3 a0_4 l0_5 l0_6 = some r) ∧ Aside0 (kq ≤ k) ∧ Aside0 (Kd.S (Kd.slice 3 (Kd.int .i64)) 22 w' w.heap.size (fun _ => True) v3 x3_1) ∧ Aside0 (w'.heap[gb0]? = some (.cells #[.int .i64 a0_0, .int .i64 a0_1, (.slice A0_2 l0_2.length c0_2), .int .i64 a0_3, .int .i64 a0_4, (.slice A0_5 l0_5.length c0_5), (.slice A0_6 l0_6.length c0_6)] 60 (0, 0))) ∧ Aside0 (Below w.heap.size w w'))
 case atStart => exact ⟨(([] : List (List Int))), (0), zs11, H', ⟨Nat.le_refl _⟩, ⟨by first | exact Kd.S_nil _ _ _ _ _ | exact Kd.N_nil _ _ _ _ _ | exact Kd.V_nil _ _ _ _ _ | exact Kd.Q_nil _ _ _ _ _ | exact Kd.R_nil _ _ _ _ _⟩, ⟨zs7⟩, ⟨zs4⟩⟩
 case round =>
  clear H'
  try clear p2; try clear hcz2_0; try clear hcz2_1; try clear hcz2_2; try clear hcz2_3; try clear hcz2_4; try clear hcz2_5; try clear hcz2_6; try clear hfz2_0; try clear hfz2_1; try clear hfz2_2; try clear hfz2_3; try clear hfz2_4; try clear hfz2_5; try clear hfz2_6
  obtain ⟨x3_1, x13_1, rfl, HA, HK1, HO_3, BK0, HB⟩ := hrel
  cases gk with
  | zero => exact absurd HA.out (by simp [impl_graph_pairs.l0])
  | succ k1 =>
   have H := HA.out
   clear HA
   simp only [impl_graph_pairs.l0] at H
   by_cases c3 : x13_1 < (l0_5.length : Int)
   rotate_left
   ·rw [if_neg c3] at H
    have c3b0 : decide (x13_1 < (l0_5.length : Int)) = false := decide_eq_false c3
    clear c3
    obtain rfl := Option.some.inj H
    go_wp2
    go_ret
    exact ⟨_, zs9, zs10, zs4⟩
   rw [if_pos c3] at H
   have c3b0 : decide (x13_1 < (l0_5.length : Int)) = true := decide_eq_true c3
   clear c3
   by_cases c4 : 0 ≤ x13_1
   rotate_left
   ·rw [if_neg c4] at H
    exact absurd H (by simp)
   rw [if_pos c4] at H
   have c4b0 : decide (0 ≤ x13_1) = true := decide_eq_true c4
   clear c4
   by_cases c5 : x13_1 < (l0_5.length : Int)
   rotate_left
   ·rw [if_neg c5] at H
    exact absurd H (by simp)
   rw [if_pos c5] at H
   have c5b0 : decide (x13_1 < (l0_5.length : Int)) = true := decide_eq_true c5
   clear c5
   by_cases c6 : 0 ≤ (rd l0_5 x13_1)
   rotate_left
   ·rw [if_neg c6] at H
    exact absurd H (by simp)
   rw [if_pos c6] at H
   have c6b0 : decide (0 ≤ (rd l0_5 x13_1)) = true := decide_eq_true c6
   clear c6
   by_cases c7 : (rd l0_5 x13_1) < (l0_6.length : Int)
   rotate_left
   ·rw [if_neg c7] at H
    exact absurd H (by simp)
   rw [if_pos c7] at H
   have c7b0 : decide ((rd l0_5 x13_1) < (l0_6.length : Int)) = true := decide_eq_true c7
   clear c7
   have H' := Aside0.mk H
   clear H
   have p463 : 0 ≤ (x13_1 : Int) := of_decide_eq_true zs5
   have q463 : x13_1 < (l0_5.length : Int) := of_decide_eq_true zs5
   obtain ⟨ad463, e463, hx463_0⟩ := Kd.at_int HR0_5.out x13_1 p463 q463
   cases e463
   (first | replace hx463_0 := (HB.out.cell (World.block_lt_of_cell? w _ hx463_0)).trans hx463_0 | skip)
   replace p463 := eq_true p463
   replace q463 := eq_true q463
   have hcz8_0 : wr.cell? ⟨gb0, 0, none⟩ = some (.int .i64 a0_0) := (blk_cell BK0.out 0).trans rfl
   have hcz8_1 : wr.cell? ⟨gb0, 1, none⟩ = some (.int .i64 a0_1) := (blk_cell BK0.out 1).trans rfl
   have hcz8_2 : wr.cell? ⟨gb0, 2, none⟩ = some (.slice A0_2 l0_2.length c0_2) := (blk_cell BK0.out 2).trans rfl
   have hcz8_3 : wr.cell? ⟨gb0, 3, none⟩ = some (.int .i64 a0_3) := (blk_cell BK0.out 3).trans rfl
   have hcz8_4 : wr.cell? ⟨gb0, 4, none⟩ = some (.int .i64 a0_4) := (blk_cell BK0.out 4).trans rfl
   have hcz8_5 : wr.cell? ⟨gb0, 5, none⟩ = some (.slice (some ad463) l0_5.length c0_5) := (blk_cell BK0.out 5).trans rfl
   have hcz8_6 : wr.cell? ⟨gb0, 6, none⟩ = some (.slice A0_6 l0_6.length c0_6) := (blk_cell BK0.out 6).trans rfl
   have hfz8_0 := blk_frozen BK0.out 0
   have hfz8_1 := blk_frozen BK0.out 1
   have hfz8_2 := blk_frozen BK0.out 2
   have hfz8_3 := blk_frozen BK0.out 3
   have hfz8_4 := blk_frozen BK0.out 4
   have hfz8_5 := blk_frozen BK0.out 5
   have hfz8_6 := blk_frozen BK0.out 6
   have p464 : 0 ≤ ((rd l0_5 x13_1) : Int) := of_decide_eq_true zs5
   have q464 : (rd l0_5 x13_1) < (l0_6.length : Int) := of_decide_eq_true zs5
   obtain ⟨ad464, A464_0, c464_0, e464, hx464_0, hl464_0, hi464_0⟩ := at_L1 HR0_6.out (rd l0_5 x13_1) p464 q464
   cases e464
   (first | replace hx464_0 := (HB.out.cell (World.block_lt_of_cell? w _ hx464_0)).trans hx464_0 | skip)
   have HR464_0 := Aside0.mk hi464_0
   have HC464_0 := Aside0.mk hl464_0
   clear hi464_0 hl464_0
   replace p464 := eq_true p464
   replace q464 := eq_true q464
   go_wp2
   go_loopg [3, 25] k1 (fun kq v3 v25 w' => ∃ (x3_2 : List (List Int)) (x25_2 : Int), v25 = .int .i64 x25_2 ∧ Aside0 (impl_graph_pairs.l1 kq x3_2 (rd l0_5 x13_1) l0_5 (l0_5.length : Int) x13_1 (rd_L1 l0_6 (rd l0_5 x13_1)) ((rd_L1 l0_6 (rd l0_5 x13_1)).length : Int) x25_2 a0_0 a0_1 l0_2 a0_3 a0_4 l0_5 l0_6 = some r) ∧ Aside0 (kq ≤ k1) ∧ Aside0 (Kd.S (Kd.slice 3 (Kd.int .i64)) 22 w' w.heap.size (fun _ => True) v3 x3_2) ∧ Aside0 (w'.heap[gb0]? = some (.cells #[.int .i64 a0_0, .int .i64 a0_1, (.slice A0_2 l0_2.length c0_2), .int .i64 a0_3, .int .i64 a0_4, (.slice (some ad463) l0_5.length c0_5), (.slice (some ad464) l0_6.length c0_6)] 60 (0, 0))) ∧ Aside0 (Below w.heap.size w w'))
   case atStart => exact ⟨(x3_1), (0), zs11, H', ⟨Nat.le_refl _⟩, ⟨zs10⟩, ⟨zs7⟩, ⟨zs4⟩⟩
   case round =>
    clear H'
    try clear p2; try clear c3; try clear c3b0; try clear c4; try clear c4b0; try clear p4; try clear q4; try clear hx4; try clear c5; try clear c5b0; try clear c6; try clear c6b0; try clear c7; try clear c7b0; try clear hcz2_0; try clear hcz2_1; try clear hcz2_2; try clear hcz2_3; try clear hcz2_4; try clear hcz2_5; try clear hcz2_6; try clear hcz8_0; try clear hcz8_1; try clear hcz8_2; try clear hcz8_3; try clear hcz8_4; try clear hcz8_5; try clear hcz8_6; try clear hfz2_0; try clear hfz2_1; try clear hfz2_2; try clear hfz2_3; try clear hfz2_4; try clear hfz2_5; try clear hfz2_6; try clear hfz8_0
    try clear hfz8_1; try clear hfz8_2; try clear hfz8_3; try clear hfz8_4; try clear hfz8_5; try clear hfz8_6; try clear hx463_0; try clear hx464_0; try clear p2; try clear p463; try clear p464; try clear q463; try clear q464
    obtain ⟨x3_2, x25_2, rfl, HA, HK2, HO_3, BK0, HB⟩ := hrel
    cases gk with
    | zero => exact absurd HA.out (by simp [impl_graph_pairs.l1])
    | succ k2 =>
     have H := HA.out
     clear HA
     simp only [impl_graph_pairs.l1] at H
     by_cases c9 : x25_2 < ((rd_L1 l0_6 (rd l0_5 x13_1)).length : Int)
     rotate_left
     ·rw [if_neg c9] at H
      have c9b0 : decide (x25_2 < ((rd_L1 l0_6 (rd l0_5 x13_1)).length : Int)) = false := decide_eq_false c9
      clear c9
      have H' := Aside0.mk H
      clear H
      go_wp2
      go_roundg k2
      case measure => have := HK1.out; have := HK2.out; omega
      case rel => exact ⟨(x3_2), (wrap64 (x13_1 + 1)), zs11, H', ⟨by have := HK1.out; have := HK2.out; omega⟩, ⟨zs10⟩, ⟨zs7⟩, ⟨zs4⟩⟩
     rw [if_pos c9] at H
     have c9b0 : decide (x25_2 < ((rd_L1 l0_6 (rd l0_5 x13_1)).length : Int)) = true := decide_eq_true c9
     clear c9
     by_cases c10 : 0 ≤ x25_2
     rotate_left
     ·rw [if_neg c10] at H
      exact absurd H (by simp)
     rw [if_pos c10] at H
     have c10b0 : decide (0 ≤ x25_2) = true := decide_eq_true c10
     clear c10
     by_cases c11 : x25_2 < ((rd_L1 l0_6 (rd l0_5 x13_1)).length : Int)
     rotate_left
     ·rw [if_neg c11] at H
      exact absurd H (by simp)
     rw [if_pos c11] at H
     have c11b0 : decide (x25_2 < ((rd_L1 l0_6 (rd l0_5 x13_1)).length : Int)) = true := decide_eq_true c11
     clear c11
     by_cases c12 : (rd l0_5 x13_1) < (rd (rd_L1 l0_6 (rd l0_5 x13_1)) x25_2)
     rotate_left
     ·rw [if_neg c12] at H
      have c12b0 : decide ((rd l0_5 x13_1) < (rd (rd_L1 l0_6 (rd l0_5 x13_1)) x25_2)) = false := decide_eq_false c12
      clear c12
      have H' := Aside0.mk H
      clear H
      have p465 : 0 ≤ (x25_2 : Int) := of_decide_eq_true zs5
      have q465 : x25_2 < ((rd_L1 l0_6 (rd l0_5 x13_1)).length : Int) := of_decide_eq_true zs5
      obtain ⟨ad465, e465, hx465_0⟩ := Kd.at_int HR464_0.out x25_2 p465 q465
      cases e465
      (first | replace hx465_0 := (HB.out.cell (World.block_lt_of_cell? w _ hx465_0)).trans hx465_0 | skip)
      replace p465 := eq_true p465
      replace q465 := eq_true q465
      go_wp2
      go_roundg k2
      case measure => have := HK1.out; have := HK2.out; omega
      case rel => exact ⟨(x3_2), (wrap64 (x25_2 + 1)), zs11, H', ⟨by have := HK1.out; have := HK2.out; omega⟩, ⟨zs10⟩, ⟨zs7⟩, ⟨zs4⟩⟩
     rw [if_pos c12] at H
     have c12b0 : decide ((rd l0_5 x13_1) < (rd (rd_L1 l0_6 (rd l0_5 x13_1)) x25_2)) = true := decide_eq_true c12
     clear c12
     obtain ⟨y466, hy466⟩ : ∃ y_ : List Int, y_ = (([(rd l0_5 x13_1), rd (rd_L1 l0_6 (rd l0_5 x13_1)) x25_2] : List Int)) := ⟨_, rfl⟩
     replace H : (if x3_2.length < 5864062014805 then (impl_graph_pairs.l1 k2 (x3_2 ++ [y466]) (rd l0_5 x13_1) l0_5 (l0_5.length : Int) x13_1 (rd_L1 l0_6 (rd l0_5 x13_1)) ((rd_L1 l0_6 (rd l0_5 x13_1)).length : Int) (wrap64 (x25_2 + 1)) a0_0 a0_1 l0_2 a0_3 a0_4 l0_5 l0_6) else (none)) = some r := by first | (rw [hy466]; with_reducible exact H) | (have H2_ := (Option.bind_some _ _).symm.trans H; rw [hy466]; with_reducible exact H2_) | (have H2_ := (Option.bind_some _ _).symm.trans H; with_reducible exact H2_) | with_reducible exact H | (rw [hy466]; exact H) | exact H
     have Ny466 := Aside0.mk hy466
     clear hy466
     by_cases c13 : x3_2.length < 5864062014805
     rotate_left
     ·rw [if_neg c13] at H
      exact absurd H (by simp)
     rw [if_pos c13] at H
     have LMc13 := Aside0.mk c13
     clear c13
     obtain ⟨y469, hy469⟩ : ∃ y_ : List (List Int), y_ = (x3_2 ++ [y466]) := ⟨_, rfl⟩
     replace H : (impl_graph_pairs.l1 k2 y469 (rd l0_5 x13_1) l0_5 (l0_5.length : Int) x13_1 (rd_L1 l0_6 (rd l0_5 x13_1)) ((rd_L1 l0_6 (rd l0_5 x13_1)).length : Int) (wrap64 (x25_2 + 1)) a0_0 a0_1 l0_2 a0_3 a0_4 l0_5 l0_6) = some r := by first | (rw [hy469]; with_reducible exact H) | (have H2_ := (Option.bind_some _ _).symm.trans H; rw [hy469]; with_reducible exact H2_) | (have H2_ := (Option.bind_some _ _).symm.trans H; with_reducible exact H2_) | with_reducible exact H | (rw [hy469]; exact H) | exact H
     have Ny469 := Aside0.mk hy469
     clear hy469
     have H' := Aside0.mk H
     clear H
     have p465 : 0 ≤ (x25_2 : Int) := of_decide_eq_true zs5
     have q465 : x25_2 < ((rd_L1 l0_6 (rd l0_5 x13_1)).length : Int) := of_decide_eq_true zs5
     obtain ⟨ad465, e465, hx465_0⟩ := Kd.at_int HR464_0.out x25_2 p465 q465
     cases e465
     (first | replace hx465_0 := (HB.out.cell (World.block_lt_of_cell? w _ hx465_0)).trans hx465_0 | skip)
     replace p465 := eq_true p465
     replace q465 := eq_true q465
     go_wp2_with (first | ((with_reducible refine gate_dst (N := 35) rfl ?_); refine Kd.R_lit (Kd.int .i64) _ 3 ?hg (N := 35) ?hd (xs := ([(rd l0_5 x13_1), rd (rd_L1 l0_6 (rd l0_5 x13_1)) x25_2] : List Int)) (inner := [.int .i64 (rd l0_5 x13_1), .int .i64 (rd (rd_L1 l0_6 (rd l0_5 x13_1)) x25_2)]) (ok := fun _ => True) (okp := fun _ => True) ?hr ?hp (fun _ hk => hk) trivial (Below.refl _ _) (Nat.le_refl _) (by simp) ?_; (case hd => rfl); (case hg => rfl); (case hr => first | (go_simp; done) | (go_simp; rfl)); (case hp => exact (Reps.one (show Kd.M (Kd.int .i64) _ _ _ (rd l0_5 x13_1) [.int .i64 (rd l0_5 x13_1)] from rfl) (Reps.one (show Kd.M (Kd.int .i64) _ _ _ (rd (rd_L1 l0_6 (rd l0_5 x13_1)) x25_2) [.int .i64 (rd (rd_L1 l0_6 (rd l0_5 x13_1)) x25_2)] from rfl) (Reps.none _ _)))); intro v467 w14 ho15 hb hg_ hnew_; clear hg_ hnew_; (first | rw [← Ny466.out] at ho15 | (simp only [Int.reduceToNat] at ho15; rw [← Ny466.out] at ho15)); have n0_ := Aside0.mk (Kd.S_elder' zs10 (Kd.R_base ho15) hb); have n1_ := Aside0.mk (Kd.R_lower ho15 (below_size zs4)); have n2_ := Aside0.mk (blk_below (g := gb0) (o := .cells #[.int .i64 a0_0, .int .i64 a0_1, .slice A0_2 l0_2.length c0_2, .int .i64 a0_3, .int .i64 a0_4, .slice (some ad463) l0_5.length c0_5, .slice (some ad464) l0_6.length c0_6] 60 (0, 0)) zs7 hb); have n3_ := Aside0.mk (below_step zs4 hb); clear HO_3; clear BK0; clear HB; have HO_3 := n0_; have HO468 := n1_; have BK0 := n2_; have HB := n3_; clear n0_ n1_ n2_ n3_; clear hb ho15; obtain ⟨Ao17, co17, eo17⟩ := Kd.R_slice HO468.out; subst eo17) | ((with_reducible refine gate_builtin (b := .append) (xs := #[.tmp 32, .tmp 36]) rfl ?_); at_builtin; refine Kd.S_append (Kd.slice 3 (Kd.int .i64)) (w0 := w) w.heap.size rfl (.tmp 32) (.tmp 36) 58 22 (.slice none 0 0) 24 rfl Try.underlying58 info22 rfl (by decide) (by omega) u3 x3_2 y466 [.slice Ao17 y466.length co17] (fun _ => True) (fun k_ => some k_ = (.slice Ao17 y466.length co17 : Value).ownBlock) rfl rfl ?aP (fun k_ hk_ => ((Kd.R_mono (ok' := fun k_ => ((fun _ => True)) k_ ∧ some k_ ≠ (u3 : Value).ownBlock) (Kd.R_apart' (HO468.out) (Kd.S_typed HO_3.out) (by decide)) (fun k_ hk => ⟨trivial, hk.2⟩))).1 k_ hk_.symm) ?aF ?aO ?aB ?aS ?aL ?_; (case aP => exact Kd.M_row (Kd.R_mono (Kd.R_tight rfl (Kd.R_mono (ok' := fun k_ => ((fun _ => True)) k_ ∧ some k_ ≠ (u3 : Value).ownBlock) (Kd.R_apart' (HO468.out) (Kd.S_typed HO_3.out) (by decide)) (fun k_ hk => ⟨trivial, hk.2⟩))) (fun _ h_ => h_))); (case aB => exact zs4); (case aF => exact (fun _ _ => trivial)); (case aO => exact (by (with_reducible repeat (first | apply Kd.S_alloc | apply Kd.S_drewN | apply Kd.S_drew)); exact Kd.S_mono HO_3.out (fun k_ hk => ⟨trivial, fun e_ => hk.2 e_⟩))); (case aS => exact (below_size zs4)); (case aL => have := LMc13.out; omega); intro v470 w16 ho hb hg hat; rw [← Ny469.out] at ho; have n0_ := Aside0.mk (blk_grown (g := gb0) (o := .cells #[.int .i64 a0_0, .int .i64 a0_1, .slice A0_2 l0_2.length c0_2, .int .i64 a0_3, .int .i64 a0_4, .slice (some ad463) l0_5.length c0_5, .slice (some ad464) l0_6.length c0_6] 60 (0, 0)) zs7 hg (Kd.S_ne HO_3.out BK0.out (by decide))); have n1_ := Aside0.mk (hb); have n2_ := Aside0.mk (ho); clear BK0; clear HB; clear HO_3; clear HO468; have BK0 := n0_; have HB := n1_; have HO471 := n2_; clear n0_ n1_ n2_; clear ho hb hg hat))
     go_roundg k2
     case measure => have := HK1.out; have := HK2.out; omega
     case rel => exact ⟨(y469), (wrap64 (x25_2 + 1)), zs11, H', ⟨by have := HK1.out; have := HK2.out; omega⟩, ⟨by (with_reducible repeat (first | apply Kd.S_alloc | apply Kd.S_drewN | apply Kd.S_drew)); exact HO471.out⟩, ⟨zs7⟩, ⟨zs4⟩⟩

end Go.Proofs.Ythoklbeenjppbaa.Q

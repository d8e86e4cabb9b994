/- Written by a program of this session: functions of the translation as plain Lean functions, each with a proof that the call does what the plain function says; the conditions stand in each theorem. -/
import Derived.Test.YthoklbeenjppbaaQ0
import Derived.Test.YthoklbeenjppbaaQ1
import Derived.Test.YthoklbeenjppbaaQ8
import Derived.Test.YthoklbeenjppbaaQ12
namespace Go.Proofs.Ythoklbeenjppbaa.Q
open Go.RowKit Go.Proofs.YthoklbeenjppbaaW.PrintWords Go.Proofs.YthoklbeenjppbaaW.PrintLast Go.Proofs.YthoklbeenjppbaaW.PrintMore
attribute [local go_sem] max2_int min2_int max_two min_two max_three min_three max_four min_four   -- for this text's walks alone
set_option linter.unusedVariables false
set_option linter.unusedSimpArgs false

theorem zr1 {p : Prop} (h : p := by repeat (first | (with_reducible first | exact HB.out | apply below_alloc | apply pw_below_drewN | apply below_drew1 | refine below_set ?_ GE441.out | refine below_set ?_ GE442.out) | exact HB.out)) : p := h
theorem zr2 {p : Prop} (h : p := by repeat (first | exact (Kd.C_below HR0_2.out HB.out) | (with_reducible refine Kd.C_alloc ?_ _) | (with_reducible refine Kd.C_drewN ?_ _) | (with_reducible refine Kd.C_drew ?_))) : p := h
theorem zr3 {p : Prop} (h : p := by repeat (first | (with_reducible first | exact HB.out | apply below_alloc | apply pw_below_drewN | apply below_drew1) | exact HB.out)) : p := h
theorem zr4 {p : Prop} (h : p := by repeat (first | (with_reducible first | exact HB.out | apply below_alloc | apply pw_below_drewN | apply below_drew1 | refine below_set ?_ GE436.out) | exact HB.out)) : p := h
theorem zr5 {p : Prop} (h : p := by (with_reducible repeat (first | refine blk_drewN ?_ _ | refine blk_drew ?_ | refine blk_alloc ?_ _)); exact BK441.out) : p := h
theorem zr6 {p : Prop} (h : p := by (try simp only [List.map_toArray, List.map_cons, List.map_nil]); first | done | rfl | (simp only [List.length_drop, List.length_take]; rfl)) : p := h
theorem zr7 {p : Prop} (h : p := by (with_reducible repeat (first | refine blk_drewN ?_ _ | refine blk_drew ?_ | refine blk_alloc ?_ _)); exact BK453.out) : p := h
theorem zr8 {p : Prop} (h : p := by repeat (first | (with_reducible first | exact HB.out | apply below_alloc | apply pw_below_drewN | apply below_drew1 | refine below_set ?_ GE453.out | refine below_set ?_ GE454.out) | exact HB.out)) : p := h
theorem zr9 {p : Prop} (h : p := by (with_reducible repeat (first | refine blk_drewN ?_ _ | refine blk_drew ?_ | refine blk_alloc ?_ _)); exact BK442.out) : p := h
theorem zr10 {p : Prop} (h : p := by repeat (first | (with_reducible first | exact HB.out | apply below_alloc | apply pw_below_drewN | apply below_drew1 | refine below_set ?_ GE453.out) | exact HB.out)) : p := h
theorem zr11 {p : Prop} (h : p := by (with_reducible repeat (first | refine blk_drewN ?_ _ | refine blk_drew ?_ | refine blk_alloc ?_ _)); exact BK436.out) : p := h
theorem zr12 {p : Prop} (h : p := by (with_reducible repeat (first | apply Kd.R_alloc | apply Kd.R_drewN | apply Kd.R_drew)); exact HO_12.out) : p := h
theorem zr13 {p : Prop} (h : p := by first | (with_reducible assumption) | assumption) : p := h
theorem zr14 {p : Prop} (h : p := by repeat (first | (with_reducible first | exact HB.out | apply below_alloc | apply pw_below_drewN | apply below_drew1 | refine below_set ?_ GE441.out) | exact HB.out)) : p := h
theorem zr15 {p : Prop} (h : p := by first | rfl | (simp [errW_none, errW_some] <;> rfl) | (simp [*, errW_none, errW_some] <;> rfl)) : p := h
theorem zr16 {p : Prop} (h : p := by (with_reducible repeat (first | refine blk_drewN ?_ _ | refine blk_drew ?_ | refine blk_alloc ?_ _)); exact BK454.out) : p := h
theorem zr17 {p : Prop} (h : p := by repeat (first | exact (Kd.C_below HR2.out HB.out) | (with_reducible refine Kd.C_alloc ?_ _) | (with_reducible refine Kd.C_drewN ?_ _) | (with_reducible refine Kd.C_drew ?_))) : p := h
theorem zr18 {p : Prop} (h : p := by first | rfl | (simp; done) | (simp [*]; done)) : p := h
theorem zr19 {p : Prop} (h : p := by rw [hg]; exact (below_size zr3)) : p := h
theorem zr20 {p : Prop} (h : p := by repeat (first | exact (Kd.C_below HR0_2.out zr4) | (with_reducible refine Kd.C_alloc ?_ _) | (with_reducible refine Kd.C_drewN ?_ _) | (with_reducible refine Kd.C_drew ?_))) : p := h
theorem zr21 {p : Prop} (h : p := by rw [hg]; exact Nat.ne_of_lt (blk_lt (g := gb453) (o := .cells #[.int .i64 a0_0, .int .i64 a0_1, .slice A0_2 l0_2.length c0_2] 30 (0, 0)) zr7)) : p := h
theorem zr22 {p : Prop} (h : p := by rw [hg]; exact Nat.ne_of_gt (blk_lt (g := gb453) (o := .cells #[.int .i64 a0_0, .int .i64 a0_1, .slice A0_2 l0_2.length c0_2] 30 (0, 0)) zr7)) : p := h
theorem zr23 {p : Prop} (h : p := by rw [hg]; exact (below_size zr10)) : p := h
theorem zr24 {p : Prop} (h : p := by rw [hg]; exact Nat.ne_of_lt (blk_lt (g := gb441) (o := .cells #[.int .i64 a0_0, .int .i64 a0_1, .slice A0_2 l0_2.length c0_2] 30 (0, 0)) zr5)) : p := h
theorem zr25 {p : Prop} (h : p := by rw [hg]; exact Nat.ne_of_gt (blk_lt (g := gb441) (o := .cells #[.int .i64 a0_0, .int .i64 a0_1, .slice A0_2 l0_2.length c0_2] 30 (0, 0)) zr5)) : p := h
/-! ### spec_paGood: function 58 -/
def spec_paGood.l0 : Nat → List Int → Int → Int → Int → Int → List Int → Option (Bool)
 | 0, _, _, _, _, _, _ => none
 | k + 1, x15, x16, x17, x437000, x437001, x437002 => if x17 < x16 then (if 0 ≤ x17 then (if x17 < (x15.length : Int) then ((spec_boHas.f k x437000 x437001 x437002 x17).bind fun t438 => ((spec_l1In.f (rd x15 x17) 0 8).bind fun t439 => (if (t438 != t439) = true then (some false) else ((spec_boHas.f k x437000 x437001 x437002 x17).bind fun t440 => (if t440 = true then (spec_paGood.l0 k x15 x16 (wrap64 (x17 + 1)) x437000 x437001 x437002) else (if (rd x15 x17) = (-1) then (spec_paGood.l0 k x15 x16 (wrap64 (x17 + 1)) x437000 x437001 x437002) else (some false))))))) else (none)) else (none)) else (some true)
def spec_paGood.f (k : Nat) (a0_0 : Int) (a0_1 : Int) (l0_2 : List Int) (l1 : List Int) : Option (Bool) := if (l1.length : Int) = (wrap64 (a0_0 * a0_1)) then (spec_paGood.l0 k l1 (l1.length : Int) 0 a0_0 a0_1 l0_2) else (some false)
set_option maxHeartbeats 8000000 in
set_option maxRecDepth 100000 in
theorem spec_paGood.calls (k : Nat) (a0_0 : Int) (a0_1 : Int) (A0_2 : Option Addr) (c0_2 : Nat) (l0_2 : List Int) (A1 : Option Addr) (c1 : Nat) (l1 : List Int) (r : Bool) (w : World) (hr0_2 : Kd.C (Kd.int .i64) w A0_2 l0_2.length l0_2) (hc0_2 : l0_2.length ≤ c0_2) (hr1 : Kd.C (Kd.int .i64) w A1 l1.length l1) (hc1 : l1.length ≤ c1) (h : spec_paGood.f k a0_0 a0_1 l0_2 l1 = some r) :
  Calls Try.prog 58 #[.agg #[.int .i64 a0_0, .int .i64 a0_1, .slice A0_2 l0_2.length c0_2], .slice A1 l1.length c1] w fun e w' => e = .returned (.bool r) ∧ Below w.heap.size w w' := by
 have hu30 := Try.underlying30
 have HR0_2 := Aside0.mk hr0_2
 have HC0_2 := Aside0.mk hc0_2
 clear hr0_2 hc0_2
 have HR1 := Aside0.mk hr1
 have HC1 := Aside0.mk hc1
 clear hr1 hc1
 have HB := Aside0.mk (Below.refl w.heap.size w)
 have H : (if (l1.length : Int) = (wrap64 (a0_0 * a0_1)) then (spec_paGood.l0 k l1 (l1.length : Int) 0 a0_0 a0_1 l0_2) else (some false)) = some r := h
 clear h
 by_cases c3 : (l1.length : Int) = (wrap64 (a0_0 * a0_1))
 rotate_left
 ·rw [if_neg c3] at H
  have c3b0 : ((l1.length : Int) == (wrap64 (a0_0 * a0_1))) = false := beq_eq_false_iff_ne.mpr c3
  have c3b1 : ((l1.length : Int) != (wrap64 (a0_0 * a0_1))) = true := bne_iff_ne.mpr c3
  obtain rfl := Option.some.inj H
  go_enter Try.func58, Try.ntmps58
  go_wp2_with (first | ((with_reducible refine gate_dst (N := 2) rfl ?_); refine box_event ?hg (N := 2) ?hd (cs := #[.int .i64 a0_0, .int .i64 a0_1, .slice A0_2 l0_2.length c0_2]) (t := 30) ?hr ?_; (case hd => rfl); (case hg => rfl); (case hr => first | (go_simp; done) | (go_simp; rfl)); intro gb436 hg w29 hbox hb; have n0_ := Aside0.mk (below_step zr3 hb); have n1_ := Aside0.mk (hbox); have n2_ := Aside0.mk ((zr19 : w.heap.size ≤ gb436)); have n3_ := Aside0.mk ((zr19 : w.heap.size ≤ gb436)); clear HB; have HB := n0_; have BK436 := n1_; have GW436 := n2_; have GE436 := n3_; clear n0_ n1_ n2_ n3_; clear hb hbox hg; have hcz30_0 : w29.cell? ⟨gb436, 0, none⟩ = some (.int .i64 a0_0) := (blk_cell BK436.out 0).trans rfl; have hcz30_1 : w29.cell? ⟨gb436, 1, none⟩ = some (.int .i64 a0_1) := (blk_cell BK436.out 1).trans rfl; have hcz30_2 : w29.cell? ⟨gb436, 2, none⟩ = some (.slice A0_2 l0_2.length c0_2) := (blk_cell BK436.out 2).trans rfl; have hfz30_0 := blk_frozen BK436.out 0; have hfz30_1 := blk_frozen BK436.out 1; have hfz30_2 := blk_frozen BK436.out 2))
  go_ret
  exact ⟨zr15, zr4⟩
 rw [if_pos c3] at H
 have c3b0 : ((l1.length : Int) == (wrap64 (a0_0 * a0_1))) = true := beq_iff_eq.mpr c3
 have c3b1 : ((l1.length : Int) != (wrap64 (a0_0 * a0_1))) = false := bne_eq_false_iff_eq.mpr c3
 clear c3
 have H' := Aside0.mk H
 clear H
 go_enter Try.func58, Try.ntmps58
 go_wp2_with (first | ((with_reducible refine gate_dst (N := 2) rfl ?_); refine box_event ?hg (N := 2) ?hd (cs := #[.int .i64 a0_0, .int .i64 a0_1, .slice A0_2 l0_2.length c0_2]) (t := 30) ?hr ?_; (case hd => rfl); (case hg => rfl); (case hr => first | (go_simp; done) | (go_simp; rfl)); intro gb436 hg w4 hbox hb; have n0_ := Aside0.mk (below_step zr3 hb); have n1_ := Aside0.mk (hbox); have n2_ := Aside0.mk ((zr19 : w.heap.size ≤ gb436)); have n3_ := Aside0.mk ((zr19 : w.heap.size ≤ gb436)); clear HB; have HB := n0_; have BK436 := n1_; have GW436 := n2_; have GE436 := n3_; clear n0_ n1_ n2_ n3_; clear hb hbox hg; have hcz5_0 : w4.cell? ⟨gb436, 0, none⟩ = some (.int .i64 a0_0) := (blk_cell BK436.out 0).trans rfl; have hcz5_1 : w4.cell? ⟨gb436, 1, none⟩ = some (.int .i64 a0_1) := (blk_cell BK436.out 1).trans rfl; have hcz5_2 : w4.cell? ⟨gb436, 2, none⟩ = some (.slice A0_2 l0_2.length c0_2) := (blk_cell BK436.out 2).trans rfl; have hfz5_0 := blk_frozen BK436.out 0; have hfz5_1 := blk_frozen BK436.out 1; have hfz5_2 := blk_frozen BK436.out 2))
 go_loopg [17] k (fun kq v17 w' => ∃ (x17_1 : Int), v17 = .int .i64 x17_1 ∧ Aside0 (spec_paGood.l0 kq l1 (l1.length : Int) x17_1 a0_0 a0_1 l0_2 = some r) ∧ Aside0 (kq ≤ k) ∧ Aside0 (w'.heap[gb436]? = some (.cells #[.int .i64 a0_0, .int .i64 a0_1, (.slice A0_2 l0_2.length c0_2)] 30 (0, 0))) ∧ Aside0 (Below w.heap.size w w'))
 case atStart => exact ⟨(0), zr18, H', ⟨Nat.le_refl _⟩, ⟨zr11⟩, ⟨zr4⟩⟩
 case round =>
  clear H'
  try clear c1; try clear p2; try clear c3; try clear c3b0; try clear c3b1; try clear c5; try clear hcz5_0; try clear hcz5_1; try clear hcz5_2; try clear hfz5_0; try clear hfz5_1; try clear hfz5_2
  obtain ⟨x17_1, rfl, HA, HK1, BK436, HB⟩ := hrel
  cases gk with
  | zero => exact absurd HA.out (by simp [spec_paGood.l0])
  | succ k1 =>
   have H := HA.out
   clear HA
   simp only [spec_paGood.l0] at H
   by_cases c6 : x17_1 < (l1.length : Int)
   rotate_left
   ·rw [if_neg c6] at H
    have c6b0 : decide (x17_1 < (l1.length : Int)) = false := decide_eq_false c6
    clear c6
    obtain rfl := Option.some.inj H
    go_wp2
    go_ret
    exact ⟨zr15, zr4⟩
   rw [if_pos c6] at H
   have c6b0 : decide (x17_1 < (l1.length : Int)) = true := decide_eq_true c6
   clear c6
   by_cases c7 : 0 ≤ x17_1
   rotate_left
   ·rw [if_neg c7] at H
    exact absurd H (by simp)
   rw [if_pos c7] at H
   have c7b0 : decide (0 ≤ x17_1) = true := decide_eq_true c7
   clear c7
   by_cases c8 : x17_1 < (l1.length : Int)
   rotate_left
   ·rw [if_neg c8] at H
    exact absurd H (by simp)
   rw [if_pos c8] at H
   have c8b0 : decide (x17_1 < (l1.length : Int)) = true := decide_eq_true c8
   clear c8
   replace H := Option.bind_eq_some_iff.mp H
   obtain ⟨t438, A90, H⟩ := H
   replace H : ((spec_l1In.f (rd l1 x17_1) 0 8).bind fun t439 => (if (t438 != t439) = true then (some false) else ((spec_boHas.f k1 a0_0 a0_1 l0_2 x17_1).bind fun t440 => (if t440 = true then (spec_paGood.l0 k1 l1 (l1.length : Int) (wrap64 (x17_1 + 1)) a0_0 a0_1 l0_2) else (if (rd l1 x17_1) = (-1) then (spec_paGood.l0 k1 l1 (l1.length : Int) (wrap64 (x17_1 + 1)) a0_0 a0_1 l0_2) else (some false)))))) = some r := H
   have A9 := Aside0.mk A90
   clear A90
   replace H := Option.bind_eq_some_iff.mp H
   obtain ⟨t439, A100, H⟩ := H
   replace H : (if (t438 != t439) = true then (some false) else ((spec_boHas.f k1 a0_0 a0_1 l0_2 x17_1).bind fun t440 => (if t440 = true then (spec_paGood.l0 k1 l1 (l1.length : Int) (wrap64 (x17_1 + 1)) a0_0 a0_1 l0_2) else (if (rd l1 x17_1) = (-1) then (spec_paGood.l0 k1 l1 (l1.length : Int) (wrap64 (x17_1 + 1)) a0_0 a0_1 l0_2) else (some false))))) = some r := H
   have A10 := Aside0.mk A100
   clear A100
   by_cases c11 : (t438 != t439) = true
   ·rw [if_pos c11] at H
    have c11b0 : (t438 != t439) = true := c11
    (try (have c11b1 : decide (t438 = t439) = false := by simpa using c11))
    (try (have c11b2 : (t438 == t439) = false := by simpa using c11))
    (try (have c11b3 : ¬ (t438 = t439) := by simpa using c11))
    clear c11
    obtain rfl := Option.some.inj H
    have p437 : 0 ≤ (x17_1 : Int) := of_decide_eq_true zr13
    have q437 : x17_1 < (l1.length : Int) := of_decide_eq_true zr13
    obtain ⟨ad437, e437, hx437_0⟩ := Kd.at_int HR1.out x17_1 p437 q437
    cases e437
    (first | replace hx437_0 := (HB.out.cell (World.block_lt_of_cell? w _ hx437_0)).trans hx437_0 | skip)
    replace p437 := eq_true p437
    replace q437 := eq_true q437
    have hcz12_0 : wr.cell? ⟨gb436, 0, none⟩ = some (.int .i64 a0_0) := (blk_cell BK436.out 0).trans rfl
    have hcz12_1 : wr.cell? ⟨gb436, 1, none⟩ = some (.int .i64 a0_1) := (blk_cell BK436.out 1).trans rfl
    have hcz12_2 : wr.cell? ⟨gb436, 2, none⟩ = some (.slice A0_2 l0_2.length c0_2) := (blk_cell BK436.out 2).trans rfl
    have hfz12_0 := blk_frozen BK436.out 0
    have hfz12_1 := blk_frozen BK436.out 1
    have hfz12_2 := blk_frozen BK436.out 2
    go_wp2_with (first | ((with_reducible refine gate_callee (f := 86) rfl ?_); refine goesL_ (some 24) rfl rfl Try.func86 (by kernel_rfl) rfl #[.agg #[.int .i64 a0_0, .int .i64 a0_1, .slice A0_2 l0_2.length c0_2], .int .i64 x17_1] rfl zr6 ?_; (with_reducible refine (spec_boHas.calls k1 a0_0 a0_1 _ _ l0_2 x17_1 t438 _ ?side1 ?side2 A9.out).mono ?_); (case side1 => exact zr2); (case side2 => exact HC0_2.out); rintro e w13 ⟨rfl, hb⟩; refine ⟨_, rfl, ?_⟩; have n0_ := Aside0.mk (blk_below (g := gb436) (o := .cells #[.int .i64 a0_0, .int .i64 a0_1, .slice A0_2 l0_2.length c0_2] 30 (0, 0)) zr11 hb); have n1_ := Aside0.mk (below_step zr4 hb); clear BK436; clear HB; have BK436 := n0_; have HB := n1_; clear n0_ n1_; (try clear hb); (try clear hb2); (try clear hk); (try clear hi); (try clear hna_); (try clear hnb_)) | ((with_reducible refine gate_callee (f := 82) rfl ?_); refine goesL_ (some 26) rfl rfl Try.func82 (by kernel_rfl) rfl #[.int .i64 (rd l1 x17_1), .int .i64 0, .int .i64 8] rfl zr6 ?_; (with_reducible refine (spec_l1In.calls (rd l1 x17_1) 0 8 t439 _ A10.out).mono ?_); rintro e w' ⟨rfl, ⟨nd, rfl⟩⟩; refine ⟨_, rfl, ?_⟩))
    go_ret
    exact ⟨zr15, zr4⟩
   rw [if_neg c11] at H
   have c11b0 : (t438 != t439) = false := by simpa using c11
   (try (have c11b1 : decide (t438 = t439) = true := by simpa using c11))
   (try (have c11b2 : (t438 == t439) = true := by simpa using c11))
   clear c11
   replace H := Option.bind_eq_some_iff.mp H
   obtain ⟨t440, A140, H⟩ := H
   replace H : (if t440 = true then (spec_paGood.l0 k1 l1 (l1.length : Int) (wrap64 (x17_1 + 1)) a0_0 a0_1 l0_2) else (if (rd l1 x17_1) = (-1) then (spec_paGood.l0 k1 l1 (l1.length : Int) (wrap64 (x17_1 + 1)) a0_0 a0_1 l0_2) else (some false))) = some r := H
   have A14 := Aside0.mk A140
   clear A140
   by_cases c15 : t440 = true
   ·subst c15
    have H1 : (spec_paGood.l0 k1 l1 (l1.length : Int) (wrap64 (x17_1 + 1)) a0_0 a0_1 l0_2) = some r := by rw [if_pos rfl] at H; exact H
    clear H
    have H := H1
    clear H1
    have H' := Aside0.mk H
    clear H
    have p437 : 0 ≤ (x17_1 : Int) := of_decide_eq_true zr13
    have q437 : x17_1 < (l1.length : Int) := of_decide_eq_true zr13
    obtain ⟨ad437, e437, hx437_0⟩ := Kd.at_int HR1.out x17_1 p437 q437
    cases e437
    (first | replace hx437_0 := (HB.out.cell (World.block_lt_of_cell? w _ hx437_0)).trans hx437_0 | skip)
    replace p437 := eq_true p437
    replace q437 := eq_true q437
    have hcz16_0 : wr.cell? ⟨gb436, 0, none⟩ = some (.int .i64 a0_0) := (blk_cell BK436.out 0).trans rfl
    have hcz16_1 : wr.cell? ⟨gb436, 1, none⟩ = some (.int .i64 a0_1) := (blk_cell BK436.out 1).trans rfl
    have hcz16_2 : wr.cell? ⟨gb436, 2, none⟩ = some (.slice A0_2 l0_2.length c0_2) := (blk_cell BK436.out 2).trans rfl
    have hfz16_0 := blk_frozen BK436.out 0
    have hfz16_1 := blk_frozen BK436.out 1
    have hfz16_2 := blk_frozen BK436.out 2
    go_wp2_with (first | ((with_reducible refine gate_callee (f := 86) rfl ?_); refine goesL_ (some 24) rfl rfl Try.func86 (by kernel_rfl) rfl #[.agg #[.int .i64 a0_0, .int .i64 a0_1, .slice A0_2 l0_2.length c0_2], .int .i64 x17_1] rfl zr6 ?_; (with_reducible refine (spec_boHas.calls k1 a0_0 a0_1 _ _ l0_2 x17_1 t438 _ ?side1 ?side2 A9.out).mono ?_); (case side1 => exact zr2); (case side2 => exact HC0_2.out); rintro e w17 ⟨rfl, hb⟩; refine ⟨_, rfl, ?_⟩; have n0_ := Aside0.mk (blk_below (g := gb436) (o := .cells #[.int .i64 a0_0, .int .i64 a0_1, .slice A0_2 l0_2.length c0_2] 30 (0, 0)) zr11 hb); have n1_ := Aside0.mk (below_step zr4 hb); clear BK436; clear HB; have BK436 := n0_; have HB := n1_; clear n0_ n1_; (try clear hb); (try clear hb2); (try clear hk); (try clear hi); (try clear hna_); (try clear hnb_)) | ((with_reducible refine gate_callee (f := 82) rfl ?_); refine goesL_ (some 26) rfl rfl Try.func82 (by kernel_rfl) rfl #[.int .i64 (rd l1 x17_1), .int .i64 0, .int .i64 8] rfl zr6 ?_; (with_reducible refine (spec_l1In.calls (rd l1 x17_1) 0 8 t439 _ A10.out).mono ?_); rintro e w' ⟨rfl, ⟨nd, rfl⟩⟩; refine ⟨_, rfl, ?_⟩; have hcz18_0 : w17.cell? ⟨gb436, 0, none⟩ = some (.int .i64 a0_0) := (blk_cell BK436.out 0).trans rfl; have hcz18_1 : w17.cell? ⟨gb436, 1, none⟩ = some (.int .i64 a0_1) := (blk_cell BK436.out 1).trans rfl; have hcz18_2 : w17.cell? ⟨gb436, 2, none⟩ = some (.slice A0_2 l0_2.length c0_2) := (blk_cell BK436.out 2).trans rfl; have hfz18_0 := blk_frozen BK436.out 0; have hfz18_1 := blk_frozen BK436.out 1; have hfz18_2 := blk_frozen BK436.out 2) | (go_at_call 86; (with_reducible refine (spec_boHas.calls k1 a0_0 a0_1 _ _ l0_2 x17_1 true _ ?side1 ?side2 A14.out).mono ?_); (case side1 => exact zr20); (case side2 => exact HC0_2.out); rintro e w19 ⟨rfl, hb⟩; have n0_ := Aside0.mk (blk_below (g := gb436) (o := .cells #[.int .i64 a0_0, .int .i64 a0_1, .slice A0_2 l0_2.length c0_2] 30 (0, 0)) zr11 hb); have n1_ := Aside0.mk (below_step zr4 hb); clear BK436; clear HB; have BK436 := n0_; have HB := n1_; clear n0_ n1_; (try clear hb); (try clear hb2); (try clear hk); (try clear hi); (try clear hna_); (try clear hnb_)))
    go_roundg k1
    case measure => have := HK1.out; omega
    case rel => exact ⟨(wrap64 (x17_1 + 1)), zr18, H', ⟨by have := HK1.out; omega⟩, ⟨zr11⟩, ⟨zr4⟩⟩
   replace c15 := Bool.eq_false_iff.mpr c15
   subst c15
   have H1 : (if (rd l1 x17_1) = (-1) then (spec_paGood.l0 k1 l1 (l1.length : Int) (wrap64 (x17_1 + 1)) a0_0 a0_1 l0_2) else (some false)) = some r := by rw [if_neg (show ¬ (false = true) by decide)] at H; exact H
   clear H
   have H := H1
   clear H1
   by_cases c20 : (rd l1 x17_1) = (-1)
   rotate_left
   ·rw [if_neg c20] at H
    have c20b0 : ((rd l1 x17_1) == (-1)) = false := beq_eq_false_iff_ne.mpr c20
    have c20b1 : ((rd l1 x17_1) != (-1)) = true := bne_iff_ne.mpr c20
    obtain rfl := Option.some.inj H
    have p437 : 0 ≤ (x17_1 : Int) := of_decide_eq_true zr13
    have q437 : x17_1 < (l1.length : Int) := of_decide_eq_true zr13
    obtain ⟨ad437, e437, hx437_0⟩ := Kd.at_int HR1.out x17_1 p437 q437
    cases e437
    (first | replace hx437_0 := (HB.out.cell (World.block_lt_of_cell? w _ hx437_0)).trans hx437_0 | skip)
    replace p437 := eq_true p437
    replace q437 := eq_true q437
    have hcz25_0 : wr.cell? ⟨gb436, 0, none⟩ = some (.int .i64 a0_0) := (blk_cell BK436.out 0).trans rfl
    have hcz25_1 : wr.cell? ⟨gb436, 1, none⟩ = some (.int .i64 a0_1) := (blk_cell BK436.out 1).trans rfl
    have hcz25_2 : wr.cell? ⟨gb436, 2, none⟩ = some (.slice A0_2 l0_2.length c0_2) := (blk_cell BK436.out 2).trans rfl
    have hfz25_0 := blk_frozen BK436.out 0
    have hfz25_1 := blk_frozen BK436.out 1
    have hfz25_2 := blk_frozen BK436.out 2
    go_wp2_with (first | ((with_reducible refine gate_callee (f := 86) rfl ?_); refine goesL_ (some 24) rfl rfl Try.func86 (by kernel_rfl) rfl #[.agg #[.int .i64 a0_0, .int .i64 a0_1, .slice A0_2 l0_2.length c0_2], .int .i64 x17_1] rfl zr6 ?_; (with_reducible refine (spec_boHas.calls k1 a0_0 a0_1 _ _ l0_2 x17_1 t438 _ ?side1 ?side2 A9.out).mono ?_); (case side1 => exact zr2); (case side2 => exact HC0_2.out); rintro e w26 ⟨rfl, hb⟩; refine ⟨_, rfl, ?_⟩; have n0_ := Aside0.mk (blk_below (g := gb436) (o := .cells #[.int .i64 a0_0, .int .i64 a0_1, .slice A0_2 l0_2.length c0_2] 30 (0, 0)) zr11 hb); have n1_ := Aside0.mk (below_step zr4 hb); clear BK436; clear HB; have BK436 := n0_; have HB := n1_; clear n0_ n1_; (try clear hb); (try clear hb2); (try clear hk); (try clear hi); (try clear hna_); (try clear hnb_)) | ((with_reducible refine gate_callee (f := 82) rfl ?_); refine goesL_ (some 26) rfl rfl Try.func82 (by kernel_rfl) rfl #[.int .i64 (rd l1 x17_1), .int .i64 0, .int .i64 8] rfl zr6 ?_; (with_reducible refine (spec_l1In.calls (rd l1 x17_1) 0 8 t439 _ A10.out).mono ?_); rintro e w' ⟨rfl, ⟨nd, rfl⟩⟩; refine ⟨_, rfl, ?_⟩; have hcz27_0 : w26.cell? ⟨gb436, 0, none⟩ = some (.int .i64 a0_0) := (blk_cell BK436.out 0).trans rfl; have hcz27_1 : w26.cell? ⟨gb436, 1, none⟩ = some (.int .i64 a0_1) := (blk_cell BK436.out 1).trans rfl; have hcz27_2 : w26.cell? ⟨gb436, 2, none⟩ = some (.slice A0_2 l0_2.length c0_2) := (blk_cell BK436.out 2).trans rfl; have hfz27_0 := blk_frozen BK436.out 0; have hfz27_1 := blk_frozen BK436.out 1; have hfz27_2 := blk_frozen BK436.out 2) | (go_at_call 86; (with_reducible refine (spec_boHas.calls k1 a0_0 a0_1 _ _ l0_2 x17_1 false _ ?side1 ?side2 A14.out).mono ?_); (case side1 => exact zr20); (case side2 => exact HC0_2.out); rintro e w28 ⟨rfl, hb⟩; have n0_ := Aside0.mk (blk_below (g := gb436) (o := .cells #[.int .i64 a0_0, .int .i64 a0_1, .slice A0_2 l0_2.length c0_2] 30 (0, 0)) zr11 hb); have n1_ := Aside0.mk (below_step zr4 hb); clear BK436; clear HB; have BK436 := n0_; have HB := n1_; clear n0_ n1_; (try clear hb); (try clear hb2); (try clear hk); (try clear hi); (try clear hna_); (try clear hnb_)))
    go_ret
    exact ⟨zr15, zr4⟩
   rw [if_pos c20] at H
   have c20b0 : ((rd l1 x17_1) == (-1)) = true := beq_iff_eq.mpr c20
   have c20b1 : ((rd l1 x17_1) != (-1)) = false := bne_eq_false_iff_eq.mpr c20
   clear c20
   have H' := Aside0.mk H
   clear H
   have p437 : 0 ≤ (x17_1 : Int) := of_decide_eq_true zr13
   have q437 : x17_1 < (l1.length : Int) := of_decide_eq_true zr13
   obtain ⟨ad437, e437, hx437_0⟩ := Kd.at_int HR1.out x17_1 p437 q437
   cases e437
   (first | replace hx437_0 := (HB.out.cell (World.block_lt_of_cell? w _ hx437_0)).trans hx437_0 | skip)
   replace p437 := eq_true p437
   replace q437 := eq_true q437
   have hcz21_0 : wr.cell? ⟨gb436, 0, none⟩ = some (.int .i64 a0_0) := (blk_cell BK436.out 0).trans rfl
   have hcz21_1 : wr.cell? ⟨gb436, 1, none⟩ = some (.int .i64 a0_1) := (blk_cell BK436.out 1).trans rfl
   have hcz21_2 : wr.cell? ⟨gb436, 2, none⟩ = some (.slice A0_2 l0_2.length c0_2) := (blk_cell BK436.out 2).trans rfl
   have hfz21_0 := blk_frozen BK436.out 0
   have hfz21_1 := blk_frozen BK436.out 1
   have hfz21_2 := blk_frozen BK436.out 2
   go_wp2_with (first | ((with_reducible refine gate_callee (f := 86) rfl ?_); refine goesL_ (some 24) rfl rfl Try.func86 (by kernel_rfl) rfl #[.agg #[.int .i64 a0_0, .int .i64 a0_1, .slice A0_2 l0_2.length c0_2], .int .i64 x17_1] rfl zr6 ?_; (with_reducible refine (spec_boHas.calls k1 a0_0 a0_1 _ _ l0_2 x17_1 t438 _ ?side1 ?side2 A9.out).mono ?_); (case side1 => exact zr2); (case side2 => exact HC0_2.out); rintro e w22 ⟨rfl, hb⟩; refine ⟨_, rfl, ?_⟩; have n0_ := Aside0.mk (blk_below (g := gb436) (o := .cells #[.int .i64 a0_0, .int .i64 a0_1, .slice A0_2 l0_2.length c0_2] 30 (0, 0)) zr11 hb); have n1_ := Aside0.mk (below_step zr4 hb); clear BK436; clear HB; have BK436 := n0_; have HB := n1_; clear n0_ n1_; (try clear hb); (try clear hb2); (try clear hk); (try clear hi); (try clear hna_); (try clear hnb_)) | ((with_reducible refine gate_callee (f := 82) rfl ?_); refine goesL_ (some 26) rfl rfl Try.func82 (by kernel_rfl) rfl #[.int .i64 (rd l1 x17_1), .int .i64 0, .int .i64 8] rfl zr6 ?_; (with_reducible refine (spec_l1In.calls (rd l1 x17_1) 0 8 t439 _ A10.out).mono ?_); rintro e w' ⟨rfl, ⟨nd, rfl⟩⟩; refine ⟨_, rfl, ?_⟩; have hcz23_0 : w22.cell? ⟨gb436, 0, none⟩ = some (.int .i64 a0_0) := (blk_cell BK436.out 0).trans rfl; have hcz23_1 : w22.cell? ⟨gb436, 1, none⟩ = some (.int .i64 a0_1) := (blk_cell BK436.out 1).trans rfl; have hcz23_2 : w22.cell? ⟨gb436, 2, none⟩ = some (.slice A0_2 l0_2.length c0_2) := (blk_cell BK436.out 2).trans rfl; have hfz23_0 := blk_frozen BK436.out 0; have hfz23_1 := blk_frozen BK436.out 1; have hfz23_2 := blk_frozen BK436.out 2) | (go_at_call 86; (with_reducible refine (spec_boHas.calls k1 a0_0 a0_1 _ _ l0_2 x17_1 false _ ?side1 ?side2 A14.out).mono ?_); (case side1 => exact zr20); (case side2 => exact HC0_2.out); rintro e w24 ⟨rfl, hb⟩; have n0_ := Aside0.mk (blk_below (g := gb436) (o := .cells #[.int .i64 a0_0, .int .i64 a0_1, .slice A0_2 l0_2.length c0_2] 30 (0, 0)) zr11 hb); have n1_ := Aside0.mk (below_step zr4 hb); clear BK436; clear HB; have BK436 := n0_; have HB := n1_; clear n0_ n1_; (try clear hb); (try clear hb2); (try clear hk); (try clear hi); (try clear hna_); (try clear hnb_)))
   go_roundg k1
   case measure => have := HK1.out; omega
   case rel => exact ⟨(wrap64 (x17_1 + 1)), zr18, H', ⟨by have := HK1.out; omega⟩, ⟨zr11⟩, ⟨zr4⟩⟩

/-! ### spec_paIs: function 59 -/
mutual
def spec_paIs.l0 : Nat → List Int → List Int → Int → Int → Int → Int → List Int → Int → Int → Option (Bool)
 | 0, _, _, _, _, _, _, _, _, _ => none
 | k + 1, x2, x12, x13, x14, x442000, x442001, x442002, x443000, x443001 => if x14 < x13 then (if 0 ≤ x14 then (if x14 < (x12.length : Int) then ((spec_boLeaps.f k x442000 x442001 x442002 x443000 x443001 (rd x12 x14)).bind fun t447 => (spec_paIs.l1 k x2 (rd x12 x14) x12 x13 x14 t447 (t447.length : Int) 0 x442000 x442001 x442002 x443000 x443001)) else (none)) else (none)) else (some true)
def spec_paIs.l1 : Nat → List Int → Int → List Int → Int → Int → List Int → Int → Int → Int → Int → List Int → Int → Int → Option (Bool)
 | 0, _, _, _, _, _, _, _, _, _, _, _, _, _ => none
 | k + 1, x2, x8, x12, x13, x14, x21, x22, x23, x442000, x442001, x442002, x443000, x443001 => if x23 < x22 then (if 0 ≤ x23 then (if x23 < (x21.length : Int) then (if 0 ≤ x8 then (if x8 < (x2.length : Int) then (if 0 ≤ (rd x21 x23) then (if (rd x21 x23) < (x2.length : Int) then (if (rd x2 x8) = (rd x2 (rd x21 x23)) then (some false) else (spec_paIs.l1 k x2 x8 x12 x13 x14 x21 x22 (wrap64 (x23 + 1)) x442000 x442001 x442002 x443000 x443001)) else (none)) else (none)) else (none)) else (none)) else (none)) else (none)) else (spec_paIs.l0 k x2 x12 x13 (wrap64 (x14 + 1)) x442000 x442001 x442002 x443000 x443001)
end
def spec_paIs.f (k : Nat) (a0_0 : Int) (a0_1 : Int) (l0_2 : List Int) (a1_0 : Int) (a1_1 : Int) (l2 : List Int) : Option (Bool) := (spec_boCells.f k a0_0 a0_1 l0_2).bind fun t443 => (spec_paIs.l0 k l2 t443 (t443.length : Int) 0 a0_0 a0_1 l0_2 a1_0 a1_1)
set_option maxHeartbeats 8000000 in
set_option maxRecDepth 100000 in
theorem spec_paIs.calls (k : Nat) (a0_0 : Int) (a0_1 : Int) (A0_2 : Option Addr) (c0_2 : Nat) (l0_2 : List Int) (a1_0 : Int) (a1_1 : Int) (A2 : Option Addr) (c2 : Nat) (l2 : List Int) (r : Bool) (w : World) (hr0_2 : Kd.C (Kd.int .i64) w A0_2 l0_2.length l0_2) (hc0_2 : l0_2.length ≤ c0_2) (hr2 : Kd.C (Kd.int .i64) w A2 l2.length l2) (hc2 : l2.length ≤ c2) (h : spec_paIs.f k a0_0 a0_1 l0_2 a1_0 a1_1 l2 = some r) :
  Calls Try.prog 59 #[.agg #[.int .i64 a0_0, .int .i64 a0_1, .slice A0_2 l0_2.length c0_2], .agg #[.int .i64 a1_0, .int .i64 a1_1], .slice A2 l2.length c2] w fun e w' => e = .returned (.bool r) ∧ Below w.heap.size w w' := by
 have hu30 := Try.underlying30
 have hu32 := Try.underlying32
 have HR0_2 := Aside0.mk hr0_2
 have HC0_2 := Aside0.mk hc0_2
 clear hr0_2 hc0_2
 have HR2 := Aside0.mk hr2
 have HC2 := Aside0.mk hc2
 clear hr2 hc2
 have HB := Aside0.mk (Below.refl w.heap.size w)
 have H : ((spec_boCells.f k a0_0 a0_1 l0_2).bind fun t443 => (spec_paIs.l0 k l2 t443 (t443.length : Int) 0 a0_0 a0_1 l0_2 a1_0 a1_1)) = some r := h
 clear h
 replace H := Option.bind_eq_some_iff.mp H
 obtain ⟨t443, A40, H⟩ := H
 replace H : (spec_paIs.l0 k l2 t443 (t443.length : Int) 0 a0_0 a0_1 l0_2 a1_0 a1_1) = some r := H
 have A4 := Aside0.mk A40
 clear A40
 have H' := Aside0.mk H
 clear H
 go_enter Try.func59, Try.ntmps59
 go_wp2_with (first | ((with_reducible refine gate_dst (N := 3) rfl ?_); refine box_event ?hg (N := 3) ?hd (cs := #[.int .i64 a0_0, .int .i64 a0_1, .slice A0_2 l0_2.length c0_2]) (t := 30) ?hr ?_; (case hd => rfl); (case hg => rfl); (case hr => first | (go_simp; done) | (go_simp; rfl)); intro gb441 hg w5 hbox hb; have n0_ := Aside0.mk (below_step zr3 hb); have n1_ := Aside0.mk (hbox); have n2_ := Aside0.mk ((zr19 : w.heap.size ≤ gb441)); have n3_ := Aside0.mk ((zr19 : w.heap.size ≤ gb441)); clear HB; have HB := n0_; have BK441 := n1_; have GW441 := n2_; have GE441 := n3_; clear n0_ n1_ n2_ n3_; clear hb hbox hg) | ((with_reducible refine gate_dst (N := 4) rfl ?_); refine box_event ?hg (N := 4) ?hd (cs := #[.int .i64 a1_0, .int .i64 a1_1]) (t := 32) ?hr ?_; (case hd => rfl); (case hg => rfl); (case hr => first | (go_simp; done) | (go_simp; rfl)); intro gb442 hg w6 hbox hb; have n0_ := Aside0.mk (blk_below (g := gb441) (o := .cells #[.int .i64 a0_0, .int .i64 a0_1, .slice A0_2 l0_2.length c0_2] 30 (0, 0)) zr5 hb); have n1_ := Aside0.mk (below_step zr14 hb); have n2_ := Aside0.mk (hbox); have n3_ := Aside0.mk ((by rw [hg]; exact (below_size zr14) : w.heap.size ≤ gb442)); have n4_ := Aside0.mk ((by rw [hg]; exact (below_size zr14) : w.heap.size ≤ gb442)); have n5_ := Aside0.mk ((zr24 : gb441 ≠ gb442)); have n6_ := Aside0.mk ((zr25 : gb442 ≠ gb441)); clear BK441; clear HB; have BK441 := n0_; have HB := n1_; have BK442 := n2_; have GW442 := n3_; have GE442 := n4_; have NB441_442 := n5_; have NB442_441 := n6_; clear n0_ n1_ n2_ n3_ n4_ n5_ n6_; clear hb hbox hg; have hnb7 := NB441_442.out; have hnc7 := NB442_441.out; have hcz8_0 : w6.cell? ⟨gb441, 0, none⟩ = some (.int .i64 a0_0) := (blk_cell BK441.out 0).trans rfl; have hcz8_1 : w6.cell? ⟨gb441, 1, none⟩ = some (.int .i64 a0_1) := (blk_cell BK441.out 1).trans rfl; have hcz8_2 : w6.cell? ⟨gb441, 2, none⟩ = some (.slice A0_2 l0_2.length c0_2) := (blk_cell BK441.out 2).trans rfl; have hfz8_0 := blk_frozen BK441.out 0; have hfz8_1 := blk_frozen BK441.out 1; have hfz8_2 := blk_frozen BK441.out 2) | (go_at_call 84; (with_reducible refine (spec_boCells.calls k a0_0 a0_1 _ _ l0_2 t443 _ ?side1 ?side2 A4.out).mono ?_); (case side1 => exact zr2); (case side2 => exact HC0_2.out); rintro e w9 ⟨v444, rfl, ho0, hb⟩; have n0_ := Aside0.mk (Kd.R_lower ho0 (below_size zr1)); have n1_ := Aside0.mk (blk_below (g := gb441) (o := .cells #[.int .i64 a0_0, .int .i64 a0_1, .slice A0_2 l0_2.length c0_2] 30 (0, 0)) zr5 hb); have n2_ := Aside0.mk (blk_below (g := gb442) (o := .cells #[.int .i64 a1_0, .int .i64 a1_1] 32 (0, 0)) zr9 hb); have n3_ := Aside0.mk (below_step zr1 hb); clear BK441; clear BK442; clear HB; have HO445 := n0_; have BK441 := n1_; have BK442 := n2_; have HB := n3_; clear n0_ n1_ n2_ n3_; (try clear hb); (try clear hb2); (try clear hk); (try clear hi); (try clear ho0); (try clear hna_); (try clear hnb_); obtain ⟨Ao10, co10, eo10⟩ := Kd.R_slice HO445.out; subst eo10))
 repeat ((first | go_quiet (first | (go_at_call 84; (with_reducible refine (spec_boCells.calls k a0_0 a0_1 _ _ l0_2 t443 _ ?side1 ?side2 A4.out).mono ?_); (case side1 => exact zr2); (case side2 => exact HC0_2.out); rintro e w9 ⟨v444, rfl, ho0, hb⟩; have n0_ := Aside0.mk (Kd.R_lower ho0 (below_size zr1)); have n1_ := Aside0.mk (blk_below (g := gb441) (o := .cells #[.int .i64 a0_0, .int .i64 a0_1, .slice A0_2 l0_2.length c0_2] 30 (0, 0)) zr5 hb); have n2_ := Aside0.mk (blk_below (g := gb442) (o := .cells #[.int .i64 a1_0, .int .i64 a1_1] 32 (0, 0)) zr9 hb); have n3_ := Aside0.mk (below_step zr1 hb); clear BK441; clear BK442; clear HB; have HO445 := n0_; have BK441 := n1_; have BK442 := n2_; have HB := n3_; clear n0_ n1_ n2_ n3_; (try clear hb); (try clear hb2); (try clear hk); (try clear hi); (try clear ho0); (try clear hna_); (try clear hnb_); obtain ⟨Ao10, co10, eo10⟩ := Kd.R_slice HO445.out; subst eo10)) | (refine wp_region_quiet_lit (by kernel_rfl) (by kernel_rfl) ?_; (repeat (any_goals (first | go_big_quiet_step (first | (go_at_call 84; (with_reducible refine (spec_boCells.calls k a0_0 a0_1 _ _ l0_2 t443 _ ?side1 ?side2 A4.out).mono ?_); (case side1 => exact zr2); (case side2 => exact HC0_2.out); rintro e w9 ⟨v444, rfl, ho0, hb⟩; have n0_ := Aside0.mk (Kd.R_lower ho0 (below_size zr1)); have n1_ := Aside0.mk (blk_below (g := gb441) (o := .cells #[.int .i64 a0_0, .int .i64 a0_1, .slice A0_2 l0_2.length c0_2] 30 (0, 0)) zr5 hb); have n2_ := Aside0.mk (blk_below (g := gb442) (o := .cells #[.int .i64 a1_0, .int .i64 a1_1] 32 (0, 0)) zr9 hb); have n3_ := Aside0.mk (below_step zr1 hb); clear BK441; clear BK442; clear HB; have HO445 := n0_; have BK441 := n1_; have BK442 := n2_; have HB := n3_; clear n0_ n1_ n2_ n3_; (try clear hb); (try clear hb2); (try clear hk); (try clear hi); (try clear ho0); (try clear hna_); (try clear hnb_); obtain ⟨Ao10, co10, eo10⟩ := Kd.R_slice HO445.out; subst eo10)) | quiet_step (first | (go_at_call 84; (with_reducible refine (spec_boCells.calls k a0_0 a0_1 _ _ l0_2 t443 _ ?side1 ?side2 A4.out).mono ?_); (case side1 => exact zr2); (case side2 => exact HC0_2.out); rintro e w9 ⟨v444, rfl, ho0, hb⟩; have n0_ := Aside0.mk (Kd.R_lower ho0 (below_size zr1)); have n1_ := Aside0.mk (blk_below (g := gb441) (o := .cells #[.int .i64 a0_0, .int .i64 a0_1, .slice A0_2 l0_2.length c0_2] 30 (0, 0)) zr5 hb); have n2_ := Aside0.mk (blk_below (g := gb442) (o := .cells #[.int .i64 a1_0, .int .i64 a1_1] 32 (0, 0)) zr9 hb); have n3_ := Aside0.mk (below_step zr1 hb); clear BK441; clear BK442; clear HB; have HO445 := n0_; have BK441 := n1_; have BK442 := n2_; have HB := n3_; clear n0_ n1_ n2_ n3_; (try clear hb); (try clear hb2); (try clear hk); (try clear hi); (try clear ho0); (try clear hna_); (try clear hnb_); obtain ⟨Ao10, co10, eo10⟩ := Kd.R_slice HO445.out; subst eo10))))); all_goals (refine wpQuiet_nil ?_; intro _ hw2_; obtain ⟨nq, hw3_⟩ := hw2_; subst hw3_))); try go_wp2_with (first | ((with_reducible refine gate_dst (N := 3) rfl ?_); refine box_event ?hg (N := 3) ?hd (cs := #[.int .i64 a0_0, .int .i64 a0_1, .slice A0_2 l0_2.length c0_2]) (t := 30) ?hr ?_; (case hd => rfl); (case hg => rfl); (case hr => first | (go_simp; done) | (go_simp; rfl)); intro gb441 hg w5 hbox hb; have n0_ := Aside0.mk (below_step zr3 hb); have n1_ := Aside0.mk (hbox); have n2_ := Aside0.mk ((zr19 : w.heap.size ≤ gb441)); have n3_ := Aside0.mk ((zr19 : w.heap.size ≤ gb441)); clear HB; have HB := n0_; have BK441 := n1_; have GW441 := n2_; have GE441 := n3_; clear n0_ n1_ n2_ n3_; clear hb hbox hg) | ((with_reducible refine gate_dst (N := 4) rfl ?_); refine box_event ?hg (N := 4) ?hd (cs := #[.int .i64 a1_0, .int .i64 a1_1]) (t := 32) ?hr ?_; (case hd => rfl); (case hg => rfl); (case hr => first | (go_simp; done) | (go_simp; rfl)); intro gb442 hg w6 hbox hb; have n0_ := Aside0.mk (blk_below (g := gb441) (o := .cells #[.int .i64 a0_0, .int .i64 a0_1, .slice A0_2 l0_2.length c0_2] 30 (0, 0)) zr5 hb); have n1_ := Aside0.mk (below_step zr14 hb); have n2_ := Aside0.mk (hbox); have n3_ := Aside0.mk ((by rw [hg]; exact (below_size zr14) : w.heap.size ≤ gb442)); have n4_ := Aside0.mk ((by rw [hg]; exact (below_size zr14) : w.heap.size ≤ gb442)); have n5_ := Aside0.mk ((zr24 : gb441 ≠ gb442)); have n6_ := Aside0.mk ((zr25 : gb442 ≠ gb441)); clear BK441; clear HB; have BK441 := n0_; have HB := n1_; have BK442 := n2_; have GW442 := n3_; have GE442 := n4_; have NB441_442 := n5_; have NB442_441 := n6_; clear n0_ n1_ n2_ n3_ n4_ n5_ n6_; clear hb hbox hg; have hnb7 := NB441_442.out; have hnc7 := NB442_441.out; have hcz8_0 : w6.cell? ⟨gb441, 0, none⟩ = some (.int .i64 a0_0) := (blk_cell BK441.out 0).trans rfl; have hcz8_1 : w6.cell? ⟨gb441, 1, none⟩ = some (.int .i64 a0_1) := (blk_cell BK441.out 1).trans rfl; have hcz8_2 : w6.cell? ⟨gb441, 2, none⟩ = some (.slice A0_2 l0_2.length c0_2) := (blk_cell BK441.out 2).trans rfl; have hfz8_0 := blk_frozen BK441.out 0; have hfz8_1 := blk_frozen BK441.out 1; have hfz8_2 := blk_frozen BK441.out 2) | (go_at_call 84; (with_reducible refine (spec_boCells.calls k a0_0 a0_1 _ _ l0_2 t443 _ ?side1 ?side2 A4.out).mono ?_); (case side1 => exact zr2); (case side2 => exact HC0_2.out); rintro e w9 ⟨v444, rfl, ho0, hb⟩; have n0_ := Aside0.mk (Kd.R_lower ho0 (below_size zr1)); have n1_ := Aside0.mk (blk_below (g := gb441) (o := .cells #[.int .i64 a0_0, .int .i64 a0_1, .slice A0_2 l0_2.length c0_2] 30 (0, 0)) zr5 hb); have n2_ := Aside0.mk (blk_below (g := gb442) (o := .cells #[.int .i64 a1_0, .int .i64 a1_1] 32 (0, 0)) zr9 hb); have n3_ := Aside0.mk (below_step zr1 hb); clear BK441; clear BK442; clear HB; have HO445 := n0_; have BK441 := n1_; have BK442 := n2_; have HB := n3_; clear n0_ n1_ n2_ n3_; (try clear hb); (try clear hb2); (try clear hk); (try clear hi); (try clear ho0); (try clear hna_); (try clear hnb_); obtain ⟨Ao10, co10, eo10⟩ := Kd.R_slice HO445.out; subst eo10)))
 go_loopg [14] k (fun kq v14 w' => ∃ (x14_1 : Int), v14 = .int .i64 x14_1 ∧ Aside0 (spec_paIs.l0 kq l2 t443 (t443.length : Int) x14_1 a0_0 a0_1 l0_2 a1_0 a1_1 = some r) ∧ Aside0 (kq ≤ k) ∧ Aside0 (Kd.R (Kd.int .i64) 3 w' w.heap.size (fun _ => True) (.slice Ao10 t443.length co10) t443) ∧ Aside0 (w'.heap[gb441]? = some (.cells #[.int .i64 a0_0, .int .i64 a0_1, (.slice A0_2 l0_2.length c0_2)] 30 (0, 0))) ∧ Aside0 (w'.heap[gb442]? = some (.cells #[.int .i64 a1_0, .int .i64 a1_1] 32 (0, 0))) ∧ Aside0 (Below w.heap.size w w'))
 case atStart => exact ⟨(0), zr18, H', ⟨Nat.le_refl _⟩, ⟨by (with_reducible repeat (first | apply Kd.R_alloc | apply Kd.R_drewN | apply Kd.R_drew)); exact HO445.out⟩, ⟨zr5⟩, ⟨zr9⟩, ⟨zr1⟩⟩
 case round =>
  clear H'
  try clear c2; try clear p2; try clear c5; try clear c7; try clear hcz8_0; try clear hcz8_1; try clear hcz8_2; try clear hfz8_0; try clear hfz8_1; try clear hfz8_2
  obtain ⟨x14_1, rfl, HA, HK1, HO_12, BK441, BK442, HB⟩ := hrel
  cases gk with
  | zero => exact absurd HA.out (by simp [spec_paIs.l0])
  | succ k1 =>
   have H := HA.out
   clear HA
   simp only [spec_paIs.l0] at H
   by_cases c11 : x14_1 < (t443.length : Int)
   rotate_left
   ·rw [if_neg c11] at H
    have c11b0 : decide (x14_1 < (t443.length : Int)) = false := decide_eq_false c11
    clear c11
    obtain rfl := Option.some.inj H
    go_wp2
    repeat ((first | go_quiet (fail) | (refine wp_region_quiet_lit (by kernel_rfl) (by kernel_rfl) ?_; (repeat (any_goals (first | go_big_quiet_step (fail) | quiet_step (fail)))); all_goals (refine wpQuiet_nil ?_; intro _ hw2_; obtain ⟨nq, hw3_⟩ := hw2_; subst hw3_))); try go_wp2)
    go_ret
    exact ⟨zr15, zr1⟩
   rw [if_pos c11] at H
   have c11b0 : decide (x14_1 < (t443.length : Int)) = true := decide_eq_true c11
   clear c11
   by_cases c12 : 0 ≤ x14_1
   rotate_left
   ·rw [if_neg c12] at H
    exact absurd H (by simp)
   rw [if_pos c12] at H
   have c12b0 : decide (0 ≤ x14_1) = true := decide_eq_true c12
   clear c12
   by_cases c13 : x14_1 < (t443.length : Int)
   rotate_left
   ·rw [if_neg c13] at H
    exact absurd H (by simp)
   rw [if_pos c13] at H
   have c13b0 : decide (x14_1 < (t443.length : Int)) = true := decide_eq_true c13
   clear c13
   replace H := Option.bind_eq_some_iff.mp H
   obtain ⟨t447, A140, H⟩ := H
   replace H : (spec_paIs.l1 k1 l2 (rd t443 x14_1) t443 (t443.length : Int) x14_1 t447 (t447.length : Int) 0 a0_0 a0_1 l0_2 a1_0 a1_1) = some r := H
   have A14 := Aside0.mk A140
   clear A140
   have H' := Aside0.mk H
   clear H
   have p446 : 0 ≤ (x14_1 : Int) := of_decide_eq_true zr13
   have q446 : x14_1 < (t443.length : Int) := of_decide_eq_true zr13
   obtain ⟨ad446, e446, hx446_0⟩ := Kd.at_int (Kd.R_reads' HO_12.out).2.2 x14_1 p446 q446
   cases e446
   replace p446 := eq_true p446
   replace q446 := eq_true q446
   have hnb15 := NB441_442.out
   have hnc15 := NB442_441.out
   have hcz16_0 : wr.cell? ⟨gb441, 0, none⟩ = some (.int .i64 a0_0) := (blk_cell BK441.out 0).trans rfl
   have hcz16_1 : wr.cell? ⟨gb441, 1, none⟩ = some (.int .i64 a0_1) := (blk_cell BK441.out 1).trans rfl
   have hcz16_2 : wr.cell? ⟨gb441, 2, none⟩ = some (.slice A0_2 l0_2.length c0_2) := (blk_cell BK441.out 2).trans rfl
   have hfz16_0 := blk_frozen BK441.out 0
   have hfz16_1 := blk_frozen BK441.out 1
   have hfz16_2 := blk_frozen BK441.out 2
   have hcz17_0 : wr.cell? ⟨gb442, 0, none⟩ = some (.int .i64 a1_0) := (blk_cell BK442.out 0).trans rfl
   have hcz17_1 : wr.cell? ⟨gb442, 1, none⟩ = some (.int .i64 a1_1) := (blk_cell BK442.out 1).trans rfl
   have hfz17_0 := blk_frozen BK442.out 0
   have hfz17_1 := blk_frozen BK442.out 1
   go_wp2_with (first | (go_at_call 87; (with_reducible refine (spec_boLeaps.calls k1 a0_0 a0_1 _ _ l0_2 a1_0 a1_1 (rd t443 x14_1) t447 _ ?side1 ?side2 A14.out).mono ?_); (case side1 => exact zr2); (case side2 => exact HC0_2.out); rintro e w18 ⟨v448, rfl, ho0, hb⟩; have n0_ := Aside0.mk (Kd.R_elder' zr12 (Kd.R_base ho0) hb); have n1_ := Aside0.mk (Kd.R_lower (Kd.R_new' ho0 (Kd.R_lt zr12)) (below_size zr1)); have n2_ := Aside0.mk (blk_below (g := gb441) (o := .cells #[.int .i64 a0_0, .int .i64 a0_1, .slice A0_2 l0_2.length c0_2] 30 (0, 0)) zr5 hb); have n3_ := Aside0.mk (blk_below (g := gb442) (o := .cells #[.int .i64 a1_0, .int .i64 a1_1] 32 (0, 0)) zr9 hb); have n4_ := Aside0.mk (below_step zr1 hb); clear HO_12; clear BK441; clear BK442; clear HB; have HO_12 := n0_; have HO449 := n1_; have BK441 := n2_; have BK442 := n3_; have HB := n4_; clear n0_ n1_ n2_ n3_ n4_; (try clear hb); (try clear hb2); (try clear hk); (try clear hi); (try clear ho0); (try clear hna_); (try clear hnb_); obtain ⟨Ao19, co19, eo19⟩ := Kd.R_slice HO449.out; subst eo19))
   repeat ((first | go_quiet (first | (go_at_call 87; (with_reducible refine (spec_boLeaps.calls k1 a0_0 a0_1 _ _ l0_2 a1_0 a1_1 (rd t443 x14_1) t447 _ ?side1 ?side2 A14.out).mono ?_); (case side1 => exact zr2); (case side2 => exact HC0_2.out); rintro e w18 ⟨v448, rfl, ho0, hb⟩; have n0_ := Aside0.mk (Kd.R_elder' zr12 (Kd.R_base ho0) hb); have n1_ := Aside0.mk (Kd.R_lower (Kd.R_new' ho0 (Kd.R_lt zr12)) (below_size zr1)); have n2_ := Aside0.mk (blk_below (g := gb441) (o := .cells #[.int .i64 a0_0, .int .i64 a0_1, .slice A0_2 l0_2.length c0_2] 30 (0, 0)) zr5 hb); have n3_ := Aside0.mk (blk_below (g := gb442) (o := .cells #[.int .i64 a1_0, .int .i64 a1_1] 32 (0, 0)) zr9 hb); have n4_ := Aside0.mk (below_step zr1 hb); clear HO_12; clear BK441; clear BK442; clear HB; have HO_12 := n0_; have HO449 := n1_; have BK441 := n2_; have BK442 := n3_; have HB := n4_; clear n0_ n1_ n2_ n3_ n4_; (try clear hb); (try clear hb2); (try clear hk); (try clear hi); (try clear ho0); (try clear hna_); (try clear hnb_); obtain ⟨Ao19, co19, eo19⟩ := Kd.R_slice HO449.out; subst eo19)) | (refine wp_region_quiet_lit (by kernel_rfl) (by kernel_rfl) ?_; (repeat (any_goals (first | go_big_quiet_step (first | (go_at_call 87; (with_reducible refine (spec_boLeaps.calls k1 a0_0 a0_1 _ _ l0_2 a1_0 a1_1 (rd t443 x14_1) t447 _ ?side1 ?side2 A14.out).mono ?_); (case side1 => exact zr2); (case side2 => exact HC0_2.out); rintro e w18 ⟨v448, rfl, ho0, hb⟩; have n0_ := Aside0.mk (Kd.R_elder' zr12 (Kd.R_base ho0) hb); have n1_ := Aside0.mk (Kd.R_lower (Kd.R_new' ho0 (Kd.R_lt zr12)) (below_size zr1)); have n2_ := Aside0.mk (blk_below (g := gb441) (o := .cells #[.int .i64 a0_0, .int .i64 a0_1, .slice A0_2 l0_2.length c0_2] 30 (0, 0)) zr5 hb); have n3_ := Aside0.mk (blk_below (g := gb442) (o := .cells #[.int .i64 a1_0, .int .i64 a1_1] 32 (0, 0)) zr9 hb); have n4_ := Aside0.mk (below_step zr1 hb); clear HO_12; clear BK441; clear BK442; clear HB; have HO_12 := n0_; have HO449 := n1_; have BK441 := n2_; have BK442 := n3_; have HB := n4_; clear n0_ n1_ n2_ n3_ n4_; (try clear hb); (try clear hb2); (try clear hk); (try clear hi); (try clear ho0); (try clear hna_); (try clear hnb_); obtain ⟨Ao19, co19, eo19⟩ := Kd.R_slice HO449.out; subst eo19)) | quiet_step (first | (go_at_call 87; (with_reducible refine (spec_boLeaps.calls k1 a0_0 a0_1 _ _ l0_2 a1_0 a1_1 (rd t443 x14_1) t447 _ ?side1 ?side2 A14.out).mono ?_); (case side1 => exact zr2); (case side2 => exact HC0_2.out); rintro e w18 ⟨v448, rfl, ho0, hb⟩; have n0_ := Aside0.mk (Kd.R_elder' zr12 (Kd.R_base ho0) hb); have n1_ := Aside0.mk (Kd.R_lower (Kd.R_new' ho0 (Kd.R_lt zr12)) (below_size zr1)); have n2_ := Aside0.mk (blk_below (g := gb441) (o := .cells #[.int .i64 a0_0, .int .i64 a0_1, .slice A0_2 l0_2.length c0_2] 30 (0, 0)) zr5 hb); have n3_ := Aside0.mk (blk_below (g := gb442) (o := .cells #[.int .i64 a1_0, .int .i64 a1_1] 32 (0, 0)) zr9 hb); have n4_ := Aside0.mk (below_step zr1 hb); clear HO_12; clear BK441; clear BK442; clear HB; have HO_12 := n0_; have HO449 := n1_; have BK441 := n2_; have BK442 := n3_; have HB := n4_; clear n0_ n1_ n2_ n3_ n4_; (try clear hb); (try clear hb2); (try clear hk); (try clear hi); (try clear ho0); (try clear hna_); (try clear hnb_); obtain ⟨Ao19, co19, eo19⟩ := Kd.R_slice HO449.out; subst eo19))))); all_goals (refine wpQuiet_nil ?_; intro _ hw2_; obtain ⟨nq, hw3_⟩ := hw2_; subst hw3_))); try go_wp2_with (first | (go_at_call 87; (with_reducible refine (spec_boLeaps.calls k1 a0_0 a0_1 _ _ l0_2 a1_0 a1_1 (rd t443 x14_1) t447 _ ?side1 ?side2 A14.out).mono ?_); (case side1 => exact zr2); (case side2 => exact HC0_2.out); rintro e w18 ⟨v448, rfl, ho0, hb⟩; have n0_ := Aside0.mk (Kd.R_elder' zr12 (Kd.R_base ho0) hb); have n1_ := Aside0.mk (Kd.R_lower (Kd.R_new' ho0 (Kd.R_lt zr12)) (below_size zr1)); have n2_ := Aside0.mk (blk_below (g := gb441) (o := .cells #[.int .i64 a0_0, .int .i64 a0_1, .slice A0_2 l0_2.length c0_2] 30 (0, 0)) zr5 hb); have n3_ := Aside0.mk (blk_below (g := gb442) (o := .cells #[.int .i64 a1_0, .int .i64 a1_1] 32 (0, 0)) zr9 hb); have n4_ := Aside0.mk (below_step zr1 hb); clear HO_12; clear BK441; clear BK442; clear HB; have HO_12 := n0_; have HO449 := n1_; have BK441 := n2_; have BK442 := n3_; have HB := n4_; clear n0_ n1_ n2_ n3_ n4_; (try clear hb); (try clear hb2); (try clear hk); (try clear hi); (try clear ho0); (try clear hna_); (try clear hnb_); obtain ⟨Ao19, co19, eo19⟩ := Kd.R_slice HO449.out; subst eo19)))
   go_loopg [23] k1 (fun kq v23 w' => ∃ (x23_2 : Int), v23 = .int .i64 x23_2 ∧ Aside0 (spec_paIs.l1 kq l2 (rd t443 x14_1) t443 (t443.length : Int) x14_1 t447 (t447.length : Int) x23_2 a0_0 a0_1 l0_2 a1_0 a1_1 = some r) ∧ Aside0 (kq ≤ k1) ∧ Aside0 (Kd.R (Kd.int .i64) 3 w' w.heap.size (fun k_ => some k_ ≠ ((.slice Ao19 t447.length co19) : Value).ownBlock) (.slice (some ad446) t443.length co10) t443) ∧ Aside0 (Kd.R (Kd.int .i64) 3 w' w.heap.size (fun k_ => some k_ ≠ ((.slice (some ad446) t443.length co10) : Value).ownBlock) (.slice Ao19 t447.length co19) t447) ∧ Aside0 (w'.heap[gb441]? = some (.cells #[.int .i64 a0_0, .int .i64 a0_1, (.slice A0_2 l0_2.length c0_2)] 30 (0, 0))) ∧ Aside0 (w'.heap[gb442]? = some (.cells #[.int .i64 a1_0, .int .i64 a1_1] 32 (0, 0))) ∧ Aside0 (Below w.heap.size w w'))
   case atStart => exact ⟨(0), zr18, H', ⟨Nat.le_refl _⟩, ⟨by (with_reducible repeat (first | apply Kd.R_alloc | apply Kd.R_drewN | apply Kd.R_drew)); exact Kd.R_mono HO_12.out (fun _ hk => hk.2)⟩, ⟨by (with_reducible repeat (first | apply Kd.R_alloc | apply Kd.R_drewN | apply Kd.R_drew)); exact Kd.R_mono HO449.out (fun _ hk => hk.2)⟩, ⟨zr5⟩, ⟨zr9⟩, ⟨zr1⟩⟩
   case round =>
    clear H'
    try clear c1; try clear c2; try clear p2; try clear p4; try clear q4; try clear hx4; try clear c5; try clear c7; try clear c11; try clear c11b0; try clear c12; try clear c12b0; try clear c13; try clear c13b0; try clear c15; try clear hcz16_0; try clear hcz16_1; try clear hcz16_2; try clear hcz17_0; try clear hcz17_1; try clear hcz8_0; try clear hcz8_1; try clear hcz8_2; try clear hfz16_0; try clear hfz16_1; try clear hfz16_2; try clear hfz17_0; try clear hfz17_1; try clear hfz8_0; try clear hfz8_1; try clear hfz8_2; try clear hx446_0; try clear p2; try clear p446; try clear q446
    obtain ⟨x23_2, rfl, HA, HK2, HO_12, HO_21, BK441, BK442, HB⟩ := hrel
    cases gk with
    | zero => exact absurd HA.out (by simp [spec_paIs.l1])
    | succ k2 =>
     have H := HA.out
     clear HA
     simp only [spec_paIs.l1] at H
     by_cases c20 : x23_2 < (t447.length : Int)
     rotate_left
     ·rw [if_neg c20] at H
      have c20b0 : decide (x23_2 < (t447.length : Int)) = false := decide_eq_false c20
      clear c20
      have H' := Aside0.mk H
      clear H
      go_wp2
      repeat ((first | go_quiet (fail) | (refine wp_region_quiet_lit (by kernel_rfl) (by kernel_rfl) ?_; (repeat (any_goals (first | go_big_quiet_step (fail) | quiet_step (fail)))); all_goals (refine wpQuiet_nil ?_; intro _ hw2_; obtain ⟨nq, hw3_⟩ := hw2_; subst hw3_))); try go_wp2)
      go_roundg k2
      case measure => have := HK1.out; have := HK2.out; omega
      case rel => exact ⟨(wrap64 (x14_1 + 1)), zr18, H', ⟨by have := HK1.out; have := HK2.out; omega⟩, ⟨by (with_reducible repeat (first | apply Kd.R_alloc | apply Kd.R_drewN | apply Kd.R_drew)); exact Kd.R_mono HO_12.out (fun _ hk => trivial)⟩, ⟨zr5⟩, ⟨zr9⟩, ⟨zr1⟩⟩
     rw [if_pos c20] at H
     have c20b0 : decide (x23_2 < (t447.length : Int)) = true := decide_eq_true c20
     clear c20
     by_cases c21 : 0 ≤ x23_2
     rotate_left
     ·rw [if_neg c21] at H
      exact absurd H (by simp)
     rw [if_pos c21] at H
     have c21b0 : decide (0 ≤ x23_2) = true := decide_eq_true c21
     clear c21
     by_cases c22 : x23_2 < (t447.length : Int)
     rotate_left
     ·rw [if_neg c22] at H
      exact absurd H (by simp)
     rw [if_pos c22] at H
     have c22b0 : decide (x23_2 < (t447.length : Int)) = true := decide_eq_true c22
     clear c22
     by_cases c23 : 0 ≤ (rd t443 x14_1)
     rotate_left
     ·rw [if_neg c23] at H
      exact absurd H (by simp)
     rw [if_pos c23] at H
     have c23b0 : decide (0 ≤ (rd t443 x14_1)) = true := decide_eq_true c23
     clear c23
     by_cases c24 : (rd t443 x14_1) < (l2.length : Int)
     rotate_left
     ·rw [if_neg c24] at H
      exact absurd H (by simp)
     rw [if_pos c24] at H
     have c24b0 : decide ((rd t443 x14_1) < (l2.length : Int)) = true := decide_eq_true c24
     clear c24
     by_cases c25 : 0 ≤ (rd t447 x23_2)
     rotate_left
     ·rw [if_neg c25] at H
      exact absurd H (by simp)
     rw [if_pos c25] at H
     have c25b0 : decide (0 ≤ (rd t447 x23_2)) = true := decide_eq_true c25
     clear c25
     by_cases c26 : (rd t447 x23_2) < (l2.length : Int)
     rotate_left
     ·rw [if_neg c26] at H
      exact absurd H (by simp)
     rw [if_pos c26] at H
     have c26b0 : decide ((rd t447 x23_2) < (l2.length : Int)) = true := decide_eq_true c26
     clear c26
     by_cases c27 : (rd l2 (rd t443 x14_1)) = (rd l2 (rd t447 x23_2))
     ·rw [if_pos c27] at H
      have c27b0 : ((rd l2 (rd t443 x14_1)) == (rd l2 (rd t447 x23_2))) = true := beq_iff_eq.mpr c27
      have c27b1 : ((rd l2 (rd t443 x14_1)) != (rd l2 (rd t447 x23_2))) = false := bne_eq_false_iff_eq.mpr c27
      clear c27
      obtain rfl := Option.some.inj H
      have p450 : 0 ≤ (x23_2 : Int) := of_decide_eq_true zr13
      have q450 : x23_2 < (t447.length : Int) := of_decide_eq_true zr13
      obtain ⟨ad450, e450, hx450_0⟩ := Kd.at_int (Kd.R_reads' HO_21.out).2.2 x23_2 p450 q450
      cases e450
      replace p450 := eq_true p450
      replace q450 := eq_true q450
      have p451 : 0 ≤ ((rd t443 x14_1) : Int) := of_decide_eq_true zr13
      have q451 : (rd t443 x14_1) < (l2.length : Int) := of_decide_eq_true zr13
      obtain ⟨ad451, e451, hx451_0⟩ := Kd.at_int HR2.out (rd t443 x14_1) p451 q451
      cases e451
      (first | replace hx451_0 := (HB.out.cell (World.block_lt_of_cell? w _ hx451_0)).trans hx451_0 | skip)
      replace p451 := eq_true p451
      replace q451 := eq_true q451
      have p452 : 0 ≤ ((rd t447 x23_2) : Int) := of_decide_eq_true zr13
      have q452 : (rd t447 x23_2) < (l2.length : Int) := of_decide_eq_true zr13
      obtain ⟨ad452, e452, hx452_0⟩ := Kd.at_int HR2.out (rd t447 x23_2) p452 q452
      obtain rfl : ad451 = ad452 := (by injection e452)
      (first | replace hx452_0 := (HB.out.cell (World.block_lt_of_cell? w _ hx452_0)).trans hx452_0 | skip)
      replace p452 := eq_true p452
      replace q452 := eq_true q452
      go_wp2
      repeat ((first | go_quiet (fail) | (refine wp_region_quiet_lit (by kernel_rfl) (by kernel_rfl) ?_; (repeat (any_goals (first | go_big_quiet_step (fail) | quiet_step (fail)))); all_goals (refine wpQuiet_nil ?_; intro _ hw2_; obtain ⟨nq, hw3_⟩ := hw2_; subst hw3_))); try go_wp2)
      go_ret
      exact ⟨zr15, zr1⟩
     rw [if_neg c27] at H
     have c27b0 : ((rd l2 (rd t443 x14_1)) == (rd l2 (rd t447 x23_2))) = false := beq_eq_false_iff_ne.mpr c27
     have c27b1 : ((rd l2 (rd t443 x14_1)) != (rd l2 (rd t447 x23_2))) = true := bne_iff_ne.mpr c27
     have H' := Aside0.mk H
     clear H
     have p450 : 0 ≤ (x23_2 : Int) := of_decide_eq_true zr13
     have q450 : x23_2 < (t447.length : Int) := of_decide_eq_true zr13
     obtain ⟨ad450, e450, hx450_0⟩ := Kd.at_int (Kd.R_reads' HO_21.out).2.2 x23_2 p450 q450
     cases e450
     replace p450 := eq_true p450
     replace q450 := eq_true q450
     have p451 : 0 ≤ ((rd t443 x14_1) : Int) := of_decide_eq_true zr13
     have q451 : (rd t443 x14_1) < (l2.length : Int) := of_decide_eq_true zr13
     obtain ⟨ad451, e451, hx451_0⟩ := Kd.at_int HR2.out (rd t443 x14_1) p451 q451
     cases e451
     (first | replace hx451_0 := (HB.out.cell (World.block_lt_of_cell? w _ hx451_0)).trans hx451_0 | skip)
     replace p451 := eq_true p451
     replace q451 := eq_true q451
     have p452 : 0 ≤ ((rd t447 x23_2) : Int) := of_decide_eq_true zr13
     have q452 : (rd t447 x23_2) < (l2.length : Int) := of_decide_eq_true zr13
     obtain ⟨ad452, e452, hx452_0⟩ := Kd.at_int HR2.out (rd t447 x23_2) p452 q452
     obtain rfl : ad451 = ad452 := (by injection e452)
     (first | replace hx452_0 := (HB.out.cell (World.block_lt_of_cell? w _ hx452_0)).trans hx452_0 | skip)
     replace p452 := eq_true p452
     replace q452 := eq_true q452
     go_wp2
     repeat ((first | go_quiet (fail) | (refine wp_region_quiet_lit (by kernel_rfl) (by kernel_rfl) ?_; (repeat (any_goals (first | go_big_quiet_step (fail) | quiet_step (fail)))); all_goals (refine wpQuiet_nil ?_; intro _ hw2_; obtain ⟨nq, hw3_⟩ := hw2_; subst hw3_))); try go_wp2)
     go_roundg k2
     case measure => have := HK1.out; have := HK2.out; omega
     case rel => exact ⟨(wrap64 (x23_2 + 1)), zr18, H', ⟨by have := HK1.out; have := HK2.out; omega⟩, ⟨zr12⟩, ⟨by (with_reducible repeat (first | apply Kd.R_alloc | apply Kd.R_drewN | apply Kd.R_drew)); exact HO_21.out⟩, ⟨zr5⟩, ⟨zr9⟩, ⟨zr1⟩⟩

/-! ### spec_IsPainting: function 25 -/
def spec_IsPainting.f (k : Nat) (a0_0 : Int) (a0_1 : Int) (l0_2 : List Int) (a1_0 : Int) (a1_1 : Int) (l2 : List Int) : Option (Bool × Bool) := (spec_boTwo.f k a0_0 a0_1 l0_2 a1_0 a1_1).bind fun t455 => (if t455 = true then ((spec_paGood.f k a0_0 a0_1 l0_2 l2).bind fun t456 => (if t456 = true then ((spec_paIs.f k a0_0 a0_1 l0_2 a1_0 a1_1 l2).bind fun t457 => (some (t457, true))) else (some (false, true)))) else (some (false, false)))
set_option maxHeartbeats 8000000 in
set_option maxRecDepth 100000 in
theorem spec_IsPainting.calls (k : Nat) (a0_0 : Int) (a0_1 : Int) (A0_2 : Option Addr) (c0_2 : Nat) (l0_2 : List Int) (a1_0 : Int) (a1_1 : Int) (A2 : Option Addr) (c2 : Nat) (l2 : List Int) (r1 : Bool) (r2 : Bool) (w : World) (hr0_2 : Kd.C (Kd.int .i64) w A0_2 l0_2.length l0_2) (hc0_2 : l0_2.length ≤ c0_2) (hr2 : Kd.C (Kd.int .i64) w A2 l2.length l2) (hc2 : l2.length ≤ c2) (h : spec_IsPainting.f k a0_0 a0_1 l0_2 a1_0 a1_1 l2 = some (r1, r2)) :
  Calls Try.prog 25 #[.agg #[.int .i64 a0_0, .int .i64 a0_1, .slice A0_2 l0_2.length c0_2], .agg #[.int .i64 a1_0, .int .i64 a1_1], .slice A2 l2.length c2] w fun e w' => e = .returned (.tuple #[.bool r1, .bool r2]) ∧ Below w.heap.size w w' := by
 have hu30 := Try.underlying30
 have hu32 := Try.underlying32
 have HR0_2 := Aside0.mk hr0_2
 have HC0_2 := Aside0.mk hc0_2
 clear hr0_2 hc0_2
 have HR2 := Aside0.mk hr2
 have HC2 := Aside0.mk hc2
 clear hr2 hc2
 have HB := Aside0.mk (Below.refl w.heap.size w)
 have H : ((spec_boTwo.f k a0_0 a0_1 l0_2 a1_0 a1_1).bind fun t455 => (if t455 = true then ((spec_paGood.f k a0_0 a0_1 l0_2 l2).bind fun t456 => (if t456 = true then ((spec_paIs.f k a0_0 a0_1 l0_2 a1_0 a1_1 l2).bind fun t457 => (some (t457, true))) else (some (false, true)))) else (some (false, false)))) = some (r1, r2) := h
 clear h
 replace H := Option.bind_eq_some_iff.mp H
 obtain ⟨t455, A40, H⟩ := H
 replace H : (if t455 = true then ((spec_paGood.f k a0_0 a0_1 l0_2 l2).bind fun t456 => (if t456 = true then ((spec_paIs.f k a0_0 a0_1 l0_2 a1_0 a1_1 l2).bind fun t457 => (some (t457, true))) else (some (false, true)))) else (some (false, false))) = some (r1, r2) := H
 have A4 := Aside0.mk A40
 clear A40
 by_cases c5 : t455 = true
 rotate_left
 ·replace c5 := Bool.eq_false_iff.mpr c5
  subst c5
  have H1 : (some (false, false)) = some (r1, r2) := by rw [if_neg (show ¬ (false = true) by decide)] at H; exact H
  clear H
  have H := H1
  clear H1
  simp only [Option.some.injEq, Prod.mk.injEq] at H
  obtain ⟨rfl, rfl⟩ := H
  go_enter Try.func25, Try.ntmps25
  go_wp2_with (first | ((with_reducible refine gate_dst (N := 3) rfl ?_); refine box_event ?hg (N := 3) ?hd (cs := #[.int .i64 a0_0, .int .i64 a0_1, .slice A0_2 l0_2.length c0_2]) (t := 30) ?hr ?_; (case hd => rfl); (case hg => rfl); (case hr => first | (go_simp; done) | (go_simp; rfl)); intro gb453 hg w28 hbox hb; have n0_ := Aside0.mk (below_step zr3 hb); have n1_ := Aside0.mk (hbox); have n2_ := Aside0.mk ((zr19 : w.heap.size ≤ gb453)); have n3_ := Aside0.mk ((zr19 : w.heap.size ≤ gb453)); clear HB; have HB := n0_; have BK453 := n1_; have GW453 := n2_; have GE453 := n3_; clear n0_ n1_ n2_ n3_; clear hb hbox hg) | ((with_reducible refine gate_dst (N := 4) rfl ?_); refine box_event ?hg (N := 4) ?hd (cs := #[.int .i64 a1_0, .int .i64 a1_1]) (t := 32) ?hr ?_; (case hd => rfl); (case hg => rfl); (case hr => first | (go_simp; done) | (go_simp; rfl)); intro gb454 hg w29 hbox hb; have n0_ := Aside0.mk (blk_below (g := gb453) (o := .cells #[.int .i64 a0_0, .int .i64 a0_1, .slice A0_2 l0_2.length c0_2] 30 (0, 0)) zr7 hb); have n1_ := Aside0.mk (below_step zr10 hb); have n2_ := Aside0.mk (hbox); have n3_ := Aside0.mk ((zr23 : w.heap.size ≤ gb454)); have n4_ := Aside0.mk ((zr23 : w.heap.size ≤ gb454)); have n5_ := Aside0.mk ((zr21 : gb453 ≠ gb454)); have n6_ := Aside0.mk ((zr22 : gb454 ≠ gb453)); clear BK453; clear HB; have BK453 := n0_; have HB := n1_; have BK454 := n2_; have GW454 := n3_; have GE454 := n4_; have NB453_454 := n5_; have NB454_453 := n6_; clear n0_ n1_ n2_ n3_ n4_ n5_ n6_; clear hb hbox hg; have hnb30 := NB453_454.out; have hnc30 := NB454_453.out; have hcz31_0 : w29.cell? ⟨gb453, 0, none⟩ = some (.int .i64 a0_0) := (blk_cell BK453.out 0).trans rfl; have hcz31_1 : w29.cell? ⟨gb453, 1, none⟩ = some (.int .i64 a0_1) := (blk_cell BK453.out 1).trans rfl; have hcz31_2 : w29.cell? ⟨gb453, 2, none⟩ = some (.slice A0_2 l0_2.length c0_2) := (blk_cell BK453.out 2).trans rfl; have hfz31_0 := blk_frozen BK453.out 0; have hfz31_1 := blk_frozen BK453.out 1; have hfz31_2 := blk_frozen BK453.out 2; have hcz32_0 : w29.cell? ⟨gb454, 0, none⟩ = some (.int .i64 a1_0) := (blk_cell BK454.out 0).trans rfl; have hcz32_1 : w29.cell? ⟨gb454, 1, none⟩ = some (.int .i64 a1_1) := (blk_cell BK454.out 1).trans rfl; have hfz32_0 := blk_frozen BK454.out 0; have hfz32_1 := blk_frozen BK454.out 1) | ((with_reducible refine gate_callee (f := 57) rfl ?_); refine goesL_ (some 10) rfl rfl Try.func57 (by kernel_rfl) rfl #[.agg #[.int .i64 a0_0, .int .i64 a0_1, .slice A0_2 l0_2.length c0_2], .agg #[.int .i64 a1_0, .int .i64 a1_1]] rfl zr6 ?_; (with_reducible refine (spec_boTwo.calls k a0_0 a0_1 _ _ l0_2 a1_0 a1_1 false _ ?side1 ?side2 A4.out).mono ?_); (case side1 => exact zr2); (case side2 => exact HC0_2.out); rintro e w33 ⟨rfl, hb⟩; refine ⟨_, rfl, ?_⟩; have n0_ := Aside0.mk (blk_below (g := gb453) (o := .cells #[.int .i64 a0_0, .int .i64 a0_1, .slice A0_2 l0_2.length c0_2] 30 (0, 0)) zr7 hb); have n1_ := Aside0.mk (blk_below (g := gb454) (o := .cells #[.int .i64 a1_0, .int .i64 a1_1] 32 (0, 0)) zr16 hb); have n2_ := Aside0.mk (below_step zr8 hb); clear BK453; clear BK454; clear HB; have BK453 := n0_; have BK454 := n1_; have HB := n2_; clear n0_ n1_ n2_; (try clear hb); (try clear hb2); (try clear hk); (try clear hi); (try clear hna_); (try clear hnb_)))
  go_ret2
  exact ⟨zr15, zr8⟩
 subst c5
 have H1 : ((spec_paGood.f k a0_0 a0_1 l0_2 l2).bind fun t456 => (if t456 = true then ((spec_paIs.f k a0_0 a0_1 l0_2 a1_0 a1_1 l2).bind fun t457 => (some (t457, true))) else (some (false, true)))) = some (r1, r2) := by rw [if_pos rfl] at H; exact H
 clear H
 have H := H1
 clear H1
 replace H := Option.bind_eq_some_iff.mp H
 obtain ⟨t456, A60, H⟩ := H
 replace H : (if t456 = true then ((spec_paIs.f k a0_0 a0_1 l0_2 a1_0 a1_1 l2).bind fun t457 => (some (t457, true))) else (some (false, true))) = some (r1, r2) := H
 have A6 := Aside0.mk A60
 clear A60
 by_cases c7 : t456 = true
 rotate_left
 ·replace c7 := Bool.eq_false_iff.mpr c7
  subst c7
  have H1 : (some (false, true)) = some (r1, r2) := by rw [if_neg (show ¬ (false = true) by decide)] at H; exact H
  clear H
  have H := H1
  clear H1
  simp only [Option.some.injEq, Prod.mk.injEq] at H
  obtain ⟨rfl, rfl⟩ := H
  go_enter Try.func25, Try.ntmps25
  go_wp2_with (first | ((with_reducible refine gate_dst (N := 3) rfl ?_); refine box_event ?hg (N := 3) ?hd (cs := #[.int .i64 a0_0, .int .i64 a0_1, .slice A0_2 l0_2.length c0_2]) (t := 30) ?hr ?_; (case hd => rfl); (case hg => rfl); (case hr => first | (go_simp; done) | (go_simp; rfl)); intro gb453 hg w20 hbox hb; have n0_ := Aside0.mk (below_step zr3 hb); have n1_ := Aside0.mk (hbox); have n2_ := Aside0.mk ((zr19 : w.heap.size ≤ gb453)); have n3_ := Aside0.mk ((zr19 : w.heap.size ≤ gb453)); clear HB; have HB := n0_; have BK453 := n1_; have GW453 := n2_; have GE453 := n3_; clear n0_ n1_ n2_ n3_; clear hb hbox hg) | ((with_reducible refine gate_dst (N := 4) rfl ?_); refine box_event ?hg (N := 4) ?hd (cs := #[.int .i64 a1_0, .int .i64 a1_1]) (t := 32) ?hr ?_; (case hd => rfl); (case hg => rfl); (case hr => first | (go_simp; done) | (go_simp; rfl)); intro gb454 hg w21 hbox hb; have n0_ := Aside0.mk (blk_below (g := gb453) (o := .cells #[.int .i64 a0_0, .int .i64 a0_1, .slice A0_2 l0_2.length c0_2] 30 (0, 0)) zr7 hb); have n1_ := Aside0.mk (below_step zr10 hb); have n2_ := Aside0.mk (hbox); have n3_ := Aside0.mk ((zr23 : w.heap.size ≤ gb454)); have n4_ := Aside0.mk ((zr23 : w.heap.size ≤ gb454)); have n5_ := Aside0.mk ((zr21 : gb453 ≠ gb454)); have n6_ := Aside0.mk ((zr22 : gb454 ≠ gb453)); clear BK453; clear HB; have BK453 := n0_; have HB := n1_; have BK454 := n2_; have GW454 := n3_; have GE454 := n4_; have NB453_454 := n5_; have NB454_453 := n6_; clear n0_ n1_ n2_ n3_ n4_ n5_ n6_; clear hb hbox hg; have hnb22 := NB453_454.out; have hnc22 := NB454_453.out; have hcz23_0 : w21.cell? ⟨gb453, 0, none⟩ = some (.int .i64 a0_0) := (blk_cell BK453.out 0).trans rfl; have hcz23_1 : w21.cell? ⟨gb453, 1, none⟩ = some (.int .i64 a0_1) := (blk_cell BK453.out 1).trans rfl; have hcz23_2 : w21.cell? ⟨gb453, 2, none⟩ = some (.slice A0_2 l0_2.length c0_2) := (blk_cell BK453.out 2).trans rfl; have hfz23_0 := blk_frozen BK453.out 0; have hfz23_1 := blk_frozen BK453.out 1; have hfz23_2 := blk_frozen BK453.out 2; have hcz24_0 : w21.cell? ⟨gb454, 0, none⟩ = some (.int .i64 a1_0) := (blk_cell BK454.out 0).trans rfl; have hcz24_1 : w21.cell? ⟨gb454, 1, none⟩ = some (.int .i64 a1_1) := (blk_cell BK454.out 1).trans rfl; have hfz24_0 := blk_frozen BK454.out 0; have hfz24_1 := blk_frozen BK454.out 1) | ((with_reducible refine gate_callee (f := 57) rfl ?_); refine goesL_ (some 10) rfl rfl Try.func57 (by kernel_rfl) rfl #[.agg #[.int .i64 a0_0, .int .i64 a0_1, .slice A0_2 l0_2.length c0_2], .agg #[.int .i64 a1_0, .int .i64 a1_1]] rfl zr6 ?_; (with_reducible refine (spec_boTwo.calls k a0_0 a0_1 _ _ l0_2 a1_0 a1_1 true _ ?side1 ?side2 A4.out).mono ?_); (case side1 => exact zr2); (case side2 => exact HC0_2.out); rintro e w25 ⟨rfl, hb⟩; refine ⟨_, rfl, ?_⟩; have n0_ := Aside0.mk (blk_below (g := gb453) (o := .cells #[.int .i64 a0_0, .int .i64 a0_1, .slice A0_2 l0_2.length c0_2] 30 (0, 0)) zr7 hb); have n1_ := Aside0.mk (blk_below (g := gb454) (o := .cells #[.int .i64 a1_0, .int .i64 a1_1] 32 (0, 0)) zr16 hb); have n2_ := Aside0.mk (below_step zr8 hb); clear BK453; clear BK454; clear HB; have BK453 := n0_; have BK454 := n1_; have HB := n2_; clear n0_ n1_ n2_; (try clear hb); (try clear hb2); (try clear hk); (try clear hi); (try clear hna_); (try clear hnb_); have hcz26_0 : w25.cell? ⟨gb453, 0, none⟩ = some (.int .i64 a0_0) := (blk_cell BK453.out 0).trans rfl; have hcz26_1 : w25.cell? ⟨gb453, 1, none⟩ = some (.int .i64 a0_1) := (blk_cell BK453.out 1).trans rfl; have hcz26_2 : w25.cell? ⟨gb453, 2, none⟩ = some (.slice A0_2 l0_2.length c0_2) := (blk_cell BK453.out 2).trans rfl; have hfz26_0 := blk_frozen BK453.out 0; have hfz26_1 := blk_frozen BK453.out 1; have hfz26_2 := blk_frozen BK453.out 2) | ((with_reducible refine gate_callee (f := 58) rfl ?_); refine goesL_ (some 14) rfl rfl Try.func58 (by kernel_rfl) rfl #[.agg #[.int .i64 a0_0, .int .i64 a0_1, .slice A0_2 l0_2.length c0_2], .slice A2 l2.length c2] rfl zr6 ?_; (with_reducible refine (spec_paGood.calls k a0_0 a0_1 _ _ l0_2 _ _ l2 false _ ?side1 ?side2 ?side3 ?side4 A6.out).mono ?_); (case side1 => exact zr2); (case side2 => exact HC0_2.out); (case side3 => exact zr17); (case side4 => exact HC2.out); rintro e w27 ⟨rfl, hb⟩; refine ⟨_, rfl, ?_⟩; have n0_ := Aside0.mk (blk_below (g := gb453) (o := .cells #[.int .i64 a0_0, .int .i64 a0_1, .slice A0_2 l0_2.length c0_2] 30 (0, 0)) zr7 hb); have n1_ := Aside0.mk (blk_below (g := gb454) (o := .cells #[.int .i64 a1_0, .int .i64 a1_1] 32 (0, 0)) zr16 hb); have n2_ := Aside0.mk (below_step zr8 hb); clear BK453; clear BK454; clear HB; have BK453 := n0_; have BK454 := n1_; have HB := n2_; clear n0_ n1_ n2_; (try clear hb); (try clear hb2); (try clear hk); (try clear hi); (try clear hna_); (try clear hnb_)))
  go_ret2
  exact ⟨zr15, zr8⟩
 subst c7
 have H1 : ((spec_paIs.f k a0_0 a0_1 l0_2 a1_0 a1_1 l2).bind fun t457 => (some (t457, true))) = some (r1, r2) := by rw [if_pos rfl] at H; exact H
 clear H
 have H := H1
 clear H1
 replace H := Option.bind_eq_some_iff.mp H
 obtain ⟨t457, A80, H⟩ := H
 replace H : (some (t457, true)) = some (r1, r2) := H
 have A8 := Aside0.mk A80
 clear A80
 simp only [Option.some.injEq, Prod.mk.injEq] at H
 obtain ⟨rfl, rfl⟩ := H
 go_enter Try.func25, Try.ntmps25
 go_wp2_with (first | ((with_reducible refine gate_dst (N := 3) rfl ?_); refine box_event ?hg (N := 3) ?hd (cs := #[.int .i64 a0_0, .int .i64 a0_1, .slice A0_2 l0_2.length c0_2]) (t := 30) ?hr ?_; (case hd => rfl); (case hg => rfl); (case hr => first | (go_simp; done) | (go_simp; rfl)); intro gb453 hg w9 hbox hb; have n0_ := Aside0.mk (below_step zr3 hb); have n1_ := Aside0.mk (hbox); have n2_ := Aside0.mk ((zr19 : w.heap.size ≤ gb453)); have n3_ := Aside0.mk ((zr19 : w.heap.size ≤ gb453)); clear HB; have HB := n0_; have BK453 := n1_; have GW453 := n2_; have GE453 := n3_; clear n0_ n1_ n2_ n3_; clear hb hbox hg) | ((with_reducible refine gate_dst (N := 4) rfl ?_); refine box_event ?hg (N := 4) ?hd (cs := #[.int .i64 a1_0, .int .i64 a1_1]) (t := 32) ?hr ?_; (case hd => rfl); (case hg => rfl); (case hr => first | (go_simp; done) | (go_simp; rfl)); intro gb454 hg w10 hbox hb; have n0_ := Aside0.mk (blk_below (g := gb453) (o := .cells #[.int .i64 a0_0, .int .i64 a0_1, .slice A0_2 l0_2.length c0_2] 30 (0, 0)) zr7 hb); have n1_ := Aside0.mk (below_step zr10 hb); have n2_ := Aside0.mk (hbox); have n3_ := Aside0.mk ((zr23 : w.heap.size ≤ gb454)); have n4_ := Aside0.mk ((zr23 : w.heap.size ≤ gb454)); have n5_ := Aside0.mk ((zr21 : gb453 ≠ gb454)); have n6_ := Aside0.mk ((zr22 : gb454 ≠ gb453)); clear BK453; clear HB; have BK453 := n0_; have HB := n1_; have BK454 := n2_; have GW454 := n3_; have GE454 := n4_; have NB453_454 := n5_; have NB454_453 := n6_; clear n0_ n1_ n2_ n3_ n4_ n5_ n6_; clear hb hbox hg; have hnb11 := NB453_454.out; have hnc11 := NB454_453.out; have hcz12_0 : w10.cell? ⟨gb453, 0, none⟩ = some (.int .i64 a0_0) := (blk_cell BK453.out 0).trans rfl; have hcz12_1 : w10.cell? ⟨gb453, 1, none⟩ = some (.int .i64 a0_1) := (blk_cell BK453.out 1).trans rfl; have hcz12_2 : w10.cell? ⟨gb453, 2, none⟩ = some (.slice A0_2 l0_2.length c0_2) := (blk_cell BK453.out 2).trans rfl; have hfz12_0 := blk_frozen BK453.out 0; have hfz12_1 := blk_frozen BK453.out 1; have hfz12_2 := blk_frozen BK453.out 2; have hcz13_0 : w10.cell? ⟨gb454, 0, none⟩ = some (.int .i64 a1_0) := (blk_cell BK454.out 0).trans rfl; have hcz13_1 : w10.cell? ⟨gb454, 1, none⟩ = some (.int .i64 a1_1) := (blk_cell BK454.out 1).trans rfl; have hfz13_0 := blk_frozen BK454.out 0; have hfz13_1 := blk_frozen BK454.out 1) | ((with_reducible refine gate_callee (f := 57) rfl ?_); refine goesL_ (some 10) rfl rfl Try.func57 (by kernel_rfl) rfl #[.agg #[.int .i64 a0_0, .int .i64 a0_1, .slice A0_2 l0_2.length c0_2], .agg #[.int .i64 a1_0, .int .i64 a1_1]] rfl zr6 ?_; (with_reducible refine (spec_boTwo.calls k a0_0 a0_1 _ _ l0_2 a1_0 a1_1 true _ ?side1 ?side2 A4.out).mono ?_); (case side1 => exact zr2); (case side2 => exact HC0_2.out); rintro e w14 ⟨rfl, hb⟩; refine ⟨_, rfl, ?_⟩; have n0_ := Aside0.mk (blk_below (g := gb453) (o := .cells #[.int .i64 a0_0, .int .i64 a0_1, .slice A0_2 l0_2.length c0_2] 30 (0, 0)) zr7 hb); have n1_ := Aside0.mk (blk_below (g := gb454) (o := .cells #[.int .i64 a1_0, .int .i64 a1_1] 32 (0, 0)) zr16 hb); have n2_ := Aside0.mk (below_step zr8 hb); clear BK453; clear BK454; clear HB; have BK453 := n0_; have BK454 := n1_; have HB := n2_; clear n0_ n1_ n2_; (try clear hb); (try clear hb2); (try clear hk); (try clear hi); (try clear hna_); (try clear hnb_); have hcz15_0 : w14.cell? ⟨gb453, 0, none⟩ = some (.int .i64 a0_0) := (blk_cell BK453.out 0).trans rfl; have hcz15_1 : w14.cell? ⟨gb453, 1, none⟩ = some (.int .i64 a0_1) := (blk_cell BK453.out 1).trans rfl; have hcz15_2 : w14.cell? ⟨gb453, 2, none⟩ = some (.slice A0_2 l0_2.length c0_2) := (blk_cell BK453.out 2).trans rfl; have hfz15_0 := blk_frozen BK453.out 0; have hfz15_1 := blk_frozen BK453.out 1; have hfz15_2 := blk_frozen BK453.out 2) | ((with_reducible refine gate_callee (f := 58) rfl ?_); refine goesL_ (some 14) rfl rfl Try.func58 (by kernel_rfl) rfl #[.agg #[.int .i64 a0_0, .int .i64 a0_1, .slice A0_2 l0_2.length c0_2], .slice A2 l2.length c2] rfl zr6 ?_; (with_reducible refine (spec_paGood.calls k a0_0 a0_1 _ _ l0_2 _ _ l2 true _ ?side1 ?side2 ?side3 ?side4 A6.out).mono ?_); (case side1 => exact zr2); (case side2 => exact HC0_2.out); (case side3 => exact zr17); (case side4 => exact HC2.out); rintro e w16 ⟨rfl, hb⟩; refine ⟨_, rfl, ?_⟩; have n0_ := Aside0.mk (blk_below (g := gb453) (o := .cells #[.int .i64 a0_0, .int .i64 a0_1, .slice A0_2 l0_2.length c0_2] 30 (0, 0)) zr7 hb); have n1_ := Aside0.mk (blk_below (g := gb454) (o := .cells #[.int .i64 a1_0, .int .i64 a1_1] 32 (0, 0)) zr16 hb); have n2_ := Aside0.mk (below_step zr8 hb); clear BK453; clear BK454; clear HB; have BK453 := n0_; have BK454 := n1_; have HB := n2_; clear n0_ n1_ n2_; (try clear hb); (try clear hb2); (try clear hk); (try clear hi); (try clear hna_); (try clear hnb_); have hcz17_0 : w16.cell? ⟨gb453, 0, none⟩ = some (.int .i64 a0_0) := (blk_cell BK453.out 0).trans rfl; have hcz17_1 : w16.cell? ⟨gb453, 1, none⟩ = some (.int .i64 a0_1) := (blk_cell BK453.out 1).trans rfl; have hcz17_2 : w16.cell? ⟨gb453, 2, none⟩ = some (.slice A0_2 l0_2.length c0_2) := (blk_cell BK453.out 2).trans rfl; have hfz17_0 := blk_frozen BK453.out 0; have hfz17_1 := blk_frozen BK453.out 1; have hfz17_2 := blk_frozen BK453.out 2; have hcz18_0 : w16.cell? ⟨gb454, 0, none⟩ = some (.int .i64 a1_0) := (blk_cell BK454.out 0).trans rfl; have hcz18_1 : w16.cell? ⟨gb454, 1, none⟩ = some (.int .i64 a1_1) := (blk_cell BK454.out 1).trans rfl; have hfz18_0 := blk_frozen BK454.out 0; have hfz18_1 := blk_frozen BK454.out 1) | (go_at_call 59; (with_reducible refine (spec_paIs.calls k a0_0 a0_1 _ _ l0_2 a1_0 a1_1 _ _ l2 t457 _ ?side1 ?side2 ?side3 ?side4 A8.out).mono ?_); (case side1 => exact zr2); (case side2 => exact HC0_2.out); (case side3 => exact zr17); (case side4 => exact HC2.out); rintro e w19 ⟨rfl, hb⟩; have n0_ := Aside0.mk (blk_below (g := gb453) (o := .cells #[.int .i64 a0_0, .int .i64 a0_1, .slice A0_2 l0_2.length c0_2] 30 (0, 0)) zr7 hb); have n1_ := Aside0.mk (blk_below (g := gb454) (o := .cells #[.int .i64 a1_0, .int .i64 a1_1] 32 (0, 0)) zr16 hb); have n2_ := Aside0.mk (below_step zr8 hb); clear BK453; clear BK454; clear HB; have BK453 := n0_; have BK454 := n1_; have HB := n2_; clear n0_ n1_ n2_; (try clear hb); (try clear hb2); (try clear hk); (try clear hi); (try clear hna_); (try clear hnb_)))
 go_ret2
 exact ⟨zr15, zr8⟩

end Go.Proofs.Ythoklbeenjppbaa.Q

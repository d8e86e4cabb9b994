/- Written by a program of this session: functions of the translation as plain Lean functions, each with a proof that the call does what the plain function says; the conditions stand in each theorem. -/
import Derived.Test.YtbecdckdbeoomaaQ0
import Derived.Test.YtbecdckdbeoomaaQ1
import Derived.Test.YtbecdckdbeoomaaQ32
namespace Go.Proofs.Ytbecdckdbeoomaa.Q
open Go.RowKit Go.Proofs.YtbecdckdbeoomaaW.PrintWords Go.Proofs.YtbecdckdbeoomaaW.PrintLast Go.Proofs.YtbecdckdbeoomaaW.PrintMore
attribute [local go_sem] max2_int min2_int max_two min_two max_three min_three max_four min_four   -- for this text's walks alone
set_option linter.unusedVariables false
set_option linter.unusedSimpArgs false

theorem zab1 {p : Prop} (h : p := by repeat (first | (with_reducible first | exact HB.out | apply below_alloc | apply pw_below_drewN | apply below_drew1 | refine below_set ?_ GE649.out | refine below_set ?_ GE650.out) | exact HB.out)) : p := h
theorem zab2 {p : Prop} (h : p := by repeat (first | (with_reducible first | exact HB.out | apply below_alloc | apply pw_below_drewN | apply below_drew1 | refine below_set ?_ GE629.out) | exact HB.out)) : p := h
theorem zab3 {p : Prop} (h : p := by first | exact BK649.out | ((with_reducible repeat (first | refine blk_drewN ?_ _ | refine blk_drew ?_ | refine blk_alloc ?_ _)); exact BK649.out)) : p := h
theorem zab4 {p : Prop} (h : p := by (try simp only [List.map_toArray, List.map_cons, List.map_nil]); first | done | rfl | (simp only [List.length_drop, List.length_take]; rfl)) : p := h
theorem zab5 {p : Prop} (h : p := by first | exact BK650.out | ((with_reducible repeat (first | refine blk_drewN ?_ _ | refine blk_drew ?_ | refine blk_alloc ?_ _)); exact BK650.out)) : p := h
theorem zab6 {p : Prop} (h : p := by repeat (first | (with_reducible first | exact HB.out | apply below_alloc | apply pw_below_drewN | apply below_drew1) | exact HB.out)) : p := h
theorem zab7 {p : Prop} (h : p := by first | exact BK629.out | ((with_reducible repeat (first | refine blk_drewN ?_ _ | refine blk_drew ?_ | refine blk_alloc ?_ _)); exact BK629.out)) : p := h
theorem zab8 {p : Prop} (h : p := by repeat (first | exact (Kd.C_below HR0_2.out HB.out) | (with_reducible refine Kd.C_alloc ?_ _) | (with_reducible refine Kd.C_drewN ?_ _) | (with_reducible refine Kd.C_drew ?_))) : p := h
theorem zab9 {p : Prop} (h : p := by first | exact HO_15.out | ((with_reducible repeat (first | apply Kd.R_alloc | apply Kd.R_drewN | apply Kd.R_drew)); exact HO_15.out)) : p := h
theorem zab10 {p : Prop} (h : p := by first | exact HO_7.out | ((with_reducible repeat (first | apply Kd.R_alloc | apply Kd.R_drewN | apply Kd.R_drew)); exact HO_7.out)) : p := h
theorem zab11 {p : Prop} (h : p := by first | (with_reducible assumption) | assumption) : p := h
theorem zab12 {p : Prop} (h : p := by first | rfl | (simp [errW_none, errW_some] <;> rfl) | (simp [*, errW_none, errW_some] <;> rfl)) : p := h
theorem zab13 {p : Prop} (h : p := by first | rfl | (simp; done) | (simp [*]; done)) : p := h
theorem zab14 {p : Prop} (h : p := by repeat (first | (with_reducible first | exact HB.out | apply below_alloc | apply pw_below_drewN | apply below_drew1 | refine below_set ?_ GE649.out) | exact HB.out)) : p := h
theorem zab15 {p : Prop} (h : p := by repeat (first | exact (Kd.R_reads' HO_7.out).2.2 | (with_reducible refine Kd.C_alloc ?_ _) | (with_reducible refine Kd.C_drewN ?_ _) | (with_reducible refine Kd.C_drew ?_))) : p := h
theorem zab16 {p : Prop} (h : p := by first | exact HO_32.out | ((with_reducible repeat (first | apply Kd.R_alloc | apply Kd.R_drewN | apply Kd.R_drew)); exact HO_32.out)) : p := h
theorem zab17 {p : Prop} (h : p := by have := HK1.out; have := HJ15.out; have := HK3.out; omega) : p := h
theorem zab18 {p : Prop} (h : p := by (with_reducible repeat (first | apply Kd.R_alloc | apply Kd.R_drewN | apply Kd.R_drew)); exact Kd.R_mono HO_32.out (fun _ hk => ⟨hk.2, hk.1⟩)) : p := h
theorem zab19 {p : Prop} (h : p := by (with_reducible repeat (first | apply Kd.R_alloc | apply Kd.R_drewN | apply Kd.R_drew)); exact Kd.R_mono HO_15.out (fun _ hk => ⟨hk.2, hk.1⟩)) : p := h
theorem zab20 {p : Prop} (h : p := by repeat (first | exact (Kd.C_below HR0_2.out zab2) | (with_reducible refine Kd.C_alloc ?_ _) | (with_reducible refine Kd.C_drewN ?_ _) | (with_reducible refine Kd.C_drew ?_))) : p := h
theorem zab21 {p : Prop} (h : p := by rw [hg]; exact (below_size zab6)) : p := h
/-! ### spec_paGood: function 55 -/
def spec_paGood.l0 : Nat → List Int → Int → Int → Int → Int → List Int → Option (Bool)
 | 0, _, _, _, _, _, _ => none
 | k + 1, x15, x16, x17, x630000, x630001, x630002 => if x17 < x16 then (if 0 ≤ x17 then (if x17 < (x15.length : Int) then ((spec_boHas.f k x630000 x630001 x630002 x17).bind fun t631 => ((spec_l1In.f (rd x15 x17) 0 8).bind fun t632 => (if (t631 != t632) = true then (some false) else ((spec_boHas.f k x630000 x630001 x630002 x17).bind fun t633 => (if t633 = true then (spec_paGood.l0 k x15 x16 (wrap64 (x17 + 1)) x630000 x630001 x630002) else (if (rd x15 x17) = (-1) then (spec_paGood.l0 k x15 x16 (wrap64 (x17 + 1)) x630000 x630001 x630002) else (some false))))))) else (none)) else (none)) else (some true)
def spec_paGood.f (k : Nat) (a0_0 : Int) (a0_1 : Int) (l0_2 : List Int) (l1 : List Int) : Option (Bool) := if (l1.length : Int) = (wrap64 (a0_0 * a0_1)) then (spec_paGood.l0 k l1 (l1.length : Int) 0 a0_0 a0_1 l0_2) else (some false)
set_option maxHeartbeats 8000000 in
set_option maxRecDepth 100000 in
theorem spec_paGood.calls (k : Nat) (a0_0 : Int) (a0_1 : Int) (A0_2 : Option Addr) (c0_2 : Nat) (l0_2 : List Int) (A1 : Option Addr) (c1 : Nat) (l1 : List Int) (r : Bool) (w : World) (hr0_2 : Kd.C (Kd.int .i64) w A0_2 l0_2.length l0_2) (hc0_2 : l0_2.length ≤ c0_2) (hr1 : Kd.C (Kd.int .i64) w A1 l1.length l1) (hc1 : l1.length ≤ c1) (h : spec_paGood.f k a0_0 a0_1 l0_2 l1 = some r) :
  Calls Try.prog 55 #[.agg #[.int .i64 a0_0, .int .i64 a0_1, .slice A0_2 l0_2.length c0_2], .slice A1 l1.length c1] w fun e w' => e = .returned (.bool r) ∧ Below w.heap.size w w' := by
 have hu30 := Try.underlying30
 have HR0_2 := Aside0.mk hr0_2
 have HC0_2 := Aside0.mk hc0_2
 clear hr0_2 hc0_2
 have HR1 := Aside0.mk hr1
 have HC1 := Aside0.mk hc1
 clear hr1 hc1
 have HB := Aside0.mk (Below.refl w.heap.size w)
 have H : (if (l1.length : Int) = (wrap64 (a0_0 * a0_1)) then (spec_paGood.l0 k l1 (l1.length : Int) 0 a0_0 a0_1 l0_2) else (some false)) = some r := h
 clear h
 by_cases c3 : (l1.length : Int) = (wrap64 (a0_0 * a0_1))
 rotate_left
 ·rw [if_neg c3] at H
  have c3b0 : ((l1.length : Int) == (wrap64 (a0_0 * a0_1))) = false := beq_eq_false_iff_ne.mpr c3
  have c3b1 : ((l1.length : Int) != (wrap64 (a0_0 * a0_1))) = true := bne_iff_ne.mpr c3
  obtain rfl := Option.some.inj H
  go_enter Try.func55, Try.ntmps55
  go_wp2_with (first | ((with_reducible refine gate_dst (N := 2) rfl ?_); refine box_event ?hg (N := 2) ?hd (cs := #[.int .i64 a0_0, .int .i64 a0_1, .slice A0_2 l0_2.length c0_2]) (t := 30) ?hr ?_; (case hd => rfl); (case hg => rfl); (case hr => first | (go_simp; done) | (go_simp; rfl)); intro gb629 hg w29 hbox hb; have n0_ := Aside0.mk (below_step zab6 hb); have n1_ := Aside0.mk (hbox); have n2_ := Aside0.mk ((zab21 : w.heap.size ≤ gb629)); have n3_ := Aside0.mk ((zab21 : w.heap.size ≤ gb629)); clear HB; have HB := n0_; have BK629 := n1_; have GW629 := n2_; have GE629 := n3_; clear n0_ n1_ n2_ n3_; clear hb hbox hg; have hcz30_0 : w29.cell? ⟨gb629, 0, none⟩ = some (.int .i64 a0_0) := (blk_cell BK629.out 0).trans rfl; have hcz30_1 : w29.cell? ⟨gb629, 1, none⟩ = some (.int .i64 a0_1) := (blk_cell BK629.out 1).trans rfl; have hcz30_2 : w29.cell? ⟨gb629, 2, none⟩ = some (.slice A0_2 l0_2.length c0_2) := (blk_cell BK629.out 2).trans rfl; have hfz30_0 := blk_frozen BK629.out 0; have hfz30_1 := blk_frozen BK629.out 1; have hfz30_2 := blk_frozen BK629.out 2))
  go_ret
  exact ⟨zab12, zab2⟩
 rw [if_pos c3] at H
 have c3b0 : ((l1.length : Int) == (wrap64 (a0_0 * a0_1))) = true := beq_iff_eq.mpr c3
 have c3b1 : ((l1.length : Int) != (wrap64 (a0_0 * a0_1))) = false := bne_eq_false_iff_eq.mpr c3
 clear c3
 have H' := Aside0.mk H
 clear H
 go_enter Try.func55, Try.ntmps55
 go_wp2_with (first | ((with_reducible refine gate_dst (N := 2) rfl ?_); refine box_event ?hg (N := 2) ?hd (cs := #[.int .i64 a0_0, .int .i64 a0_1, .slice A0_2 l0_2.length c0_2]) (t := 30) ?hr ?_; (case hd => rfl); (case hg => rfl); (case hr => first | (go_simp; done) | (go_simp; rfl)); intro gb629 hg w4 hbox hb; have n0_ := Aside0.mk (below_step zab6 hb); have n1_ := Aside0.mk (hbox); have n2_ := Aside0.mk ((zab21 : w.heap.size ≤ gb629)); have n3_ := Aside0.mk ((zab21 : w.heap.size ≤ gb629)); clear HB; have HB := n0_; have BK629 := n1_; have GW629 := n2_; have GE629 := n3_; clear n0_ n1_ n2_ n3_; clear hb hbox hg; have hcz5_0 : w4.cell? ⟨gb629, 0, none⟩ = some (.int .i64 a0_0) := (blk_cell BK629.out 0).trans rfl; have hcz5_1 : w4.cell? ⟨gb629, 1, none⟩ = some (.int .i64 a0_1) := (blk_cell BK629.out 1).trans rfl; have hcz5_2 : w4.cell? ⟨gb629, 2, none⟩ = some (.slice A0_2 l0_2.length c0_2) := (blk_cell BK629.out 2).trans rfl; have hfz5_0 := blk_frozen BK629.out 0; have hfz5_1 := blk_frozen BK629.out 1; have hfz5_2 := blk_frozen BK629.out 2))
 go_loopg [17] k (fun kq v17 w' => ∃ (x17_1 : Int), v17 = .int .i64 x17_1 ∧ Aside0 (spec_paGood.l0 kq l1 (l1.length : Int) x17_1 a0_0 a0_1 l0_2 = some r) ∧ Aside0 (kq ≤ k) ∧ Aside0 (w'.heap[gb629]? = some (.cells #[.int .i64 a0_0, .int .i64 a0_1, (.slice A0_2 l0_2.length c0_2)] 30 (0, 0))) ∧ Aside0 (Below w.heap.size w w'))
 case atStart => exact ⟨(0), zab13, H', ⟨Nat.le_refl _⟩, ⟨zab7⟩, ⟨zab2⟩⟩
 case round =>
  clear H'
  try clear c1; try clear p2; try clear c3; try clear c3b0; try clear c3b1; try clear c5; try clear hcz5_0; try clear hcz5_1; try clear hcz5_2; try clear hfz5_0; try clear hfz5_1; try clear hfz5_2
  obtain ⟨x17_1, rfl, HA, HK1, BK629, HB⟩ := hrel
  cases gk with
  | zero => exact absurd HA.out (by simp [spec_paGood.l0])
  | succ k1 =>
   have H := HA.out
   clear HA
   simp only [spec_paGood.l0] at H
   by_cases c6 : x17_1 < (l1.length : Int)
   rotate_left
   ·rw [if_neg c6] at H
    have c6b0 : decide (x17_1 < (l1.length : Int)) = false := decide_eq_false c6
    clear c6
    obtain rfl := Option.some.inj H
    go_wp2
    go_ret
    exact ⟨zab12, zab2⟩
   rw [if_pos c6] at H
   have c6b0 : decide (x17_1 < (l1.length : Int)) = true := decide_eq_true c6
   clear c6
   by_cases c7 : 0 ≤ x17_1
   rotate_left
   ·rw [if_neg c7] at H
    exact absurd H (by simp)
   rw [if_pos c7] at H
   have c7b0 : decide (0 ≤ x17_1) = true := decide_eq_true c7
   clear c7
   by_cases c8 : x17_1 < (l1.length : Int)
   rotate_left
   ·rw [if_neg c8] at H
    exact absurd H (by simp)
   rw [if_pos c8] at H
   have c8b0 : decide (x17_1 < (l1.length : Int)) = true := decide_eq_true c8
   clear c8
   replace H := Option.bind_eq_some_iff.mp H
   obtain ⟨t631, A90, H⟩ := H
   replace H : ((spec_l1In.f (rd l1 x17_1) 0 8).bind fun t632 => (if (t631 != t632) = true then (some false) else ((spec_boHas.f k1 a0_0 a0_1 l0_2 x17_1).bind fun t633 => (if t633 = true then (spec_paGood.l0 k1 l1 (l1.length : Int) (wrap64 (x17_1 + 1)) a0_0 a0_1 l0_2) else (if (rd l1 x17_1) = (-1) then (spec_paGood.l0 k1 l1 (l1.length : Int) (wrap64 (x17_1 + 1)) a0_0 a0_1 l0_2) else (some false)))))) = some r := H
   have A9 := Aside0.mk A90
   clear A90
   replace H := Option.bind_eq_some_iff.mp H
   obtain ⟨t632, A100, H⟩ := H
   replace H : (if (t631 != t632) = true then (some false) else ((spec_boHas.f k1 a0_0 a0_1 l0_2 x17_1).bind fun t633 => (if t633 = true then (spec_paGood.l0 k1 l1 (l1.length : Int) (wrap64 (x17_1 + 1)) a0_0 a0_1 l0_2) else (if (rd l1 x17_1) = (-1) then (spec_paGood.l0 k1 l1 (l1.length : Int) (wrap64 (x17_1 + 1)) a0_0 a0_1 l0_2) else (some false))))) = some r := H
   have A10 := Aside0.mk A100
   clear A100
   by_cases c11 : (t631 != t632) = true
   ·rw [if_pos c11] at H
    have c11b0 : (t631 != t632) = true := c11
    (try (have c11b1 : decide (t631 = t632) = false := by simpa using c11))
    (try (have c11b2 : (t631 == t632) = false := by simpa using c11))
    (try (have c11b3 : ¬ (t631 = t632) := by simpa using c11))
    clear c11
    obtain rfl := Option.some.inj H
    have p630 : 0 ≤ (x17_1 : Int) := of_decide_eq_true zab11
    have q630 : x17_1 < (l1.length : Int) := of_decide_eq_true zab11
    obtain ⟨ad630, e630, hx630_0⟩ := Kd.at_int HR1.out x17_1 p630 q630
    cases e630
    (first | replace hx630_0 := (HB.out.cell (World.block_lt_of_cell? w _ hx630_0)).trans hx630_0 | skip)
    replace p630 := eq_true p630
    replace q630 := eq_true q630
    have hcz12_0 : wr.cell? ⟨gb629, 0, none⟩ = some (.int .i64 a0_0) := (blk_cell BK629.out 0).trans rfl
    have hcz12_1 : wr.cell? ⟨gb629, 1, none⟩ = some (.int .i64 a0_1) := (blk_cell BK629.out 1).trans rfl
    have hcz12_2 : wr.cell? ⟨gb629, 2, none⟩ = some (.slice A0_2 l0_2.length c0_2) := (blk_cell BK629.out 2).trans rfl
    have hfz12_0 := blk_frozen BK629.out 0
    have hfz12_1 := blk_frozen BK629.out 1
    have hfz12_2 := blk_frozen BK629.out 2
    go_wp2_with (first | ((with_reducible refine gate_callee (f := 64) rfl ?_); refine goesL_ (some 24) rfl rfl Try.func64 (by kernel_rfl) rfl #[.agg #[.int .i64 a0_0, .int .i64 a0_1, .slice A0_2 l0_2.length c0_2], .int .i64 x17_1] rfl zab4 ?_; (with_reducible refine (spec_boHas.calls k1 a0_0 a0_1 _ _ l0_2 x17_1 t631 _ ?side1 ?side2 A9.out).mono ?_); (case side1 => exact zab8); (case side2 => exact HC0_2.out); rintro e w13 ⟨rfl, hb⟩; refine ⟨_, rfl, ?_⟩; have n0_ := Aside0.mk (blk_below (g := gb629) (o := .cells #[.int .i64 a0_0, .int .i64 a0_1, .slice A0_2 l0_2.length c0_2] 30 (0, 0)) zab7 hb); have n1_ := Aside0.mk (below_step zab2 hb); clear BK629; clear HB; have BK629 := n0_; have HB := n1_; clear n0_ n1_; (try clear hb); (try clear hb2); (try clear hk); (try clear hi); (try clear hna_); (try clear hnb_)) | ((with_reducible refine gate_callee (f := 44) rfl ?_); refine goesL_ (some 26) rfl rfl Try.func44 (by kernel_rfl) rfl #[.int .i64 (rd l1 x17_1), .int .i64 0, .int .i64 8] rfl zab4 ?_; (with_reducible refine (spec_l1In.calls (rd l1 x17_1) 0 8 t632 _ A10.out).mono ?_); rintro e w' ⟨rfl, ⟨nd, rfl⟩⟩; refine ⟨_, rfl, ?_⟩))
    go_ret
    exact ⟨zab12, zab2⟩
   rw [if_neg c11] at H
   have c11b0 : (t631 != t632) = false := by simpa using c11
   (try (have c11b1 : decide (t631 = t632) = true := by simpa using c11))
   (try (have c11b2 : (t631 == t632) = true := by simpa using c11))
   clear c11
   replace H := Option.bind_eq_some_iff.mp H
   obtain ⟨t633, A140, H⟩ := H
   replace H : (if t633 = true then (spec_paGood.l0 k1 l1 (l1.length : Int) (wrap64 (x17_1 + 1)) a0_0 a0_1 l0_2) else (if (rd l1 x17_1) = (-1) then (spec_paGood.l0 k1 l1 (l1.length : Int) (wrap64 (x17_1 + 1)) a0_0 a0_1 l0_2) else (some false))) = some r := H
   have A14 := Aside0.mk A140
   clear A140
   by_cases c15 : t633 = true
   ·subst c15
    have H1 : (spec_paGood.l0 k1 l1 (l1.length : Int) (wrap64 (x17_1 + 1)) a0_0 a0_1 l0_2) = some r := by rw [if_pos rfl] at H; exact H
    clear H
    have H := H1
    clear H1
    have H' := Aside0.mk H
    clear H
    have p630 : 0 ≤ (x17_1 : Int) := of_decide_eq_true zab11
    have q630 : x17_1 < (l1.length : Int) := of_decide_eq_true zab11
    obtain ⟨ad630, e630, hx630_0⟩ := Kd.at_int HR1.out x17_1 p630 q630
    cases e630
    (first | replace hx630_0 := (HB.out.cell (World.block_lt_of_cell? w _ hx630_0)).trans hx630_0 | skip)
    replace p630 := eq_true p630
    replace q630 := eq_true q630
    have hcz16_0 : wr.cell? ⟨gb629, 0, none⟩ = some (.int .i64 a0_0) := (blk_cell BK629.out 0).trans rfl
    have hcz16_1 : wr.cell? ⟨gb629, 1, none⟩ = some (.int .i64 a0_1) := (blk_cell BK629.out 1).trans rfl
    have hcz16_2 : wr.cell? ⟨gb629, 2, none⟩ = some (.slice A0_2 l0_2.length c0_2) := (blk_cell BK629.out 2).trans rfl
    have hfz16_0 := blk_frozen BK629.out 0
    have hfz16_1 := blk_frozen BK629.out 1
    have hfz16_2 := blk_frozen BK629.out 2
    go_wp2_with (first | ((with_reducible refine gate_callee (f := 64) rfl ?_); refine goesL_ (some 24) rfl rfl Try.func64 (by kernel_rfl) rfl #[.agg #[.int .i64 a0_0, .int .i64 a0_1, .slice A0_2 l0_2.length c0_2], .int .i64 x17_1] rfl zab4 ?_; (with_reducible refine (spec_boHas.calls k1 a0_0 a0_1 _ _ l0_2 x17_1 t631 _ ?side1 ?side2 A9.out).mono ?_); (case side1 => exact zab8); (case side2 => exact HC0_2.out); rintro e w17 ⟨rfl, hb⟩; refine ⟨_, rfl, ?_⟩; have n0_ := Aside0.mk (blk_below (g := gb629) (o := .cells #[.int .i64 a0_0, .int .i64 a0_1, .slice A0_2 l0_2.length c0_2] 30 (0, 0)) zab7 hb); have n1_ := Aside0.mk (below_step zab2 hb); clear BK629; clear HB; have BK629 := n0_; have HB := n1_; clear n0_ n1_; (try clear hb); (try clear hb2); (try clear hk); (try clear hi); (try clear hna_); (try clear hnb_)) | ((with_reducible refine gate_callee (f := 44) rfl ?_); refine goesL_ (some 26) rfl rfl Try.func44 (by kernel_rfl) rfl #[.int .i64 (rd l1 x17_1), .int .i64 0, .int .i64 8] rfl zab4 ?_; (with_reducible refine (spec_l1In.calls (rd l1 x17_1) 0 8 t632 _ A10.out).mono ?_); rintro e w' ⟨rfl, ⟨nd, rfl⟩⟩; refine ⟨_, rfl, ?_⟩; have hcz18_0 : w17.cell? ⟨gb629, 0, none⟩ = some (.int .i64 a0_0) := (blk_cell BK629.out 0).trans rfl; have hcz18_1 : w17.cell? ⟨gb629, 1, none⟩ = some (.int .i64 a0_1) := (blk_cell BK629.out 1).trans rfl; have hcz18_2 : w17.cell? ⟨gb629, 2, none⟩ = some (.slice A0_2 l0_2.length c0_2) := (blk_cell BK629.out 2).trans rfl; have hfz18_0 := blk_frozen BK629.out 0; have hfz18_1 := blk_frozen BK629.out 1; have hfz18_2 := blk_frozen BK629.out 2) | (go_at_call 64; (with_reducible refine (spec_boHas.calls k1 a0_0 a0_1 _ _ l0_2 x17_1 true _ ?side1 ?side2 A14.out).mono ?_); (case side1 => exact zab20); (case side2 => exact HC0_2.out); rintro e w19 ⟨rfl, hb⟩; have n0_ := Aside0.mk (blk_below (g := gb629) (o := .cells #[.int .i64 a0_0, .int .i64 a0_1, .slice A0_2 l0_2.length c0_2] 30 (0, 0)) zab7 hb); have n1_ := Aside0.mk (below_step zab2 hb); clear BK629; clear HB; have BK629 := n0_; have HB := n1_; clear n0_ n1_; (try clear hb); (try clear hb2); (try clear hk); (try clear hi); (try clear hna_); (try clear hnb_)))
    go_roundg k1
    case measure => have := HK1.out; omega
    case rel => exact ⟨(wrap64 (x17_1 + 1)), zab13, H', ⟨by have := HK1.out; omega⟩, ⟨zab7⟩, ⟨zab2⟩⟩
   replace c15 := Bool.eq_false_iff.mpr c15
   subst c15
   have H1 : (if (rd l1 x17_1) = (-1) then (spec_paGood.l0 k1 l1 (l1.length : Int) (wrap64 (x17_1 + 1)) a0_0 a0_1 l0_2) else (some false)) = some r := by rw [if_neg (show ¬ (false = true) by decide)] at H; exact H
   clear H
   have H := H1
   clear H1
   by_cases c20 : (rd l1 x17_1) = (-1)
   rotate_left
   ·rw [if_neg c20] at H
    have c20b0 : ((rd l1 x17_1) == (-1)) = false := beq_eq_false_iff_ne.mpr c20
    have c20b1 : ((rd l1 x17_1) != (-1)) = true := bne_iff_ne.mpr c20
    obtain rfl := Option.some.inj H
    have p630 : 0 ≤ (x17_1 : Int) := of_decide_eq_true zab11
    have q630 : x17_1 < (l1.length : Int) := of_decide_eq_true zab11
    obtain ⟨ad630, e630, hx630_0⟩ := Kd.at_int HR1.out x17_1 p630 q630
    cases e630
    (first | replace hx630_0 := (HB.out.cell (World.block_lt_of_cell? w _ hx630_0)).trans hx630_0 | skip)
    replace p630 := eq_true p630
    replace q630 := eq_true q630
    have hcz25_0 : wr.cell? ⟨gb629, 0, none⟩ = some (.int .i64 a0_0) := (blk_cell BK629.out 0).trans rfl
    have hcz25_1 : wr.cell? ⟨gb629, 1, none⟩ = some (.int .i64 a0_1) := (blk_cell BK629.out 1).trans rfl
    have hcz25_2 : wr.cell? ⟨gb629, 2, none⟩ = some (.slice A0_2 l0_2.length c0_2) := (blk_cell BK629.out 2).trans rfl
    have hfz25_0 := blk_frozen BK629.out 0
    have hfz25_1 := blk_frozen BK629.out 1
    have hfz25_2 := blk_frozen BK629.out 2
    go_wp2_with (first | ((with_reducible refine gate_callee (f := 64) rfl ?_); refine goesL_ (some 24) rfl rfl Try.func64 (by kernel_rfl) rfl #[.agg #[.int .i64 a0_0, .int .i64 a0_1, .slice A0_2 l0_2.length c0_2], .int .i64 x17_1] rfl zab4 ?_; (with_reducible refine (spec_boHas.calls k1 a0_0 a0_1 _ _ l0_2 x17_1 t631 _ ?side1 ?side2 A9.out).mono ?_); (case side1 => exact zab8); (case side2 => exact HC0_2.out); rintro e w26 ⟨rfl, hb⟩; refine ⟨_, rfl, ?_⟩; have n0_ := Aside0.mk (blk_below (g := gb629) (o := .cells #[.int .i64 a0_0, .int .i64 a0_1, .slice A0_2 l0_2.length c0_2] 30 (0, 0)) zab7 hb); have n1_ := Aside0.mk (below_step zab2 hb); clear BK629; clear HB; have BK629 := n0_; have HB := n1_; clear n0_ n1_; (try clear hb); (try clear hb2); (try clear hk); (try clear hi); (try clear hna_); (try clear hnb_)) | ((with_reducible refine gate_callee (f := 44) rfl ?_); refine goesL_ (some 26) rfl rfl Try.func44 (by kernel_rfl) rfl #[.int .i64 (rd l1 x17_1), .int .i64 0, .int .i64 8] rfl zab4 ?_; (with_reducible refine (spec_l1In.calls (rd l1 x17_1) 0 8 t632 _ A10.out).mono ?_); rintro e w' ⟨rfl, ⟨nd, rfl⟩⟩; refine ⟨_, rfl, ?_⟩; have hcz27_0 : w26.cell? ⟨gb629, 0, none⟩ = some (.int .i64 a0_0) := (blk_cell BK629.out 0).trans rfl; have hcz27_1 : w26.cell? ⟨gb629, 1, none⟩ = some (.int .i64 a0_1) := (blk_cell BK629.out 1).trans rfl; have hcz27_2 : w26.cell? ⟨gb629, 2, none⟩ = some (.slice A0_2 l0_2.length c0_2) := (blk_cell BK629.out 2).trans rfl; have hfz27_0 := blk_frozen BK629.out 0; have hfz27_1 := blk_frozen BK629.out 1; have hfz27_2 := blk_frozen BK629.out 2) | (go_at_call 64; (with_reducible refine (spec_boHas.calls k1 a0_0 a0_1 _ _ l0_2 x17_1 false _ ?side1 ?side2 A14.out).mono ?_); (case side1 => exact zab20); (case side2 => exact HC0_2.out); rintro e w28 ⟨rfl, hb⟩; have n0_ := Aside0.mk (blk_below (g := gb629) (o := .cells #[.int .i64 a0_0, .int .i64 a0_1, .slice A0_2 l0_2.length c0_2] 30 (0, 0)) zab7 hb); have n1_ := Aside0.mk (below_step zab2 hb); clear BK629; clear HB; have BK629 := n0_; have HB := n1_; clear n0_ n1_; (try clear hb); (try clear hb2); (try clear hk); (try clear hi); (try clear hna_); (try clear hnb_)))
    go_ret
    exact ⟨zab12, zab2⟩
   rw [if_pos c20] at H
   have c20b0 : ((rd l1 x17_1) == (-1)) = true := beq_iff_eq.mpr c20
   have c20b1 : ((rd l1 x17_1) != (-1)) = false := bne_eq_false_iff_eq.mpr c20
   clear c20
   have H' := Aside0.mk H
   clear H
   have p630 : 0 ≤ (x17_1 : Int) := of_decide_eq_true zab11
   have q630 : x17_1 < (l1.length : Int) := of_decide_eq_true zab11
   obtain ⟨ad630, e630, hx630_0⟩ := Kd.at_int HR1.out x17_1 p630 q630
   cases e630
   (first | replace hx630_0 := (HB.out.cell (World.block_lt_of_cell? w _ hx630_0)).trans hx630_0 | skip)
   replace p630 := eq_true p630
   replace q630 := eq_true q630
   have hcz21_0 : wr.cell? ⟨gb629, 0, none⟩ = some (.int .i64 a0_0) := (blk_cell BK629.out 0).trans rfl
   have hcz21_1 : wr.cell? ⟨gb629, 1, none⟩ = some (.int .i64 a0_1) := (blk_cell BK629.out 1).trans rfl
   have hcz21_2 : wr.cell? ⟨gb629, 2, none⟩ = some (.slice A0_2 l0_2.length c0_2) := (blk_cell BK629.out 2).trans rfl
   have hfz21_0 := blk_frozen BK629.out 0
   have hfz21_1 := blk_frozen BK629.out 1
   have hfz21_2 := blk_frozen BK629.out 2
   go_wp2_with (first | ((with_reducible refine gate_callee (f := 64) rfl ?_); refine goesL_ (some 24) rfl rfl Try.func64 (by kernel_rfl) rfl #[.agg #[.int .i64 a0_0, .int .i64 a0_1, .slice A0_2 l0_2.length c0_2], .int .i64 x17_1] rfl zab4 ?_; (with_reducible refine (spec_boHas.calls k1 a0_0 a0_1 _ _ l0_2 x17_1 t631 _ ?side1 ?side2 A9.out).mono ?_); (case side1 => exact zab8); (case side2 => exact HC0_2.out); rintro e w22 ⟨rfl, hb⟩; refine ⟨_, rfl, ?_⟩; have n0_ := Aside0.mk (blk_below (g := gb629) (o := .cells #[.int .i64 a0_0, .int .i64 a0_1, .slice A0_2 l0_2.length c0_2] 30 (0, 0)) zab7 hb); have n1_ := Aside0.mk (below_step zab2 hb); clear BK629; clear HB; have BK629 := n0_; have HB := n1_; clear n0_ n1_; (try clear hb); (try clear hb2); (try clear hk); (try clear hi); (try clear hna_); (try clear hnb_)) | ((with_reducible refine gate_callee (f := 44) rfl ?_); refine goesL_ (some 26) rfl rfl Try.func44 (by kernel_rfl) rfl #[.int .i64 (rd l1 x17_1), .int .i64 0, .int .i64 8] rfl zab4 ?_; (with_reducible refine (spec_l1In.calls (rd l1 x17_1) 0 8 t632 _ A10.out).mono ?_); rintro e w' ⟨rfl, ⟨nd, rfl⟩⟩; refine ⟨_, rfl, ?_⟩; have hcz23_0 : w22.cell? ⟨gb629, 0, none⟩ = some (.int .i64 a0_0) := (blk_cell BK629.out 0).trans rfl; have hcz23_1 : w22.cell? ⟨gb629, 1, none⟩ = some (.int .i64 a0_1) := (blk_cell BK629.out 1).trans rfl; have hcz23_2 : w22.cell? ⟨gb629, 2, none⟩ = some (.slice A0_2 l0_2.length c0_2) := (blk_cell BK629.out 2).trans rfl; have hfz23_0 := blk_frozen BK629.out 0; have hfz23_1 := blk_frozen BK629.out 1; have hfz23_2 := blk_frozen BK629.out 2) | (go_at_call 64; (with_reducible refine (spec_boHas.calls k1 a0_0 a0_1 _ _ l0_2 x17_1 false _ ?side1 ?side2 A14.out).mono ?_); (case side1 => exact zab20); (case side2 => exact HC0_2.out); rintro e w24 ⟨rfl, hb⟩; have n0_ := Aside0.mk (blk_below (g := gb629) (o := .cells #[.int .i64 a0_0, .int .i64 a0_1, .slice A0_2 l0_2.length c0_2] 30 (0, 0)) zab7 hb); have n1_ := Aside0.mk (below_step zab2 hb); clear BK629; clear HB; have BK629 := n0_; have HB := n1_; clear n0_ n1_; (try clear hb); (try clear hb2); (try clear hk); (try clear hi); (try clear hna_); (try clear hnb_)))
   go_roundg k1
   case measure => have := HK1.out; omega
   case rel => exact ⟨(wrap64 (x17_1 + 1)), zab13, H', ⟨by have := HK1.out; omega⟩, ⟨zab7⟩, ⟨zab2⟩⟩

/-! ### spec_paNear: function 57 -/
mutual
def spec_paNear.l0 : Nat → Int → List Int → List Int → Int → Int → Int → Int → List Int → Int → Int → Option (List Int)
 | 0, _, _, _, _, _, _, _, _, _, _ => none
 | k + 1, x2, x7, x15, x16, x17, x650000, x650001, x650002, x651000, x651001 => if x17 < x16 then (if 0 ≤ x17 then (if x17 < (x15.length : Int) then ((spec_l1Has.f k x7 (rd x15 x17)).bind fun t655 => (if t655 = true then (spec_paNear.j1 k x2 x7 (rd x15 x17) x15 x16 x17 x650000 x650001 x650002 x651000 x651001) else (if x7.length < 17592186044416 then (spec_paNear.j1 k x2 (x7 ++ [rd x15 x17]) (rd x15 x17) x15 x16 x17 x650000 x650001 x650002 x651000 x651001) else (none)))) else (none)) else (none)) else (some x7)
def spec_paNear.j1 : Nat → Int → List Int → Int → List Int → Int → Int → Int → Int → List Int → Int → Int → Option (List Int)
 | 0, _, _, _, _, _, _, _, _, _, _, _ => none
 | k + 1, x2, x7, x9, x15, x16, x17, x650000, x650001, x650002, x651000, x651001 => (spec_boLeaps.f k x650000 x650001 x650002 x651000 x651001 x9).bind fun t659 => (spec_paNear.l1 k x2 x7 x15 x16 x17 t659 (t659.length : Int) 0 x650000 x650001 x650002 x651000 x651001)
def spec_paNear.l1 : Nat → Int → List Int → List Int → Int → Int → List Int → Int → Int → Int → Int → List Int → Int → Int → Option (List Int)
 | 0, _, _, _, _, _, _, _, _, _, _, _, _, _ => none
 | k + 1, x2, x7, x15, x16, x17, x32, x33, x34, x650000, x650001, x650002, x651000, x651001 => if x34 < x33 then (if 0 ≤ x34 then (if x34 < (x32.length : Int) then (if (rd x32 x34) = x2 then (spec_paNear.l1 k x2 x7 x15 x16 x17 x32 x33 (wrap64 (x34 + 1)) x650000 x650001 x650002 x651000 x651001) else ((spec_l1Has.f k x7 (rd x32 x34)).bind fun t663 => (if t663 = true then (spec_paNear.l1 k x2 x7 x15 x16 x17 x32 x33 (wrap64 (x34 + 1)) x650000 x650001 x650002 x651000 x651001) else (if x7.length < 17592186044416 then (spec_paNear.l1 k x2 (x7 ++ [rd x32 x34]) x15 x16 x17 x32 x33 (wrap64 (x34 + 1)) x650000 x650001 x650002 x651000 x651001) else (none))))) else (none)) else (none)) else (spec_paNear.l0 k x2 x7 x15 x16 (wrap64 (x17 + 1)) x650000 x650001 x650002 x651000 x651001)
end
def spec_paNear.f (k : Nat) (a0_0 : Int) (a0_1 : Int) (l0_2 : List Int) (a1_0 : Int) (a1_1 : Int) (a2 : Int) : Option (List Int) := (spec_boLeaps.f k a0_0 a0_1 l0_2 a1_0 a1_1 a2).bind fun t651 => (spec_paNear.l0 k a2 ([] : List Int) t651 (t651.length : Int) 0 a0_0 a0_1 l0_2 a1_0 a1_1)
set_option maxHeartbeats 8000000 in
set_option maxRecDepth 100000 in
theorem spec_paNear.calls (k : Nat) (a0_0 : Int) (a0_1 : Int) (A0_2 : Option Addr) (c0_2 : Nat) (l0_2 : List Int) (a1_0 : Int) (a1_1 : Int) (a2 : Int) (r : List Int) (w : World) (hr0_2 : Kd.C (Kd.int .i64) w A0_2 l0_2.length l0_2) (hc0_2 : l0_2.length ≤ c0_2) (h : spec_paNear.f k a0_0 a0_1 l0_2 a1_0 a1_1 a2 = some r) :
  Calls Try.prog 57 #[.agg #[.int .i64 a0_0, .int .i64 a0_1, .slice A0_2 l0_2.length c0_2], .agg #[.int .i64 a1_0, .int .i64 a1_1], .int .i64 a2] w fun e w' => ∃ v0_ : Value, e = .returned (v0_) ∧ Kd.R (Kd.int .i64) 3 w' w.heap.size (fun _ => True) v0_ r ∧ Below w.heap.size w w' := by
 have hu30 := Try.underlying30
 have hu32 := Try.underlying32
 have HR0_2 := Aside0.mk hr0_2
 have HC0_2 := Aside0.mk hc0_2
 clear hr0_2 hc0_2
 have HB := Aside0.mk (Below.refl w.heap.size w)
 have H : ((spec_boLeaps.f k a0_0 a0_1 l0_2 a1_0 a1_1 a2).bind fun t651 => (spec_paNear.l0 k a2 ([] : List Int) t651 (t651.length : Int) 0 a0_0 a0_1 l0_2 a1_0 a1_1)) = some r := h
 clear h
 replace H := Option.bind_eq_some_iff.mp H
 obtain ⟨t651, A40, H⟩ := H
 replace H : (spec_paNear.l0 k a2 ([] : List Int) t651 (t651.length : Int) 0 a0_0 a0_1 l0_2 a1_0 a1_1) = some r := H
 have A4 := Aside0.mk A40
 clear A40
 have H' := Aside0.mk H
 clear H
 go_enter Try.func57, Try.ntmps57
 go_wp2_with (first | ((with_reducible refine gate_dst (N := 3) rfl ?_); refine box_event ?hg (N := 3) ?hd (cs := #[.int .i64 a0_0, .int .i64 a0_1, .slice A0_2 l0_2.length c0_2]) (t := 30) ?hr ?_; (case hd => rfl); (case hg => rfl); (case hr => first | (go_simp; done) | (go_simp; rfl)); intro gb649 hg w5 hbox hb; have n0_ := Aside0.mk (below_step zab6 hb); have n1_ := Aside0.mk (hbox); have n2_ := Aside0.mk ((zab21 : w.heap.size ≤ gb649)); have n3_ := Aside0.mk ((zab21 : w.heap.size ≤ gb649)); clear HB; have HB := n0_; have BK649 := n1_; have GW649 := n2_; have GE649 := n3_; clear n0_ n1_ n2_ n3_; clear hb hbox hg) | ((with_reducible refine gate_dst (N := 4) rfl ?_); refine box_event ?hg (N := 4) ?hd (cs := #[.int .i64 a1_0, .int .i64 a1_1]) (t := 32) ?hr ?_; (case hd => rfl); (case hg => rfl); (case hr => first | (go_simp; done) | (go_simp; rfl)); intro gb650 hg w6 hbox hb; have n0_ := Aside0.mk (blk_below (g := gb649) (o := .cells #[.int .i64 a0_0, .int .i64 a0_1, .slice A0_2 l0_2.length c0_2] 30 (0, 0)) zab3 hb); have n1_ := Aside0.mk (below_step zab14 hb); have n2_ := Aside0.mk (hbox); have n3_ := Aside0.mk ((by rw [hg]; exact (below_size zab14) : w.heap.size ≤ gb650)); have n4_ := Aside0.mk ((by rw [hg]; exact (below_size zab14) : w.heap.size ≤ gb650)); have n5_ := Aside0.mk ((by rw [hg]; exact Nat.ne_of_lt (blk_lt (g := gb649) (o := .cells #[.int .i64 a0_0, .int .i64 a0_1, .slice A0_2 l0_2.length c0_2] 30 (0, 0)) zab3) : gb649 ≠ gb650)); have n6_ := Aside0.mk ((by rw [hg]; exact Nat.ne_of_gt (blk_lt (g := gb649) (o := .cells #[.int .i64 a0_0, .int .i64 a0_1, .slice A0_2 l0_2.length c0_2] 30 (0, 0)) zab3) : gb650 ≠ gb649)); clear BK649; clear HB; have BK649 := n0_; have HB := n1_; have BK650 := n2_; have GW650 := n3_; have GE650 := n4_; have NB649_650 := n5_; have NB650_649 := n6_; clear n0_ n1_ n2_ n3_ n4_ n5_ n6_; clear hb hbox hg; have hnb7 := NB649_650.out; have hnc7 := NB650_649.out; have hcz8_0 : w6.cell? ⟨gb649, 0, none⟩ = some (.int .i64 a0_0) := (blk_cell BK649.out 0).trans rfl; have hcz8_1 : w6.cell? ⟨gb649, 1, none⟩ = some (.int .i64 a0_1) := (blk_cell BK649.out 1).trans rfl; have hcz8_2 : w6.cell? ⟨gb649, 2, none⟩ = some (.slice A0_2 l0_2.length c0_2) := (blk_cell BK649.out 2).trans rfl; have hfz8_0 := blk_frozen BK649.out 0; have hfz8_1 := blk_frozen BK649.out 1; have hfz8_2 := blk_frozen BK649.out 2; have hcz9_0 : w6.cell? ⟨gb650, 0, none⟩ = some (.int .i64 a1_0) := (blk_cell BK650.out 0).trans rfl; have hcz9_1 : w6.cell? ⟨gb650, 1, none⟩ = some (.int .i64 a1_1) := (blk_cell BK650.out 1).trans rfl; have hfz9_0 := blk_frozen BK650.out 0; have hfz9_1 := blk_frozen BK650.out 1) | ((with_reducible refine gate_callee (f := 87) rfl ?_); refine goesL_ (some 15) rfl rfl Try.func87 (by kernel_rfl) rfl #[.agg #[.int .i64 a0_0, .int .i64 a0_1, .slice A0_2 l0_2.length c0_2], .agg #[.int .i64 a1_0, .int .i64 a1_1], .int .i64 a2] rfl zab4 ?_; (with_reducible refine (spec_boLeaps.calls k a0_0 a0_1 _ _ l0_2 a1_0 a1_1 a2 t651 _ ?side1 ?side2 A4.out).mono ?_); (case side1 => exact zab8); (case side2 => exact HC0_2.out); rintro e w10 ⟨v652, rfl, ho0, hb⟩; refine ⟨_, rfl, ?_⟩; have n0_ := Aside0.mk (Kd.R_lower ho0 (below_size zab1)); have n1_ := Aside0.mk (blk_below (g := gb649) (o := .cells #[.int .i64 a0_0, .int .i64 a0_1, .slice A0_2 l0_2.length c0_2] 30 (0, 0)) zab3 hb); have n2_ := Aside0.mk (blk_below (g := gb650) (o := .cells #[.int .i64 a1_0, .int .i64 a1_1] 32 (0, 0)) zab5 hb); have n3_ := Aside0.mk (below_step zab1 hb); clear BK649; clear BK650; clear HB; have HO653 := n0_; have BK649 := n1_; have BK650 := n2_; have HB := n3_; clear n0_ n1_ n2_ n3_; (try clear hb); (try clear hb2); (try clear hk); (try clear hi); (try clear ho0); (try clear hna_); (try clear hnb_); obtain ⟨Ao11, co11, eo11⟩ := Kd.R_slice HO653.out; subst eo11))
 go_loopg [7, 17] k (fun kq v7 v17 w' => ∃ (x7_1 : List Int) (x17_1 : Int), v17 = .int .i64 x17_1 ∧ Aside0 (spec_paNear.l0 kq a2 x7_1 t651 (t651.length : Int) x17_1 a0_0 a0_1 l0_2 a1_0 a1_1 = some r) ∧ Aside0 (kq ≤ k) ∧ Aside0 (Kd.R (Kd.int .i64) 3 w' w.heap.size (fun k_ => some k_ ≠ ((.slice Ao11 t651.length co11) : Value).ownBlock) v7 x7_1) ∧ Aside0 (Kd.R (Kd.int .i64) 3 w' w.heap.size (fun k_ => some k_ ≠ (v7 : Value).ownBlock) (.slice Ao11 t651.length co11) t651) ∧ Aside0 (w'.heap[gb649]? = some (.cells #[.int .i64 a0_0, .int .i64 a0_1, (.slice A0_2 l0_2.length c0_2)] 30 (0, 0))) ∧ Aside0 (w'.heap[gb650]? = some (.cells #[.int .i64 a1_0, .int .i64 a1_1] 32 (0, 0))) ∧ Aside0 (Below w.heap.size w w'))
 case atStart => exact ⟨(([] : List Int)), (0), zab13, H', ⟨Nat.le_refl _⟩, ⟨by first | exact Kd.R_nil _ _ _ _ _ | exact Kd.N_nil _ _ _ _ _ | exact Kd.V_nil _ _ _ _ _ | exact Kd.Q_nil _ _ _ _ _ | exact Kd.S_nil _ _ _ _ _⟩, ⟨by (with_reducible repeat (first | apply Kd.R_alloc | apply Kd.R_drewN | apply Kd.R_drew)); exact Kd.R_mono HO653.out (fun _ hk => (by simp [Value.ownBlock]))⟩, ⟨zab3⟩, ⟨zab5⟩, ⟨zab1⟩⟩
 case round =>
  clear H'
  try clear p2; try clear c5; try clear c7; try clear c8; try clear hcz8_0; try clear hcz8_1; try clear hcz8_2; try clear hcz9_0; try clear hcz9_1; try clear hfz8_0; try clear hfz8_1; try clear hfz8_2; try clear hfz9_0; try clear hfz9_1
  obtain ⟨x7_1, x17_1, rfl, HA, HK1, HO_7, HO_15, BK649, BK650, HB⟩ := hrel
  cases gk with
  | zero => exact absurd HA.out (by simp [spec_paNear.l0])
  | succ k1 =>
   have H := HA.out
   clear HA
   simp only [spec_paNear.l0] at H
   by_cases c12 : x17_1 < (t651.length : Int)
   rotate_left
   ·rw [if_neg c12] at H
    have c12b0 : decide (x17_1 < (t651.length : Int)) = false := decide_eq_false c12
    clear c12
    obtain rfl := Option.some.inj H
    go_wp2
    go_ret
    exact ⟨_, zab12, by (with_reducible repeat (first | apply Kd.R_alloc | apply Kd.R_drewN | apply Kd.R_drew)); exact Kd.R_mono HO_7.out (fun _ hk => trivial), zab1⟩
   rw [if_pos c12] at H
   have c12b0 : decide (x17_1 < (t651.length : Int)) = true := decide_eq_true c12
   clear c12
   by_cases c13 : 0 ≤ x17_1
   rotate_left
   ·rw [if_neg c13] at H
    exact absurd H (by simp)
   rw [if_pos c13] at H
   have c13b0 : decide (0 ≤ x17_1) = true := decide_eq_true c13
   clear c13
   by_cases c14 : x17_1 < (t651.length : Int)
   rotate_left
   ·rw [if_neg c14] at H
    exact absurd H (by simp)
   rw [if_pos c14] at H
   have c14b0 : decide (x17_1 < (t651.length : Int)) = true := decide_eq_true c14
   clear c14
   replace H := Option.bind_eq_some_iff.mp H
   obtain ⟨t655, A150, H⟩ := H
   replace H : (if t655 = true then (spec_paNear.j1 k1 a2 x7_1 (rd t651 x17_1) t651 (t651.length : Int) x17_1 a0_0 a0_1 l0_2 a1_0 a1_1) else (if x7_1.length < 17592186044416 then (spec_paNear.j1 k1 a2 (x7_1 ++ [rd t651 x17_1]) (rd t651 x17_1) t651 (t651.length : Int) x17_1 a0_0 a0_1 l0_2 a1_0 a1_1) else (none))) = some r := H
   have A15 := Aside0.mk A150
   clear A150
   have HC16 := Aside0.mk H
   clear H
   have p654 : 0 ≤ (x17_1 : Int) := of_decide_eq_true zab11
   have q654 : x17_1 < (t651.length : Int) := of_decide_eq_true zab11
   obtain ⟨ad654, e654, hx654_0⟩ := Kd.at_int (Kd.R_reads' HO_15.out).2.2 x17_1 p654 q654
   cases e654
   replace p654 := eq_true p654
   replace q654 := eq_true q654
   obtain ⟨Ao17, co17, eo17⟩ := Kd.R_slice HO_7.out
   subst eo17
   go_upto_if 24 with (first | ((with_reducible refine gate_callee (f := 65) rfl ?_); refine goesL_ (some 23) rfl rfl Try.func65 (by kernel_rfl) rfl #[.slice Ao17 x7_1.length co17, .int .i64 (rd t651 x17_1)] rfl zab4 ?_; (with_reducible refine (spec_l1Has.calls k1 _ _ x7_1 (rd t651 x17_1) t655 _ ?side1 ?side2 A15.out).mono ?_); (case side1 => exact zab15); (case side2 => exact (Kd.R_reads' HO_7.out).2.1); rintro e w' ⟨rfl, ⟨nd, rfl⟩⟩; refine ⟨_, rfl, ?_⟩))
   (try simp only [Act.put, List.setIfInBounds_toArray, List.set_cons_zero, List.set_cons_succ])
   go_cut [7] (fun v7 wc => ∃ (kq : Nat) (x7_15 : List Int), Aside0 (spec_paNear.j1 kq a2 x7_15 (rd t651 x17_1) t651 (t651.length : Int) x17_1 a0_0 a0_1 l0_2 a1_0 a1_1 = some r) ∧ Aside0 (kq ≤ k1) ∧ Aside0 (Kd.R (Kd.int .i64) 3 wc w.heap.size (fun k_ => some k_ ≠ ((.slice (some ad654) t651.length co11) : Value).ownBlock) v7 x7_15) ∧ Aside0 (Kd.R (Kd.int .i64) 3 wc w.heap.size (fun k_ => some k_ ≠ (v7 : Value).ownBlock) (.slice (some ad654) t651.length co11) t651) ∧ Aside0 (wc.heap[gb649]? = some (.cells #[.int .i64 a0_0, .int .i64 a0_1, (.slice A0_2 l0_2.length c0_2)] 30 (0, 0))) ∧ Aside0 (wc.heap[gb650]? = some (.cells #[.int .i64 a1_0, .int .i64 a1_1] 32 (0, 0))) ∧ Aside0 (Below w.heap.size w wc))
   case first =>
    have H := HC16.out
    clear HC16
    by_cases c18 : t655 = true
    ·subst c18
     have H1 : (spec_paNear.j1 k1 a2 x7_1 (rd t651 x17_1) t651 (t651.length : Int) x17_1 a0_0 a0_1 l0_2 a1_0 a1_1) = some r := by rw [if_pos rfl] at H; exact H
     clear H
     have H := H1
     clear H1
     have H' := Aside0.mk H
     clear H
     go_wp2
     go_meet
     case rel => exact ⟨_, (x7_1), H', ⟨by have := HK1.out; first | omega | exact Nat.le_refl _⟩, ⟨zab10⟩, ⟨zab9⟩, ⟨zab3⟩, ⟨zab5⟩, ⟨zab1⟩⟩
    replace c18 := Bool.eq_false_iff.mpr c18
    subst c18
    have H1 : (if x7_1.length < 17592186044416 then (spec_paNear.j1 k1 a2 (x7_1 ++ [rd t651 x17_1]) (rd t651 x17_1) t651 (t651.length : Int) x17_1 a0_0 a0_1 l0_2 a1_0 a1_1) else (none)) = some r := by rw [if_neg (show ¬ (false = true) by decide)] at H; exact H
    clear H
    have H := H1
    clear H1
    by_cases c19 : x7_1.length < 17592186044416
    rotate_left
    ·rw [if_neg c19] at H
     exact absurd H (by simp)
    rw [if_pos c19] at H
    have LMc19 := Aside0.mk c19
    clear c19
    obtain ⟨y656, hy656⟩ : ∃ y_ : List Int, y_ = (x7_1 ++ [rd t651 x17_1]) := ⟨_, rfl⟩
    replace H : (spec_paNear.j1 k1 a2 y656 (rd t651 x17_1) t651 (t651.length : Int) x17_1 a0_0 a0_1 l0_2 a1_0 a1_1) = some r := by first | (rw [hy656]; with_reducible exact H) | (have H2_ := (Option.bind_some _ _).symm.trans H; rw [hy656]; with_reducible exact H2_) | (have H2_ := (Option.bind_some _ _).symm.trans H; with_reducible exact H2_) | with_reducible exact H | (rw [hy656]; exact H) | exact H
    have Ny656 := Aside0.mk hy656
    clear hy656
    have H' := Aside0.mk H
    clear H
    go_wp2_with (first | ((with_reducible refine gate_builtin (b := .append) (xs := #[.tmp 25, .tmp 27]) rfl ?_); at_builtin; refine Kd.R_append (Kd.int .i64) (w0 := w) w.heap.size rfl (.tmp 25) (.tmp 27) 22 3 (.int .i64 0) 8 rfl Try.underlying22 info3 rfl (by decide) (by omega) (.slice Ao17 x7_1.length co17) x7_1 (rd t651 x17_1) [.int .i64 (rd t651 x17_1)] (fun k_ => some k_ ≠ (.slice (some ad654) t651.length co11 : Value).ownBlock) (fun _ => False) rfl rfl ?aP (fun _ hk => hk.elim) ?aF ?aO ?aB ?aS ?aL ?_; (case aP => exact rfl); (case aB => exact zab1); (case aF => exact (fun k_ hk => Kd.fresh' (Kd.R_lt zab9) k_ hk)); (case aO => exact zab10); (case aS => exact (below_size zab1)); (case aL => have := LMc19.out; omega); intro v657 w20 ho hb hg hat; rw [← Ny656.out] at ho; have n0_ := Aside0.mk (Kd.R_after (ok := (fun _ => True)) (by (with_reducible repeat (first | apply Kd.R_alloc | apply Kd.R_drewN | apply Kd.R_drew)); exact Kd.R_mono HO_15.out (fun _ hk => ⟨trivial, hk⟩)) hg hat); have n1_ := Aside0.mk (blk_grown (g := gb649) (o := .cells #[.int .i64 a0_0, .int .i64 a0_1, .slice A0_2 l0_2.length c0_2] 30 (0, 0)) zab3 hg (Kd.R_ne HO_7.out BK649.out (by decide))); have n2_ := Aside0.mk (blk_grown (g := gb650) (o := .cells #[.int .i64 a1_0, .int .i64 a1_1] 32 (0, 0)) zab5 hg (Kd.R_ne HO_7.out BK650.out (by decide))); have n3_ := Aside0.mk (hb); have n4_ := Aside0.mk (ho); clear HO_15; clear BK649; clear BK650; clear HB; clear HO_7; have HO_15 := n0_; have BK649 := n1_; have BK650 := n2_; have HB := n3_; have HO658 := n4_; clear n0_ n1_ n2_ n3_ n4_; clear ho hb hg hat))
    go_meet
    case rel => exact ⟨_, (y656), H', ⟨by have := HK1.out; first | omega | exact Nat.le_refl _⟩, ⟨by first | exact HO658.out | ((with_reducible repeat (first | apply Kd.R_alloc | apply Kd.R_drewN | apply Kd.R_drew)); exact HO658.out)⟩, ⟨by (with_reducible repeat (first | apply Kd.R_alloc | apply Kd.R_drewN | apply Kd.R_drew)); exact Kd.R_mono HO_15.out (fun _ hk => hk.2)⟩, ⟨zab3⟩, ⟨zab5⟩, ⟨zab1⟩⟩
   case rest =>
    clear HC16
    try clear c1; try clear p2; try clear c5; try clear c6; try clear p6; try clear q6; try clear hx6; try clear c7; try clear c8; try clear c12; try clear c12b0; try clear c13; try clear c13b0; try clear c14; try clear c14b0; try clear c18; try clear c19; try clear hcz8_0; try clear hcz8_1; try clear hcz8_2; try clear hcz9_0; try clear hcz9_1; try clear hfz8_0; try clear hfz8_1; try clear hfz8_2; try clear hfz9_0; try clear hfz9_1; try clear hx654_0; try clear p2; try clear p654; try clear q654
    obtain ⟨kq, x7_15, HA, HJ15, HO_7, HO_15, BK649, BK650, HB⟩ := hcut
    cases kq with
    | zero => exact absurd HA.out (by simp [spec_paNear.j1])
    | succ kj15 =>
     have H := HA.out
     clear HA
     simp only [spec_paNear.j1] at H
     replace H := Option.bind_eq_some_iff.mp H
     obtain ⟨t659, A210, H⟩ := H
     replace H : (spec_paNear.l1 kj15 a2 x7_15 t651 (t651.length : Int) x17_1 t659 (t659.length : Int) 0 a0_0 a0_1 l0_2 a1_0 a1_1) = some r := H
     have A21 := Aside0.mk A210
     clear A210
     have H' := Aside0.mk H
     clear H
     have hnb22 := NB649_650.out
     have hnc22 := NB650_649.out
     have hcz23_0 : wc.cell? ⟨gb649, 0, none⟩ = some (.int .i64 a0_0) := (blk_cell BK649.out 0).trans rfl
     have hcz23_1 : wc.cell? ⟨gb649, 1, none⟩ = some (.int .i64 a0_1) := (blk_cell BK649.out 1).trans rfl
     have hcz23_2 : wc.cell? ⟨gb649, 2, none⟩ = some (.slice A0_2 l0_2.length c0_2) := (blk_cell BK649.out 2).trans rfl
     have hfz23_0 := blk_frozen BK649.out 0
     have hfz23_1 := blk_frozen BK649.out 1
     have hfz23_2 := blk_frozen BK649.out 2
     have hcz24_0 : wc.cell? ⟨gb650, 0, none⟩ = some (.int .i64 a1_0) := (blk_cell BK650.out 0).trans rfl
     have hcz24_1 : wc.cell? ⟨gb650, 1, none⟩ = some (.int .i64 a1_1) := (blk_cell BK650.out 1).trans rfl
     have hfz24_0 := blk_frozen BK650.out 0
     have hfz24_1 := blk_frozen BK650.out 1
     go_wp2_with (first | ((with_reducible refine gate_callee (f := 87) rfl ?_); refine goesL_ (some 32) rfl rfl Try.func87 (by kernel_rfl) rfl #[.agg #[.int .i64 a0_0, .int .i64 a0_1, .slice A0_2 l0_2.length c0_2], .agg #[.int .i64 a1_0, .int .i64 a1_1], .int .i64 (rd t651 x17_1)] rfl zab4 ?_; (with_reducible refine (spec_boLeaps.calls kj15 a0_0 a0_1 _ _ l0_2 a1_0 a1_1 (rd t651 x17_1) t659 _ ?side1 ?side2 A21.out).mono ?_); (case side1 => exact zab8); (case side2 => exact HC0_2.out); rintro e w25 ⟨v660, rfl, ho0, hb⟩; refine ⟨_, rfl, ?_⟩; have n0_ := Aside0.mk (Kd.R_elder' zab10 (Kd.R_base ho0) hb); have n1_ := Aside0.mk (Kd.R_elder' zab9 (Kd.R_base ho0) hb); have n2_ := Aside0.mk (Kd.R_lower (Kd.R_new' (Kd.R_new' ho0 (Kd.R_lt zab10)) (Kd.R_lt zab9)) (below_size zab1)); have n3_ := Aside0.mk (blk_below (g := gb649) (o := .cells #[.int .i64 a0_0, .int .i64 a0_1, .slice A0_2 l0_2.length c0_2] 30 (0, 0)) zab3 hb); have n4_ := Aside0.mk (blk_below (g := gb650) (o := .cells #[.int .i64 a1_0, .int .i64 a1_1] 32 (0, 0)) zab5 hb); have n5_ := Aside0.mk (below_step zab1 hb); clear HO_7; clear HO_15; clear BK649; clear BK650; clear HB; have HO_7 := n0_; have HO_15 := n1_; have HO661 := n2_; have BK649 := n3_; have BK650 := n4_; have HB := n5_; clear n0_ n1_ n2_ n3_ n4_ n5_; (try clear hb); (try clear hb2); (try clear hk); (try clear hi); (try clear ho0); (try clear hna_); (try clear hnb_); obtain ⟨Ao26, co26, eo26⟩ := Kd.R_slice HO661.out; subst eo26))
     go_loopg [7, 34] kj15 (fun kq v7 v34 w' => ∃ (x7_3 : List Int) (x34_3 : Int), v34 = .int .i64 x34_3 ∧ Aside0 (spec_paNear.l1 kq a2 x7_3 t651 (t651.length : Int) x17_1 t659 (t659.length : Int) x34_3 a0_0 a0_1 l0_2 a1_0 a1_1 = some r) ∧ Aside0 (kq ≤ kj15) ∧ Aside0 (Kd.R (Kd.int .i64) 3 w' w.heap.size (fun k_ => some k_ ≠ ((.slice (some ad654) t651.length co11) : Value).ownBlock ∧ some k_ ≠ ((.slice Ao26 t659.length co26) : Value).ownBlock) v7 x7_3) ∧ Aside0 (Kd.R (Kd.int .i64) 3 w' w.heap.size (fun k_ => some k_ ≠ (v7 : Value).ownBlock ∧ some k_ ≠ ((.slice Ao26 t659.length co26) : Value).ownBlock) (.slice (some ad654) t651.length co11) t651) ∧ Aside0 (Kd.R (Kd.int .i64) 3 w' w.heap.size (fun k_ => some k_ ≠ (v7 : Value).ownBlock ∧ some k_ ≠ ((.slice (some ad654) t651.length co11) : Value).ownBlock) (.slice Ao26 t659.length co26) t659) ∧ Aside0 (w'.heap[gb649]? = some (.cells #[.int .i64 a0_0, .int .i64 a0_1, (.slice A0_2 l0_2.length c0_2)] 30 (0, 0))) ∧ Aside0 (w'.heap[gb650]? = some (.cells #[.int .i64 a1_0, .int .i64 a1_1] 32 (0, 0))) ∧ Aside0 (Below w.heap.size w w'))
     case atStart => exact ⟨(x7_15), (0), zab13, H', ⟨Nat.le_refl _⟩, ⟨zab10⟩, ⟨zab9⟩, ⟨by (with_reducible repeat (first | apply Kd.R_alloc | apply Kd.R_drewN | apply Kd.R_drew)); exact Kd.R_mono HO661.out (fun _ hk => ⟨hk.1.2, hk.2⟩)⟩, ⟨zab3⟩, ⟨zab5⟩, ⟨zab1⟩⟩
     case round =>
      clear H'
      try clear c1; try clear c2; try clear p2; try clear c5; try clear c6; try clear p6; try clear q6; try clear hx6; try clear c7; try clear c8; try clear c12; try clear c12b0; try clear c13; try clear c13b0; try clear c14; try clear c14b0; try clear c18; try clear c19; try clear c22; try clear hcz23_0; try clear hcz23_1; try clear hcz23_2; try clear hcz24_0; try clear hcz24_1; try clear hcz8_0; try clear hcz8_1; try clear hcz8_2; try clear hcz9_0; try clear hcz9_1; try clear hfz23_0; try clear hfz23_1; try clear hfz23_2; try clear hfz24_0; try clear hfz24_1; try clear hfz8_0; try clear hfz8_1; try clear hfz8_2
      try clear hfz9_0; try clear hfz9_1; try clear hx654_0; try clear p2; try clear p6; try clear p654; try clear q6; try clear q654
      obtain ⟨x7_3, x34_3, rfl, HA, HK3, HO_7, HO_15, HO_32, BK649, BK650, HB⟩ := hrel
      cases gk with
      | zero => exact absurd HA.out (by simp [spec_paNear.l1])
      | succ k3 =>
       have H := HA.out
       clear HA
       simp only [spec_paNear.l1] at H
       by_cases c27 : x34_3 < (t659.length : Int)
       rotate_left
       ·rw [if_neg c27] at H
        have c27b0 : decide (x34_3 < (t659.length : Int)) = false := decide_eq_false c27
        clear c27
        have H' := Aside0.mk H
        clear H
        go_wp2
        go_roundg k3
        case measure => have := HK1.out; have := HJ15.out; have := HK3.out; omega
        case rel => exact ⟨(x7_3), (wrap64 (x17_1 + 1)), zab13, H', ⟨zab17⟩, ⟨by (with_reducible repeat (first | apply Kd.R_alloc | apply Kd.R_drewN | apply Kd.R_drew)); exact Kd.R_mono HO_7.out (fun _ hk => hk.1)⟩, ⟨by (with_reducible repeat (first | apply Kd.R_alloc | apply Kd.R_drewN | apply Kd.R_drew)); exact Kd.R_mono HO_15.out (fun _ hk => hk.1)⟩, ⟨zab3⟩, ⟨zab5⟩, ⟨zab1⟩⟩
       rw [if_pos c27] at H
       have c27b0 : decide (x34_3 < (t659.length : Int)) = true := decide_eq_true c27
       clear c27
       by_cases c28 : 0 ≤ x34_3
       rotate_left
       ·rw [if_neg c28] at H
        exact absurd H (by simp)
       rw [if_pos c28] at H
       have c28b0 : decide (0 ≤ x34_3) = true := decide_eq_true c28
       clear c28
       by_cases c29 : x34_3 < (t659.length : Int)
       rotate_left
       ·rw [if_neg c29] at H
        exact absurd H (by simp)
       rw [if_pos c29] at H
       have c29b0 : decide (x34_3 < (t659.length : Int)) = true := decide_eq_true c29
       clear c29
       by_cases c30 : (rd t659 x34_3) = a2
       ·rw [if_pos c30] at H
        have c30b0 : ((rd t659 x34_3) == a2) = true := beq_iff_eq.mpr c30
        have c30b1 : ((rd t659 x34_3) != a2) = false := bne_eq_false_iff_eq.mpr c30
        clear c30
        have H' := Aside0.mk H
        clear H
        have p662 : 0 ≤ (x34_3 : Int) := of_decide_eq_true zab11
        have q662 : x34_3 < (t659.length : Int) := of_decide_eq_true zab11
        obtain ⟨ad662, e662, hx662_0⟩ := Kd.at_int (Kd.R_reads' HO_32.out).2.2 x34_3 p662 q662
        cases e662
        replace p662 := eq_true p662
        replace q662 := eq_true q662
        go_wp2
        go_roundg k3
        case measure => have := HK1.out; have := HJ15.out; have := HK3.out; omega
        case rel => exact ⟨(x7_3), (wrap64 (x34_3 + 1)), zab13, H', ⟨zab17⟩, ⟨zab10⟩, ⟨zab9⟩, ⟨zab16⟩, ⟨zab3⟩, ⟨zab5⟩, ⟨zab1⟩⟩
       rw [if_neg c30] at H
       have c30b0 : ((rd t659 x34_3) == a2) = false := beq_eq_false_iff_ne.mpr c30
       have c30b1 : ((rd t659 x34_3) != a2) = true := bne_iff_ne.mpr c30
       replace H := Option.bind_eq_some_iff.mp H
       obtain ⟨t663, A310, H⟩ := H
       replace H : (if t663 = true then (spec_paNear.l1 k3 a2 x7_3 t651 (t651.length : Int) x17_1 t659 (t659.length : Int) (wrap64 (x34_3 + 1)) a0_0 a0_1 l0_2 a1_0 a1_1) else (if x7_3.length < 17592186044416 then (spec_paNear.l1 k3 a2 (x7_3 ++ [rd t659 x34_3]) t651 (t651.length : Int) x17_1 t659 (t659.length : Int) (wrap64 (x34_3 + 1)) a0_0 a0_1 l0_2 a1_0 a1_1) else (none))) = some r := H
       have A31 := Aside0.mk A310
       clear A310
       by_cases c32 : t663 = true
       ·subst c32
        have H1 : (spec_paNear.l1 k3 a2 x7_3 t651 (t651.length : Int) x17_1 t659 (t659.length : Int) (wrap64 (x34_3 + 1)) a0_0 a0_1 l0_2 a1_0 a1_1) = some r := by rw [if_pos rfl] at H; exact H
        clear H
        have H := H1
        clear H1
        have H' := Aside0.mk H
        clear H
        have p662 : 0 ≤ (x34_3 : Int) := of_decide_eq_true zab11
        have q662 : x34_3 < (t659.length : Int) := of_decide_eq_true zab11
        obtain ⟨ad662, e662, hx662_0⟩ := Kd.at_int (Kd.R_reads' HO_32.out).2.2 x34_3 p662 q662
        cases e662
        replace p662 := eq_true p662
        replace q662 := eq_true q662
        obtain ⟨Ao33, co33, eo33⟩ := Kd.R_slice HO_7.out
        subst eo33
        go_wp2_with (first | (go_at_call 65; (with_reducible refine (spec_l1Has.calls k3 _ _ x7_3 (rd t659 x34_3) true _ ?side1 ?side2 A31.out).mono ?_); (case side1 => exact zab15); (case side2 => exact (Kd.R_reads' HO_7.out).2.1); rintro e w' ⟨rfl, ⟨nd, rfl⟩⟩))
        go_roundg k3
        case measure => have := HK1.out; have := HJ15.out; have := HK3.out; omega
        case rel => exact ⟨(x7_3), (wrap64 (x34_3 + 1)), zab13, H', ⟨zab17⟩, ⟨zab10⟩, ⟨zab9⟩, ⟨zab16⟩, ⟨zab3⟩, ⟨zab5⟩, ⟨zab1⟩⟩
       replace c32 := Bool.eq_false_iff.mpr c32
       subst c32
       have H1 : (if x7_3.length < 17592186044416 then (spec_paNear.l1 k3 a2 (x7_3 ++ [rd t659 x34_3]) t651 (t651.length : Int) x17_1 t659 (t659.length : Int) (wrap64 (x34_3 + 1)) a0_0 a0_1 l0_2 a1_0 a1_1) else (none)) = some r := by rw [if_neg (show ¬ (false = true) by decide)] at H; exact H
       clear H
       have H := H1
       clear H1
       by_cases c34 : x7_3.length < 17592186044416
       rotate_left
       ·rw [if_neg c34] at H
        exact absurd H (by simp)
       rw [if_pos c34] at H
       have LMc34 := Aside0.mk c34
       clear c34
       obtain ⟨y664, hy664⟩ : ∃ y_ : List Int, y_ = (x7_3 ++ [rd t659 x34_3]) := ⟨_, rfl⟩
       replace H : (spec_paNear.l1 k3 a2 y664 t651 (t651.length : Int) x17_1 t659 (t659.length : Int) (wrap64 (x34_3 + 1)) a0_0 a0_1 l0_2 a1_0 a1_1) = some r := by first | (rw [hy664]; with_reducible exact H) | (have H2_ := (Option.bind_some _ _).symm.trans H; rw [hy664]; with_reducible exact H2_) | (have H2_ := (Option.bind_some _ _).symm.trans H; with_reducible exact H2_) | with_reducible exact H | (rw [hy664]; exact H) | exact H
       have Ny664 := Aside0.mk hy664
       clear hy664
       have H' := Aside0.mk H
       clear H
       have p662 : 0 ≤ (x34_3 : Int) := of_decide_eq_true zab11
       have q662 : x34_3 < (t659.length : Int) := of_decide_eq_true zab11
       obtain ⟨ad662, e662, hx662_0⟩ := Kd.at_int (Kd.R_reads' HO_32.out).2.2 x34_3 p662 q662
       cases e662
       replace p662 := eq_true p662
       replace q662 := eq_true q662
       obtain ⟨Ao35, co35, eo35⟩ := Kd.R_slice HO_7.out
       subst eo35
       go_wp2_with (first | (go_at_call 65; (with_reducible refine (spec_l1Has.calls k3 _ _ x7_3 (rd t659 x34_3) false _ ?side1 ?side2 A31.out).mono ?_); (case side1 => exact zab15); (case side2 => exact (Kd.R_reads' HO_7.out).2.1); rintro e w' ⟨rfl, ⟨nd, rfl⟩⟩) | ((with_reducible refine gate_builtin (b := .append) (xs := #[.tmp 47, .tmp 49]) rfl ?_); at_builtin; refine Kd.R_append (Kd.int .i64) (w0 := w) w.heap.size rfl (.tmp 47) (.tmp 49) 22 3 (.int .i64 0) 8 rfl Try.underlying22 info3 rfl (by decide) (by omega) (.slice Ao35 x7_3.length co35) x7_3 (rd t659 x34_3) [.int .i64 (rd t659 x34_3)] (fun k_ => some k_ ≠ (.slice (some ad654) t651.length co11 : Value).ownBlock ∧ some k_ ≠ (.slice (some ad662) t659.length co26 : Value).ownBlock) (fun _ => False) rfl rfl ?aP (fun _ hk => hk.elim) ?aF ?aO ?aB ?aS ?aL ?_; (case aP => exact rfl); (case aB => exact zab1); (case aF => exact (fun k_ hk => ⟨Kd.fresh' (Kd.R_lt zab9) k_ hk, Kd.fresh' (Kd.R_lt zab16) k_ hk⟩)); (case aO => exact zab10); (case aS => exact (below_size zab1)); (case aL => have := LMc34.out; omega); intro v665 w36 ho hb hg hat; rw [← Ny664.out] at ho; have n0_ := Aside0.mk (Kd.R_after (ok := (fun k_ => some k_ ≠ (.slice (some ad662) t659.length co26 : Value).ownBlock)) zab19 hg hat); have n1_ := Aside0.mk (Kd.R_after (ok := (fun k_ => some k_ ≠ (.slice (some ad654) t651.length co11 : Value).ownBlock)) zab18 hg hat); have n2_ := Aside0.mk (blk_grown (g := gb649) (o := .cells #[.int .i64 a0_0, .int .i64 a0_1, .slice A0_2 l0_2.length c0_2] 30 (0, 0)) zab3 hg (Kd.R_ne HO_7.out BK649.out (by decide))); have n3_ := Aside0.mk (blk_grown (g := gb650) (o := .cells #[.int .i64 a1_0, .int .i64 a1_1] 32 (0, 0)) zab5 hg (Kd.R_ne HO_7.out BK650.out (by decide))); have n4_ := Aside0.mk (hb); have n5_ := Aside0.mk (ho); clear HO_15; clear HO_32; clear BK649; clear BK650; clear HB; clear HO_7; have HO_15 := n0_; have HO_32 := n1_; have BK649 := n2_; have BK650 := n3_; have HB := n4_; have HO666 := n5_; clear n0_ n1_ n2_ n3_ n4_ n5_; clear ho hb hg hat))
       go_roundg k3
       case measure => have := HK1.out; have := HJ15.out; have := HK3.out; omega
       case rel => exact ⟨(y664), (wrap64 (x34_3 + 1)), zab13, H', ⟨zab17⟩, ⟨by first | exact HO666.out | ((with_reducible repeat (first | apply Kd.R_alloc | apply Kd.R_drewN | apply Kd.R_drew)); exact HO666.out)⟩, ⟨zab19⟩, ⟨zab18⟩, ⟨zab3⟩, ⟨zab5⟩, ⟨zab1⟩⟩

end Go.Proofs.Ytbecdckdbeoomaa.Q

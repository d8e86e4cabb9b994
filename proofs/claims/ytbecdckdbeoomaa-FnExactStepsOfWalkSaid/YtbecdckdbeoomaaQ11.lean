/- Written by a program of this session: functions of the translation as plain Lean functions, each with a proof that the call does what the plain function says; the conditions stand in each theorem. -/
import Derived.Test.YtbecdckdbeoomaaQ0
import Derived.Test.YtbecdckdbeoomaaQ2
import Derived.Test.YtbecdckdbeoomaaQ8
namespace Go.Proofs.Ytbecdckdbeoomaa.Q
open Go.RowKit Go.Proofs.YtbecdckdbeoomaaW.PrintWords Go.Proofs.YtbecdckdbeoomaaW.PrintLast Go.Proofs.YtbecdckdbeoomaaW.PrintMore
attribute [local go_sem] max2_int min2_int max_two min_two max_three min_three max_four min_four   -- for this text's walks alone
set_option linter.unusedVariables false
set_option linter.unusedSimpArgs false

theorem zl1 {p : Prop} (h : p := by repeat (first | (with_reducible first | exact HB.out | apply below_alloc | apply pw_below_drewN | apply below_drew1 | refine below_set ?_ GE269.out | refine below_set ?_ GE270.out) | exact HB.out)) : p := h
theorem zl2 {p : Prop} (h : p := by repeat (first | (with_reducible first | exact HB.out | apply below_alloc | apply pw_below_drewN | apply below_drew1 | refine below_set ?_ GE269.out | refine below_set ?_ GE270.out | refine below_set ?_ GE277.out) | exact HB.out)) : p := h
theorem zl3 {p : Prop} (h : p := by first | exact BK269.out | ((with_reducible repeat (first | refine blk_drewN ?_ _ | refine blk_drew ?_ | refine blk_alloc ?_ _)); exact BK269.out)) : p := h
theorem zl4 {p : Prop} (h : p := by first | exact BK270.out | ((with_reducible repeat (first | refine blk_drewN ?_ _ | refine blk_drew ?_ | refine blk_alloc ?_ _)); exact BK270.out)) : p := h
theorem zl5 {p : Prop} (h : p := by first | exact HO_278005.out | ((with_reducible repeat (first | apply Kd.R_alloc | apply Kd.R_drewN | apply Kd.R_drew)); exact HO_278005.out)) : p := h
theorem zl6 {p : Prop} (h : p := by first | exact HO_10.out | ((with_reducible repeat (first | apply Kd.R_alloc | apply Kd.R_drewN | apply Kd.R_drew)); exact HO_10.out)) : p := h
theorem zl7 {p : Prop} (h : p := by repeat (first | (with_reducible first | exact HB.out | apply below_alloc | apply pw_below_drewN | apply below_drew1 | refine below_set ?_ GE269.out) | exact HB.out)) : p := h
theorem zl8 {p : Prop} (h : p := by first | exact BK277.out | ((with_reducible repeat (first | refine blk_drewN ?_ _ | refine blk_drew ?_ | refine blk_alloc ?_ _)); exact BK277.out)) : p := h
theorem zl9 {p : Prop} (h : p := by repeat (first | exact (Kd.C_below HR0_2.out HB.out) | (with_reducible refine Kd.C_alloc ?_ _) | (with_reducible refine Kd.C_drewN ?_ _) | (with_reducible refine Kd.C_drew ?_))) : p := h
theorem zl10 {p : Prop} (h : p := by first | (with_reducible assumption) | assumption) : p := h
theorem zl11 {p : Prop} (h : p := by repeat (first | exact (Kd.C_below HR2.out HB.out) | (with_reducible refine Kd.C_alloc ?_ _) | (with_reducible refine Kd.C_drewN ?_ _) | (with_reducible refine Kd.C_drew ?_))) : p := h
theorem zl12 {p : Prop} (h : p := by repeat (first | (with_reducible first | exact HB.out | apply below_alloc | apply pw_below_drewN | apply below_drew1) | exact HB.out)) : p := h
theorem zl13 {p : Prop} (h : p := by first | exact HO_278006.out | ((with_reducible repeat (first | apply Kd.S_alloc | apply Kd.S_drewN | apply Kd.S_drew)); exact HO_278006.out)) : p := h
theorem zl14 {p : Prop} (h : p := by first | exact Nat.le_trans HNB295.out hb.size | exact Nat.le_trans HNB295.out hg.size | exact Nat.le_trans HNB295.out (Nat.le_trans (by simp) hb.size) | exact Nat.le_trans HNB295.out (Nat.le_trans (by simp) hg.size) | (rw [hw]; simpa using HNB295.out) | exact HNB295.out) : p := h
theorem zl15 {p : Prop} (h : p := by (with_reducible repeat (first | apply Kd.R_alloc | apply Kd.R_drewN | apply Kd.R_drew)); exact Kd.R_mono HL283_0.out (fun _ hk => ⟨⟨hk.2, ⟨hk.1.2.1, ⟨hk.1.2.2.1, hk.1.2.2.2⟩⟩⟩, hk.1.1⟩)) : p := h
theorem zl16 {p : Prop} (h : p := by first | exact HR283_0.out | (repeat (first | (with_reducible exact HR283_0.out) | (with_reducible refine Kd.C_alloc ?_ _) | (with_reducible refine Kd.C_drewN ?_ _) | (with_reducible refine Kd.C_drew ?_) | exact HR283_0.out))) : p := h
theorem zl17 {p : Prop} (h : p := by (with_reducible repeat (first | apply Kd.S_alloc | apply Kd.S_drewN | apply Kd.S_drew)); exact Kd.S_mono HO_278006.out (fun _ hk => ⟨⟨hk.2.1, ⟨hk.2.2.1, hk.2.2.2⟩⟩, hk.1⟩)) : p := h
theorem zl18 {p : Prop} (h : p := by (with_reducible repeat (first | apply Kd.S_alloc | apply Kd.S_drewN | apply Kd.S_drew)); exact Kd.S_mono HO_30.out (fun _ hk => ⟨⟨hk.2.1, ⟨hk.2.2.1, hk.2.2.2⟩⟩, hk.1⟩)) : p := h
theorem zl19 {p : Prop} (h : p := by (with_reducible repeat (first | apply Kd.R_alloc | apply Kd.R_drewN | apply Kd.R_drew)); exact Kd.R_mono HO_278005.out (fun _ hk => ⟨trivial, hk⟩)) : p := h
theorem zl20 {p : Prop} (h : p := by first | rfl | (simp; done) | (simp [*]; done)) : p := h
theorem zl21 {p : Prop} (h : p := by first | exact HNB295.out | exact Nat.le_trans HNB295.out (by simp)) : p := h
theorem zl22 {p : Prop} (h : p := by first | exact Kd.R_nil _ _ _ _ _ | exact Kd.N_nil _ _ _ _ _ | exact Kd.V_nil _ _ _ _ _ | exact Kd.Q_nil _ _ _ _ _ | exact Kd.S_nil _ _ _ _ _) : p := h
theorem zl23 {p : Prop} (h : p := by rw [hg]; exact Nat.ne_of_lt (blk_lt (g := gb269) (o := .cells #[.int .i64 a0_0, .int .i64 a0_1, .slice A0_2 l0_2.length c0_2] 30 (0, 0)) zl3)) : p := h
theorem zl24 {p : Prop} (h : p := by rw [hg]; exact Nat.ne_of_gt (blk_lt (g := gb269) (o := .cells #[.int .i64 a0_0, .int .i64 a0_1, .slice A0_2 l0_2.length c0_2] 30 (0, 0)) zl3)) : p := h
theorem zl25 {p : Prop} (h : p := by rw [hg]; exact (below_size zl12)) : p := h
theorem zl26 {p : Prop} (h : p := by rw [hg]; exact (below_size zl7)) : p := h
theorem zl27 {p : Prop} (h : p := by first | exact q283 | exact of_decide_eq_true zl10 | (have e_ := (Kd.S_reads' HO_30.out).1; omega)) : p := h
theorem zl28 {p : Prop} (h : p := by exact (below_size zl1)) : p := h
/-! ### impl_StepsOfWalk: function 17 -/
mutual
def impl_StepsOfWalk.l0 : Nat → List Int → List Int → Int → Int → Int → List Int → Int → Int → Option (List Int × Bool)
 | 0, _, _, _, _, _, _, _, _ => none
 | k + 1, x2, x10, x11, x270000, x270001, x270002, x271000, x271001 => if x11 < (x2.length : Int) then ((impl_Leaper_steps.f k x271000 x271001).bind fun t280 => (impl_StepsOfWalk.l1 k x2 x10 x11 t280 (t280.length : Int) 0 x270000 x270001 x270002 x271000 x271001)) else (some (x10, true))
def impl_StepsOfWalk.l1 : Nat → List Int → List Int → Int → List (List Int) → Int → Int → Int → Int → List Int → Int → Int → Option (List Int × Bool)
 | 0, _, _, _, _, _, _, _, _, _, _, _ => none
 | k + 1, x2, x10, x11, x30, x31, x32, x270000, x270001, x270002, x271000, x271001 => if x32 < x31 then (if 0 ≤ x32 then (if x32 < (x30.length : Int) then (if 0 ≤ x11 then (if x11 < (x2.length : Int) then (if x270000 = 0 then (none) else (if 0 ≤ (wrap64 (x11 - 1)) then (if (wrap64 (x11 - 1)) < (x2.length : Int) then (if 0 < ((rd_L1 x30 x32).length : Int) then (if (wrap64 ((Int.tmod (rd x2 x11) x270000) - (Int.tmod (rd x2 (wrap64 (x11 - 1))) x270000))) = (rd (rd_L1 x30 x32) 0) then (if 1 < ((rd_L1 x30 x32).length : Int) then (if (wrap64 ((wrap64 (Int.tdiv (rd x2 x11) x270000)) - (wrap64 (Int.tdiv (rd x2 (wrap64 (x11 - 1))) x270000)))) = (rd (rd_L1 x30 x32) 1) then (if x10.length < 17592186044416 then (impl_StepsOfWalk.l1 k x2 (x10 ++ [x32]) x11 x30 x31 (wrap64 (x32 + 1)) x270000 x270001 x270002 x271000 x271001) else (none)) else (impl_StepsOfWalk.l1 k x2 x10 x11 x30 x31 (wrap64 (x32 + 1)) x270000 x270001 x270002 x271000 x271001)) else (none)) else (impl_StepsOfWalk.l1 k x2 x10 x11 x30 x31 (wrap64 (x32 + 1)) x270000 x270001 x270002 x271000 x271001)) else (none)) else (none)) else (none))) else (none)) else (none)) else (none)) else (none)) else (impl_StepsOfWalk.l0 k x2 x10 (wrap64 (x11 + 1)) x270000 x270001 x270002 x271000 x271001)
end
def impl_StepsOfWalk.f (k : Nat) (a0_0 : Int) (a0_1 : Int) (l0_2 : List Int) (a1_0 : Int) (a1_1 : Int) (l2 : List Int) : Option (List Int × Bool) := (impl_walkGraph.f k a0_0 a0_1 l0_2 a1_0 a1_1 l2).bind fun bt271 => (if bt271.2.2 = true then (impl_StepsOfWalk.l0 k l2 ([] : List Int) 1 a0_0 a0_1 l0_2 a1_0 a1_1) else (some (([] : List Int), false)))
set_option maxHeartbeats 8000000 in
set_option maxRecDepth 100000 in
theorem impl_StepsOfWalk.calls (k : Nat) (a0_0 : Int) (a0_1 : Int) (A0_2 : Option Addr) (c0_2 : Nat) (l0_2 : List Int) (a1_0 : Int) (a1_1 : Int) (A2 : Option Addr) (c2 : Nat) (l2 : List Int) (r1 : List Int) (r2 : Bool) (w : World) (hr0_2 : Kd.C (Kd.int .i64) w A0_2 l0_2.length l0_2) (hc0_2 : l0_2.length ≤ c0_2) (hr2 : Kd.C (Kd.int .i64) w A2 l2.length l2) (hc2 : l2.length ≤ c2) (h : impl_StepsOfWalk.f k a0_0 a0_1 l0_2 a1_0 a1_1 l2 = some (r1, r2)) :
  Calls Try.prog 17 #[.agg #[.int .i64 a0_0, .int .i64 a0_1, .slice A0_2 l0_2.length c0_2], .agg #[.int .i64 a1_0, .int .i64 a1_1], .slice A2 l2.length c2] w fun e w' => ∃ v0_ : Value, e = .returned (.tuple #[v0_, .bool r2]) ∧ Kd.R (Kd.int .i64) 3 w' w.heap.size (fun _ => True) v0_ r1 ∧ Below w.heap.size w w' := by
 have hu30 := Try.underlying30
 have hu32 := Try.underlying32
 have HR0_2 := Aside0.mk hr0_2
 have HC0_2 := Aside0.mk hc0_2
 clear hr0_2 hc0_2
 have HR2 := Aside0.mk hr2
 have HC2 := Aside0.mk hc2
 clear hr2 hc2
 have HB := Aside0.mk (Below.refl w.heap.size w)
 have H : ((impl_walkGraph.f k a0_0 a0_1 l0_2 a1_0 a1_1 l2).bind fun bt271 => (if bt271.2.2 = true then (impl_StepsOfWalk.l0 k l2 ([] : List Int) 1 a0_0 a0_1 l0_2 a1_0 a1_1) else (some (([] : List Int), false)))) = some (r1, r2) := h
 clear h
 replace H := Option.bind_eq_some_iff.mp H
 obtain ⟨⟨t271, t274, t279⟩, A40, H⟩ := H
 replace H : (if t279 = true then (impl_StepsOfWalk.l0 k l2 ([] : List Int) 1 a0_0 a0_1 l0_2 a1_0 a1_1) else (some (([] : List Int), false))) = some (r1, r2) := H
 have A4 := Aside0.mk A40
 clear A40
 by_cases c5 : t279 = true
 rotate_left
 ·replace c5 := Bool.eq_false_iff.mpr c5
  subst c5
  have H1 : (some (([] : List Int), false)) = some (r1, r2) := by rw [if_neg (show ¬ (false = true) by decide)] at H; exact H
  clear H
  have H := H1
  clear H1
  simp only [Option.some.injEq, Prod.mk.injEq] at H
  obtain ⟨rfl, rfl⟩ := H
  go_enter Try.func17, Try.ntmps17
  go_wp2_with (first | ((with_reducible refine gate_dst (N := 3) rfl ?_); refine box_event ?hg (N := 3) ?hd (cs := #[.int .i64 a0_0, .int .i64 a0_1, .slice A0_2 l0_2.length c0_2]) (t := 30) ?hr ?_; (case hd => rfl); (case hg => rfl); (case hr => first | (go_simp; done) | (go_simp; rfl)); intro gb269 hg w43 hbox hb; have n0_ := Aside0.mk (below_step zl12 hb); have n1_ := Aside0.mk (hbox); have n2_ := Aside0.mk ((zl25 : w.heap.size ≤ gb269)); have n3_ := Aside0.mk ((zl25 : w.heap.size ≤ gb269)); clear HB; have HB := n0_; have BK269 := n1_; have GW269 := n2_; have GE269 := n3_; clear n0_ n1_ n2_ n3_; clear hb hbox hg) | ((with_reducible refine gate_dst (N := 4) rfl ?_); refine box_event ?hg (N := 4) ?hd (cs := #[.int .i64 a1_0, .int .i64 a1_1]) (t := 32) ?hr ?_; (case hd => rfl); (case hg => rfl); (case hr => first | (go_simp; done) | (go_simp; rfl)); intro gb270 hg w44 hbox hb; have n0_ := Aside0.mk (blk_below (g := gb269) (o := .cells #[.int .i64 a0_0, .int .i64 a0_1, .slice A0_2 l0_2.length c0_2] 30 (0, 0)) zl3 hb); have n1_ := Aside0.mk (below_step zl7 hb); have n2_ := Aside0.mk (hbox); have n3_ := Aside0.mk ((zl26 : w.heap.size ≤ gb270)); have n4_ := Aside0.mk ((zl26 : w.heap.size ≤ gb270)); have n5_ := Aside0.mk ((zl23 : gb269 ≠ gb270)); have n6_ := Aside0.mk ((zl24 : gb270 ≠ gb269)); clear BK269; clear HB; have BK269 := n0_; have HB := n1_; have BK270 := n2_; have GW270 := n3_; have GE270 := n4_; have NB269_270 := n5_; have NB270_269 := n6_; clear n0_ n1_ n2_ n3_ n4_ n5_ n6_; clear hb hbox hg; have hnb45 := NB269_270.out; have hnc45 := NB270_269.out; have hcz46_0 : w44.cell? ⟨gb269, 0, none⟩ = some (.int .i64 a0_0) := (blk_cell BK269.out 0).trans rfl; have hcz46_1 : w44.cell? ⟨gb269, 1, none⟩ = some (.int .i64 a0_1) := (blk_cell BK269.out 1).trans rfl; have hcz46_2 : w44.cell? ⟨gb269, 2, none⟩ = some (.slice A0_2 l0_2.length c0_2) := (blk_cell BK269.out 2).trans rfl; have hfz46_0 := blk_frozen BK269.out 0; have hfz46_1 := blk_frozen BK269.out 1; have hfz46_2 := blk_frozen BK269.out 2; have hcz47_0 : w44.cell? ⟨gb270, 0, none⟩ = some (.int .i64 a1_0) := (blk_cell BK270.out 0).trans rfl; have hcz47_1 : w44.cell? ⟨gb270, 1, none⟩ = some (.int .i64 a1_1) := (blk_cell BK270.out 1).trans rfl; have hfz47_0 := blk_frozen BK270.out 0; have hfz47_1 := blk_frozen BK270.out 1) | (go_at_call 42; (with_reducible refine (impl_walkGraph.calls k a0_0 a0_1 _ _ l0_2 a1_0 a1_1 _ _ l2 t271 t274 false _ ?side1 ?side2 ?side3 ?side4 A4.out).mono ?_); (case side1 => exact zl9); (case side2 => exact HC0_2.out); (case side3 => exact zl11); (case side4 => exact HC2.out); rintro e w48 ⟨v272, v275, pv278, rfl, hgp, ho0, ho1, hb⟩; obtain rfl := hgp.2 rfl; have n0_ := Aside0.mk (Kd.R_lower ho0 (below_size zl1)); have n1_ := Aside0.mk (Kd.S_lower ho1 (below_size zl1)); have n2_ := Aside0.mk (blk_below (g := gb269) (o := .cells #[.int .i64 a0_0, .int .i64 a0_1, .slice A0_2 l0_2.length c0_2] 30 (0, 0)) zl3 hb); have n3_ := Aside0.mk (blk_below (g := gb270) (o := .cells #[.int .i64 a1_0, .int .i64 a1_1] 32 (0, 0)) zl4 hb); have n4_ := Aside0.mk (below_step zl1 hb); clear BK269; clear BK270; clear HB; have HO273 := n0_; have HO276 := n1_; have BK269 := n2_; have BK270 := n3_; have HB := n4_; clear n0_ n1_ n2_ n3_ n4_; (try clear hb); (try clear hb2); (try clear hk); (try clear hi); (try clear ho0); (try clear ho1); (try clear hgp); (try clear hbox); (try clear hge); (try clear hna_); (try clear hnb_)))
  repeat ((first | go_quiet (first | (go_at_call 42; (with_reducible refine (impl_walkGraph.calls k a0_0 a0_1 _ _ l0_2 a1_0 a1_1 _ _ l2 t271 t274 false _ ?side1 ?side2 ?side3 ?side4 A4.out).mono ?_); (case side1 => exact zl9); (case side2 => exact HC0_2.out); (case side3 => exact zl11); (case side4 => exact HC2.out); rintro e w48 ⟨v272, v275, pv278, rfl, hgp, ho0, ho1, hb⟩; obtain rfl := hgp.2 rfl; have n0_ := Aside0.mk (Kd.R_lower ho0 (below_size zl1)); have n1_ := Aside0.mk (Kd.S_lower ho1 (below_size zl1)); have n2_ := Aside0.mk (blk_below (g := gb269) (o := .cells #[.int .i64 a0_0, .int .i64 a0_1, .slice A0_2 l0_2.length c0_2] 30 (0, 0)) zl3 hb); have n3_ := Aside0.mk (blk_below (g := gb270) (o := .cells #[.int .i64 a1_0, .int .i64 a1_1] 32 (0, 0)) zl4 hb); have n4_ := Aside0.mk (below_step zl1 hb); clear BK269; clear BK270; clear HB; have HO273 := n0_; have HO276 := n1_; have BK269 := n2_; have BK270 := n3_; have HB := n4_; clear n0_ n1_ n2_ n3_ n4_; (try clear hb); (try clear hb2); (try clear hk); (try clear hi); (try clear ho0); (try clear ho1); (try clear hgp); (try clear hbox); (try clear hge); (try clear hna_); (try clear hnb_))) | (refine wp_region_quiet_lit (by kernel_rfl) (by kernel_rfl) ?_; (repeat (any_goals (first | go_big_quiet_step (first | (go_at_call 42; (with_reducible refine (impl_walkGraph.calls k a0_0 a0_1 _ _ l0_2 a1_0 a1_1 _ _ l2 t271 t274 false _ ?side1 ?side2 ?side3 ?side4 A4.out).mono ?_); (case side1 => exact zl9); (case side2 => exact HC0_2.out); (case side3 => exact zl11); (case side4 => exact HC2.out); rintro e w48 ⟨v272, v275, pv278, rfl, hgp, ho0, ho1, hb⟩; obtain rfl := hgp.2 rfl; have n0_ := Aside0.mk (Kd.R_lower ho0 (below_size zl1)); have n1_ := Aside0.mk (Kd.S_lower ho1 (below_size zl1)); have n2_ := Aside0.mk (blk_below (g := gb269) (o := .cells #[.int .i64 a0_0, .int .i64 a0_1, .slice A0_2 l0_2.length c0_2] 30 (0, 0)) zl3 hb); have n3_ := Aside0.mk (blk_below (g := gb270) (o := .cells #[.int .i64 a1_0, .int .i64 a1_1] 32 (0, 0)) zl4 hb); have n4_ := Aside0.mk (below_step zl1 hb); clear BK269; clear BK270; clear HB; have HO273 := n0_; have HO276 := n1_; have BK269 := n2_; have BK270 := n3_; have HB := n4_; clear n0_ n1_ n2_ n3_ n4_; (try clear hb); (try clear hb2); (try clear hk); (try clear hi); (try clear ho0); (try clear ho1); (try clear hgp); (try clear hbox); (try clear hge); (try clear hna_); (try clear hnb_))) | quiet_step (first | (go_at_call 42; (with_reducible refine (impl_walkGraph.calls k a0_0 a0_1 _ _ l0_2 a1_0 a1_1 _ _ l2 t271 t274 false _ ?side1 ?side2 ?side3 ?side4 A4.out).mono ?_); (case side1 => exact zl9); (case side2 => exact HC0_2.out); (case side3 => exact zl11); (case side4 => exact HC2.out); rintro e w48 ⟨v272, v275, pv278, rfl, hgp, ho0, ho1, hb⟩; obtain rfl := hgp.2 rfl; have n0_ := Aside0.mk (Kd.R_lower ho0 (below_size zl1)); have n1_ := Aside0.mk (Kd.S_lower ho1 (below_size zl1)); have n2_ := Aside0.mk (blk_below (g := gb269) (o := .cells #[.int .i64 a0_0, .int .i64 a0_1, .slice A0_2 l0_2.length c0_2] 30 (0, 0)) zl3 hb); have n3_ := Aside0.mk (blk_below (g := gb270) (o := .cells #[.int .i64 a1_0, .int .i64 a1_1] 32 (0, 0)) zl4 hb); have n4_ := Aside0.mk (below_step zl1 hb); clear BK269; clear BK270; clear HB; have HO273 := n0_; have HO276 := n1_; have BK269 := n2_; have BK270 := n3_; have HB := n4_; clear n0_ n1_ n2_ n3_ n4_; (try clear hb); (try clear hb2); (try clear hk); (try clear hi); (try clear ho0); (try clear ho1); (try clear hgp); (try clear hbox); (try clear hge); (try clear hna_); (try clear hnb_)))))); all_goals (refine wpQuiet_nil ?_; intro _ hw2_; obtain ⟨nq, hw3_⟩ := hw2_; subst hw3_))); try go_wp2_with (first | ((with_reducible refine gate_dst (N := 3) rfl ?_); refine box_event ?hg (N := 3) ?hd (cs := #[.int .i64 a0_0, .int .i64 a0_1, .slice A0_2 l0_2.length c0_2]) (t := 30) ?hr ?_; (case hd => rfl); (case hg => rfl); (case hr => first | (go_simp; done) | (go_simp; rfl)); intro gb269 hg w43 hbox hb; have n0_ := Aside0.mk (below_step zl12 hb); have n1_ := Aside0.mk (hbox); have n2_ := Aside0.mk ((zl25 : w.heap.size ≤ gb269)); have n3_ := Aside0.mk ((zl25 : w.heap.size ≤ gb269)); clear HB; have HB := n0_; have BK269 := n1_; have GW269 := n2_; have GE269 := n3_; clear n0_ n1_ n2_ n3_; clear hb hbox hg) | ((with_reducible refine gate_dst (N := 4) rfl ?_); refine box_event ?hg (N := 4) ?hd (cs := #[.int .i64 a1_0, .int .i64 a1_1]) (t := 32) ?hr ?_; (case hd => rfl); (case hg => rfl); (case hr => first | (go_simp; done) | (go_simp; rfl)); intro gb270 hg w44 hbox hb; have n0_ := Aside0.mk (blk_below (g := gb269) (o := .cells #[.int .i64 a0_0, .int .i64 a0_1, .slice A0_2 l0_2.length c0_2] 30 (0, 0)) zl3 hb); have n1_ := Aside0.mk (below_step zl7 hb); have n2_ := Aside0.mk (hbox); have n3_ := Aside0.mk ((zl26 : w.heap.size ≤ gb270)); have n4_ := Aside0.mk ((zl26 : w.heap.size ≤ gb270)); have n5_ := Aside0.mk ((zl23 : gb269 ≠ gb270)); have n6_ := Aside0.mk ((zl24 : gb270 ≠ gb269)); clear BK269; clear HB; have BK269 := n0_; have HB := n1_; have BK270 := n2_; have GW270 := n3_; have GE270 := n4_; have NB269_270 := n5_; have NB270_269 := n6_; clear n0_ n1_ n2_ n3_ n4_ n5_ n6_; clear hb hbox hg; have hnb45 := NB269_270.out; have hnc45 := NB270_269.out; have hcz46_0 : w44.cell? ⟨gb269, 0, none⟩ = some (.int .i64 a0_0) := (blk_cell BK269.out 0).trans rfl; have hcz46_1 : w44.cell? ⟨gb269, 1, none⟩ = some (.int .i64 a0_1) := (blk_cell BK269.out 1).trans rfl; have hcz46_2 : w44.cell? ⟨gb269, 2, none⟩ = some (.slice A0_2 l0_2.length c0_2) := (blk_cell BK269.out 2).trans rfl; have hfz46_0 := blk_frozen BK269.out 0; have hfz46_1 := blk_frozen BK269.out 1; have hfz46_2 := blk_frozen BK269.out 2; have hcz47_0 : w44.cell? ⟨gb270, 0, none⟩ = some (.int .i64 a1_0) := (blk_cell BK270.out 0).trans rfl; have hcz47_1 : w44.cell? ⟨gb270, 1, none⟩ = some (.int .i64 a1_1) := (blk_cell BK270.out 1).trans rfl; have hfz47_0 := blk_frozen BK270.out 0; have hfz47_1 := blk_frozen BK270.out 1) | (go_at_call 42; (with_reducible refine (impl_walkGraph.calls k a0_0 a0_1 _ _ l0_2 a1_0 a1_1 _ _ l2 t271 t274 false _ ?side1 ?side2 ?side3 ?side4 A4.out).mono ?_); (case side1 => exact zl9); (case side2 => exact HC0_2.out); (case side3 => exact zl11); (case side4 => exact HC2.out); rintro e w48 ⟨v272, v275, pv278, rfl, hgp, ho0, ho1, hb⟩; obtain rfl := hgp.2 rfl; have n0_ := Aside0.mk (Kd.R_lower ho0 (below_size zl1)); have n1_ := Aside0.mk (Kd.S_lower ho1 (below_size zl1)); have n2_ := Aside0.mk (blk_below (g := gb269) (o := .cells #[.int .i64 a0_0, .int .i64 a0_1, .slice A0_2 l0_2.length c0_2] 30 (0, 0)) zl3 hb); have n3_ := Aside0.mk (blk_below (g := gb270) (o := .cells #[.int .i64 a1_0, .int .i64 a1_1] 32 (0, 0)) zl4 hb); have n4_ := Aside0.mk (below_step zl1 hb); clear BK269; clear BK270; clear HB; have HO273 := n0_; have HO276 := n1_; have BK269 := n2_; have BK270 := n3_; have HB := n4_; clear n0_ n1_ n2_ n3_ n4_; (try clear hb); (try clear hb2); (try clear hk); (try clear hi); (try clear ho0); (try clear ho1); (try clear hgp); (try clear hbox); (try clear hge); (try clear hna_); (try clear hnb_))))
  go_ret2
  exact ⟨_, by first | rfl | (simp [errW_none, errW_some] <;> rfl) | (simp [*, errW_none, errW_some] <;> rfl), zl22, zl1⟩
 subst c5
 have H1 : (impl_StepsOfWalk.l0 k l2 ([] : List Int) 1 a0_0 a0_1 l0_2 a1_0 a1_1) = some (r1, r2) := by rw [if_pos rfl] at H; exact H
 clear H
 have H := H1
 clear H1
 have H' := Aside0.mk H
 clear H
 go_enter Try.func17, Try.ntmps17
 go_wp2_with (first | ((with_reducible refine gate_dst (N := 3) rfl ?_); refine box_event ?hg (N := 3) ?hd (cs := #[.int .i64 a0_0, .int .i64 a0_1, .slice A0_2 l0_2.length c0_2]) (t := 30) ?hr ?_; (case hd => rfl); (case hg => rfl); (case hr => first | (go_simp; done) | (go_simp; rfl)); intro gb269 hg w6 hbox hb; have n0_ := Aside0.mk (below_step zl12 hb); have n1_ := Aside0.mk (hbox); have n2_ := Aside0.mk ((zl25 : w.heap.size ≤ gb269)); have n3_ := Aside0.mk ((zl25 : w.heap.size ≤ gb269)); clear HB; have HB := n0_; have BK269 := n1_; have GW269 := n2_; have GE269 := n3_; clear n0_ n1_ n2_ n3_; clear hb hbox hg) | ((with_reducible refine gate_dst (N := 4) rfl ?_); refine box_event ?hg (N := 4) ?hd (cs := #[.int .i64 a1_0, .int .i64 a1_1]) (t := 32) ?hr ?_; (case hd => rfl); (case hg => rfl); (case hr => first | (go_simp; done) | (go_simp; rfl)); intro gb270 hg w7 hbox hb; have n0_ := Aside0.mk (blk_below (g := gb269) (o := .cells #[.int .i64 a0_0, .int .i64 a0_1, .slice A0_2 l0_2.length c0_2] 30 (0, 0)) zl3 hb); have n1_ := Aside0.mk (below_step zl7 hb); have n2_ := Aside0.mk (hbox); have n3_ := Aside0.mk ((zl26 : w.heap.size ≤ gb270)); have n4_ := Aside0.mk ((zl26 : w.heap.size ≤ gb270)); have n5_ := Aside0.mk ((zl23 : gb269 ≠ gb270)); have n6_ := Aside0.mk ((zl24 : gb270 ≠ gb269)); clear BK269; clear HB; have BK269 := n0_; have HB := n1_; have BK270 := n2_; have GW270 := n3_; have GE270 := n4_; have NB269_270 := n5_; have NB270_269 := n6_; clear n0_ n1_ n2_ n3_ n4_ n5_ n6_; clear hb hbox hg; have hnb8 := NB269_270.out; have hnc8 := NB270_269.out; have hcz9_0 : w7.cell? ⟨gb269, 0, none⟩ = some (.int .i64 a0_0) := (blk_cell BK269.out 0).trans rfl; have hcz9_1 : w7.cell? ⟨gb269, 1, none⟩ = some (.int .i64 a0_1) := (blk_cell BK269.out 1).trans rfl; have hcz9_2 : w7.cell? ⟨gb269, 2, none⟩ = some (.slice A0_2 l0_2.length c0_2) := (blk_cell BK269.out 2).trans rfl; have hfz9_0 := blk_frozen BK269.out 0; have hfz9_1 := blk_frozen BK269.out 1; have hfz9_2 := blk_frozen BK269.out 2; have hcz10_0 : w7.cell? ⟨gb270, 0, none⟩ = some (.int .i64 a1_0) := (blk_cell BK270.out 0).trans rfl; have hcz10_1 : w7.cell? ⟨gb270, 1, none⟩ = some (.int .i64 a1_1) := (blk_cell BK270.out 1).trans rfl; have hfz10_0 := blk_frozen BK270.out 0; have hfz10_1 := blk_frozen BK270.out 1) | (go_at_call 42; (with_reducible refine (impl_walkGraph.calls k a0_0 a0_1 _ _ l0_2 a1_0 a1_1 _ _ l2 t271 t274 true _ ?side1 ?side2 ?side3 ?side4 A4.out).mono ?_); (case side1 => exact zl9); (case side2 => exact HC0_2.out); (case side3 => exact zl11); (case side4 => exact HC2.out); rintro e w11 ⟨v272, v275, pv278, rfl, hgp, ho0, ho1, hb⟩; obtain ⟨gb277, rfl, hbox, hge⟩ := hgp.1 rfl; have n0_ := Aside0.mk (Kd.R_lower ho0 (below_size zl1)); have n1_ := Aside0.mk (Kd.S_lower ho1 (below_size zl1)); have n2_ := Aside0.mk (blk_below (g := gb269) (o := .cells #[.int .i64 a0_0, .int .i64 a0_1, .slice A0_2 l0_2.length c0_2] 30 (0, 0)) zl3 hb); have n3_ := Aside0.mk (blk_below (g := gb270) (o := .cells #[.int .i64 a1_0, .int .i64 a1_1] 32 (0, 0)) zl4 hb); have n4_ := Aside0.mk (hbox); have n5_ := Aside0.mk ((Nat.le_trans zl28 hge : w.heap.size ≤ gb277)); have n6_ := Aside0.mk ((Nat.le_trans zl28 hge : w.heap.size ≤ gb277)); have n7_ := Aside0.mk ((Nat.ne_of_lt (Nat.lt_of_lt_of_le (blk_lt (g := gb269) (o := .cells #[.int .i64 a0_0, .int .i64 a0_1, .slice A0_2 l0_2.length c0_2] 30 (0, 0)) zl3) hge) : gb269 ≠ gb277)); have n8_ := Aside0.mk ((Nat.ne_of_gt (Nat.lt_of_lt_of_le (blk_lt (g := gb269) (o := .cells #[.int .i64 a0_0, .int .i64 a0_1, .slice A0_2 l0_2.length c0_2] 30 (0, 0)) zl3) hge) : gb277 ≠ gb269)); have n9_ := Aside0.mk ((Nat.ne_of_lt (Nat.lt_of_lt_of_le (blk_lt (g := gb270) (o := .cells #[.int .i64 a1_0, .int .i64 a1_1] 32 (0, 0)) zl4) hge) : gb270 ≠ gb277)); have n10_ := Aside0.mk ((Nat.ne_of_gt (Nat.lt_of_lt_of_le (blk_lt (g := gb270) (o := .cells #[.int .i64 a1_0, .int .i64 a1_1] 32 (0, 0)) zl4) hge) : gb277 ≠ gb270)); have n11_ := Aside0.mk (below_step zl1 hb); clear BK269; clear BK270; clear HB; have HO273 := n0_; have HO276 := n1_; have BK269 := n2_; have BK270 := n3_; have BK277 := n4_; have GW277 := n5_; have GE277 := n6_; have NB269_277 := n7_; have NB277_269 := n8_; have NB270_277 := n9_; have NB277_270 := n10_; have HB := n11_; clear n0_ n1_ n2_ n3_ n4_ n5_ n6_ n7_ n8_ n9_ n10_ n11_; (try clear hb); (try clear hb2); (try clear hk); (try clear hi); (try clear ho0); (try clear ho1); (try clear hgp); (try clear hbox); (try clear hge); (try clear hna_); (try clear hnb_)))
 repeat ((first | go_quiet (first | (go_at_call 42; (with_reducible refine (impl_walkGraph.calls k a0_0 a0_1 _ _ l0_2 a1_0 a1_1 _ _ l2 t271 t274 true _ ?side1 ?side2 ?side3 ?side4 A4.out).mono ?_); (case side1 => exact zl9); (case side2 => exact HC0_2.out); (case side3 => exact zl11); (case side4 => exact HC2.out); rintro e w11 ⟨v272, v275, pv278, rfl, hgp, ho0, ho1, hb⟩; obtain ⟨gb277, rfl, hbox, hge⟩ := hgp.1 rfl; have n0_ := Aside0.mk (Kd.R_lower ho0 (below_size zl1)); have n1_ := Aside0.mk (Kd.S_lower ho1 (below_size zl1)); have n2_ := Aside0.mk (blk_below (g := gb269) (o := .cells #[.int .i64 a0_0, .int .i64 a0_1, .slice A0_2 l0_2.length c0_2] 30 (0, 0)) zl3 hb); have n3_ := Aside0.mk (blk_below (g := gb270) (o := .cells #[.int .i64 a1_0, .int .i64 a1_1] 32 (0, 0)) zl4 hb); have n4_ := Aside0.mk (hbox); have n5_ := Aside0.mk ((Nat.le_trans zl28 hge : w.heap.size ≤ gb277)); have n6_ := Aside0.mk ((Nat.le_trans zl28 hge : w.heap.size ≤ gb277)); have n7_ := Aside0.mk ((Nat.ne_of_lt (Nat.lt_of_lt_of_le (blk_lt (g := gb269) (o := .cells #[.int .i64 a0_0, .int .i64 a0_1, .slice A0_2 l0_2.length c0_2] 30 (0, 0)) zl3) hge) : gb269 ≠ gb277)); have n8_ := Aside0.mk ((Nat.ne_of_gt (Nat.lt_of_lt_of_le (blk_lt (g := gb269) (o := .cells #[.int .i64 a0_0, .int .i64 a0_1, .slice A0_2 l0_2.length c0_2] 30 (0, 0)) zl3) hge) : gb277 ≠ gb269)); have n9_ := Aside0.mk ((Nat.ne_of_lt (Nat.lt_of_lt_of_le (blk_lt (g := gb270) (o := .cells #[.int .i64 a1_0, .int .i64 a1_1] 32 (0, 0)) zl4) hge) : gb270 ≠ gb277)); have n10_ := Aside0.mk ((Nat.ne_of_gt (Nat.lt_of_lt_of_le (blk_lt (g := gb270) (o := .cells #[.int .i64 a1_0, .int .i64 a1_1] 32 (0, 0)) zl4) hge) : gb277 ≠ gb270)); have n11_ := Aside0.mk (below_step zl1 hb); clear BK269; clear BK270; clear HB; have HO273 := n0_; have HO276 := n1_; have BK269 := n2_; have BK270 := n3_; have BK277 := n4_; have GW277 := n5_; have GE277 := n6_; have NB269_277 := n7_; have NB277_269 := n8_; have NB270_277 := n9_; have NB277_270 := n10_; have HB := n11_; clear n0_ n1_ n2_ n3_ n4_ n5_ n6_ n7_ n8_ n9_ n10_ n11_; (try clear hb); (try clear hb2); (try clear hk); (try clear hi); (try clear ho0); (try clear ho1); (try clear hgp); (try clear hbox); (try clear hge); (try clear hna_); (try clear hnb_))) | (refine wp_region_quiet_lit (by kernel_rfl) (by kernel_rfl) ?_; (repeat (any_goals (first | go_big_quiet_step (first | (go_at_call 42; (with_reducible refine (impl_walkGraph.calls k a0_0 a0_1 _ _ l0_2 a1_0 a1_1 _ _ l2 t271 t274 true _ ?side1 ?side2 ?side3 ?side4 A4.out).mono ?_); (case side1 => exact zl9); (case side2 => exact HC0_2.out); (case side3 => exact zl11); (case side4 => exact HC2.out); rintro e w11 ⟨v272, v275, pv278, rfl, hgp, ho0, ho1, hb⟩; obtain ⟨gb277, rfl, hbox, hge⟩ := hgp.1 rfl; have n0_ := Aside0.mk (Kd.R_lower ho0 (below_size zl1)); have n1_ := Aside0.mk (Kd.S_lower ho1 (below_size zl1)); have n2_ := Aside0.mk (blk_below (g := gb269) (o := .cells #[.int .i64 a0_0, .int .i64 a0_1, .slice A0_2 l0_2.length c0_2] 30 (0, 0)) zl3 hb); have n3_ := Aside0.mk (blk_below (g := gb270) (o := .cells #[.int .i64 a1_0, .int .i64 a1_1] 32 (0, 0)) zl4 hb); have n4_ := Aside0.mk (hbox); have n5_ := Aside0.mk ((Nat.le_trans zl28 hge : w.heap.size ≤ gb277)); have n6_ := Aside0.mk ((Nat.le_trans zl28 hge : w.heap.size ≤ gb277)); have n7_ := Aside0.mk ((Nat.ne_of_lt (Nat.lt_of_lt_of_le (blk_lt (g := gb269) (o := .cells #[.int .i64 a0_0, .int .i64 a0_1, .slice A0_2 l0_2.length c0_2] 30 (0, 0)) zl3) hge) : gb269 ≠ gb277)); have n8_ := Aside0.mk ((Nat.ne_of_gt (Nat.lt_of_lt_of_le (blk_lt (g := gb269) (o := .cells #[.int .i64 a0_0, .int .i64 a0_1, .slice A0_2 l0_2.length c0_2] 30 (0, 0)) zl3) hge) : gb277 ≠ gb269)); have n9_ := Aside0.mk ((Nat.ne_of_lt (Nat.lt_of_lt_of_le (blk_lt (g := gb270) (o := .cells #[.int .i64 a1_0, .int .i64 a1_1] 32 (0, 0)) zl4) hge) : gb270 ≠ gb277)); have n10_ := Aside0.mk ((Nat.ne_of_gt (Nat.lt_of_lt_of_le (blk_lt (g := gb270) (o := .cells #[.int .i64 a1_0, .int .i64 a1_1] 32 (0, 0)) zl4) hge) : gb277 ≠ gb270)); have n11_ := Aside0.mk (below_step zl1 hb); clear BK269; clear BK270; clear HB; have HO273 := n0_; have HO276 := n1_; have BK269 := n2_; have BK270 := n3_; have BK277 := n4_; have GW277 := n5_; have GE277 := n6_; have NB269_277 := n7_; have NB277_269 := n8_; have NB270_277 := n9_; have NB277_270 := n10_; have HB := n11_; clear n0_ n1_ n2_ n3_ n4_ n5_ n6_ n7_ n8_ n9_ n10_ n11_; (try clear hb); (try clear hb2); (try clear hk); (try clear hi); (try clear ho0); (try clear ho1); (try clear hgp); (try clear hbox); (try clear hge); (try clear hna_); (try clear hnb_))) | quiet_step (first | (go_at_call 42; (with_reducible refine (impl_walkGraph.calls k a0_0 a0_1 _ _ l0_2 a1_0 a1_1 _ _ l2 t271 t274 true _ ?side1 ?side2 ?side3 ?side4 A4.out).mono ?_); (case side1 => exact zl9); (case side2 => exact HC0_2.out); (case side3 => exact zl11); (case side4 => exact HC2.out); rintro e w11 ⟨v272, v275, pv278, rfl, hgp, ho0, ho1, hb⟩; obtain ⟨gb277, rfl, hbox, hge⟩ := hgp.1 rfl; have n0_ := Aside0.mk (Kd.R_lower ho0 (below_size zl1)); have n1_ := Aside0.mk (Kd.S_lower ho1 (below_size zl1)); have n2_ := Aside0.mk (blk_below (g := gb269) (o := .cells #[.int .i64 a0_0, .int .i64 a0_1, .slice A0_2 l0_2.length c0_2] 30 (0, 0)) zl3 hb); have n3_ := Aside0.mk (blk_below (g := gb270) (o := .cells #[.int .i64 a1_0, .int .i64 a1_1] 32 (0, 0)) zl4 hb); have n4_ := Aside0.mk (hbox); have n5_ := Aside0.mk ((Nat.le_trans zl28 hge : w.heap.size ≤ gb277)); have n6_ := Aside0.mk ((Nat.le_trans zl28 hge : w.heap.size ≤ gb277)); have n7_ := Aside0.mk ((Nat.ne_of_lt (Nat.lt_of_lt_of_le (blk_lt (g := gb269) (o := .cells #[.int .i64 a0_0, .int .i64 a0_1, .slice A0_2 l0_2.length c0_2] 30 (0, 0)) zl3) hge) : gb269 ≠ gb277)); have n8_ := Aside0.mk ((Nat.ne_of_gt (Nat.lt_of_lt_of_le (blk_lt (g := gb269) (o := .cells #[.int .i64 a0_0, .int .i64 a0_1, .slice A0_2 l0_2.length c0_2] 30 (0, 0)) zl3) hge) : gb277 ≠ gb269)); have n9_ := Aside0.mk ((Nat.ne_of_lt (Nat.lt_of_lt_of_le (blk_lt (g := gb270) (o := .cells #[.int .i64 a1_0, .int .i64 a1_1] 32 (0, 0)) zl4) hge) : gb270 ≠ gb277)); have n10_ := Aside0.mk ((Nat.ne_of_gt (Nat.lt_of_lt_of_le (blk_lt (g := gb270) (o := .cells #[.int .i64 a1_0, .int .i64 a1_1] 32 (0, 0)) zl4) hge) : gb277 ≠ gb270)); have n11_ := Aside0.mk (below_step zl1 hb); clear BK269; clear BK270; clear HB; have HO273 := n0_; have HO276 := n1_; have BK269 := n2_; have BK270 := n3_; have BK277 := n4_; have GW277 := n5_; have GE277 := n6_; have NB269_277 := n7_; have NB277_269 := n8_; have NB270_277 := n9_; have NB277_270 := n10_; have HB := n11_; clear n0_ n1_ n2_ n3_ n4_ n5_ n6_ n7_ n8_ n9_ n10_ n11_; (try clear hb); (try clear hb2); (try clear hk); (try clear hi); (try clear ho0); (try clear ho1); (try clear hgp); (try clear hbox); (try clear hge); (try clear hna_); (try clear hnb_)))))); all_goals (refine wpQuiet_nil ?_; intro _ hw2_; obtain ⟨nq, hw3_⟩ := hw2_; subst hw3_))); try go_wp2_with (first | ((with_reducible refine gate_dst (N := 3) rfl ?_); refine box_event ?hg (N := 3) ?hd (cs := #[.int .i64 a0_0, .int .i64 a0_1, .slice A0_2 l0_2.length c0_2]) (t := 30) ?hr ?_; (case hd => rfl); (case hg => rfl); (case hr => first | (go_simp; done) | (go_simp; rfl)); intro gb269 hg w6 hbox hb; have n0_ := Aside0.mk (below_step zl12 hb); have n1_ := Aside0.mk (hbox); have n2_ := Aside0.mk ((zl25 : w.heap.size ≤ gb269)); have n3_ := Aside0.mk ((zl25 : w.heap.size ≤ gb269)); clear HB; have HB := n0_; have BK269 := n1_; have GW269 := n2_; have GE269 := n3_; clear n0_ n1_ n2_ n3_; clear hb hbox hg) | ((with_reducible refine gate_dst (N := 4) rfl ?_); refine box_event ?hg (N := 4) ?hd (cs := #[.int .i64 a1_0, .int .i64 a1_1]) (t := 32) ?hr ?_; (case hd => rfl); (case hg => rfl); (case hr => first | (go_simp; done) | (go_simp; rfl)); intro gb270 hg w7 hbox hb; have n0_ := Aside0.mk (blk_below (g := gb269) (o := .cells #[.int .i64 a0_0, .int .i64 a0_1, .slice A0_2 l0_2.length c0_2] 30 (0, 0)) zl3 hb); have n1_ := Aside0.mk (below_step zl7 hb); have n2_ := Aside0.mk (hbox); have n3_ := Aside0.mk ((zl26 : w.heap.size ≤ gb270)); have n4_ := Aside0.mk ((zl26 : w.heap.size ≤ gb270)); have n5_ := Aside0.mk ((zl23 : gb269 ≠ gb270)); have n6_ := Aside0.mk ((zl24 : gb270 ≠ gb269)); clear BK269; clear HB; have BK269 := n0_; have HB := n1_; have BK270 := n2_; have GW270 := n3_; have GE270 := n4_; have NB269_270 := n5_; have NB270_269 := n6_; clear n0_ n1_ n2_ n3_ n4_ n5_ n6_; clear hb hbox hg; have hnb8 := NB269_270.out; have hnc8 := NB270_269.out; have hcz9_0 : w7.cell? ⟨gb269, 0, none⟩ = some (.int .i64 a0_0) := (blk_cell BK269.out 0).trans rfl; have hcz9_1 : w7.cell? ⟨gb269, 1, none⟩ = some (.int .i64 a0_1) := (blk_cell BK269.out 1).trans rfl; have hcz9_2 : w7.cell? ⟨gb269, 2, none⟩ = some (.slice A0_2 l0_2.length c0_2) := (blk_cell BK269.out 2).trans rfl; have hfz9_0 := blk_frozen BK269.out 0; have hfz9_1 := blk_frozen BK269.out 1; have hfz9_2 := blk_frozen BK269.out 2; have hcz10_0 : w7.cell? ⟨gb270, 0, none⟩ = some (.int .i64 a1_0) := (blk_cell BK270.out 0).trans rfl; have hcz10_1 : w7.cell? ⟨gb270, 1, none⟩ = some (.int .i64 a1_1) := (blk_cell BK270.out 1).trans rfl; have hfz10_0 := blk_frozen BK270.out 0; have hfz10_1 := blk_frozen BK270.out 1) | (go_at_call 42; (with_reducible refine (impl_walkGraph.calls k a0_0 a0_1 _ _ l0_2 a1_0 a1_1 _ _ l2 t271 t274 true _ ?side1 ?side2 ?side3 ?side4 A4.out).mono ?_); (case side1 => exact zl9); (case side2 => exact HC0_2.out); (case side3 => exact zl11); (case side4 => exact HC2.out); rintro e w11 ⟨v272, v275, pv278, rfl, hgp, ho0, ho1, hb⟩; obtain ⟨gb277, rfl, hbox, hge⟩ := hgp.1 rfl; have n0_ := Aside0.mk (Kd.R_lower ho0 (below_size zl1)); have n1_ := Aside0.mk (Kd.S_lower ho1 (below_size zl1)); have n2_ := Aside0.mk (blk_below (g := gb269) (o := .cells #[.int .i64 a0_0, .int .i64 a0_1, .slice A0_2 l0_2.length c0_2] 30 (0, 0)) zl3 hb); have n3_ := Aside0.mk (blk_below (g := gb270) (o := .cells #[.int .i64 a1_0, .int .i64 a1_1] 32 (0, 0)) zl4 hb); have n4_ := Aside0.mk (hbox); have n5_ := Aside0.mk ((Nat.le_trans zl28 hge : w.heap.size ≤ gb277)); have n6_ := Aside0.mk ((Nat.le_trans zl28 hge : w.heap.size ≤ gb277)); have n7_ := Aside0.mk ((Nat.ne_of_lt (Nat.lt_of_lt_of_le (blk_lt (g := gb269) (o := .cells #[.int .i64 a0_0, .int .i64 a0_1, .slice A0_2 l0_2.length c0_2] 30 (0, 0)) zl3) hge) : gb269 ≠ gb277)); have n8_ := Aside0.mk ((Nat.ne_of_gt (Nat.lt_of_lt_of_le (blk_lt (g := gb269) (o := .cells #[.int .i64 a0_0, .int .i64 a0_1, .slice A0_2 l0_2.length c0_2] 30 (0, 0)) zl3) hge) : gb277 ≠ gb269)); have n9_ := Aside0.mk ((Nat.ne_of_lt (Nat.lt_of_lt_of_le (blk_lt (g := gb270) (o := .cells #[.int .i64 a1_0, .int .i64 a1_1] 32 (0, 0)) zl4) hge) : gb270 ≠ gb277)); have n10_ := Aside0.mk ((Nat.ne_of_gt (Nat.lt_of_lt_of_le (blk_lt (g := gb270) (o := .cells #[.int .i64 a1_0, .int .i64 a1_1] 32 (0, 0)) zl4) hge) : gb277 ≠ gb270)); have n11_ := Aside0.mk (below_step zl1 hb); clear BK269; clear BK270; clear HB; have HO273 := n0_; have HO276 := n1_; have BK269 := n2_; have BK270 := n3_; have BK277 := n4_; have GW277 := n5_; have GE277 := n6_; have NB269_277 := n7_; have NB277_269 := n8_; have NB270_277 := n9_; have NB277_270 := n10_; have HB := n11_; clear n0_ n1_ n2_ n3_ n4_ n5_ n6_ n7_ n8_ n9_ n10_ n11_; (try clear hb); (try clear hb2); (try clear hk); (try clear hi); (try clear ho0); (try clear ho1); (try clear hgp); (try clear hbox); (try clear hge); (try clear hna_); (try clear hnb_))))
 go_loopg [10, 11] k (fun kq v10 v11 w' => ∃ (x10_1 : List Int) (x11_1 : Int), v11 = .int .i64 x11_1 ∧ Aside0 (impl_StepsOfWalk.l0 kq l2 x10_1 x11_1 a0_0 a0_1 l0_2 a1_0 a1_1 = some (r1, r2)) ∧ Aside0 (kq ≤ k) ∧ Aside0 (Kd.R (Kd.int .i64) 3 w' w.heap.size (fun k_ => some k_ ≠ (v272 : Value).ownBlock) v10 x10_1) ∧ Aside0 (Kd.R (Kd.int .i64) 3 w' w.heap.size (fun k_ => some k_ ≠ (v10 : Value).ownBlock) v272 t271) ∧ Aside0 (Kd.S (Kd.slice 3 (Kd.int .i64)) 22 w' w.heap.size (fun k_ => some k_ ≠ (v10 : Value).ownBlock ∧ some k_ ≠ (v272 : Value).ownBlock) v275 t274) ∧ Aside0 (w'.heap[gb269]? = some (.cells #[.int .i64 a0_0, .int .i64 a0_1, (.slice A0_2 l0_2.length c0_2)] 30 (0, 0))) ∧ Aside0 (w'.heap[gb270]? = some (.cells #[.int .i64 a1_0, .int .i64 a1_1] 32 (0, 0))) ∧ Aside0 (w'.heap[gb277]? = some (.cells #[.int .i64 a0_0, .int .i64 a0_1, (.slice A0_2 l0_2.length c0_2), .int .i64 a1_0, .int .i64 a1_1, v272, v275] 84 (0, 0))) ∧ Aside0 (Below w.heap.size w w'))
 case atStart => exact ⟨(([] : List Int)), (1), zl20, H', ⟨Nat.le_refl _⟩, ⟨zl22⟩, ⟨by (with_reducible repeat (first | apply Kd.R_alloc | apply Kd.R_drewN | apply Kd.R_drew)); exact Kd.R_mono HO273.out (fun _ hk => (by simp [Value.ownBlock]))⟩, ⟨by (with_reducible repeat (first | apply Kd.S_alloc | apply Kd.S_drewN | apply Kd.S_drew)); exact Kd.S_mono HO276.out (fun _ hk => ⟨(by simp [Value.ownBlock]), hk⟩)⟩, ⟨zl3⟩, ⟨zl4⟩, ⟨zl8⟩, ⟨zl2⟩⟩
 case round =>
  clear H'
  try clear c1; try clear c2; try clear p2; try clear c5; try clear c8; try clear hcz10_0; try clear hcz10_1; try clear hcz9_0; try clear hcz9_1; try clear hcz9_2; try clear hfz10_0; try clear hfz10_1; try clear hfz9_0; try clear hfz9_1; try clear hfz9_2
  obtain ⟨x10_1, x11_1, rfl, HA, HK1, HO_10, HO_278005, HO_278006, BK269, BK270, BK277, HB⟩ := hrel
  cases gk with
  | zero => exact absurd HA.out (by simp [impl_StepsOfWalk.l0])
  | succ k1 =>
   have H := HA.out
   clear HA
   simp only [impl_StepsOfWalk.l0] at H
   by_cases c12 : x11_1 < (l2.length : Int)
   rotate_left
   ·rw [if_neg c12] at H
    have c12b0 : decide (x11_1 < (l2.length : Int)) = false := decide_eq_false c12
    clear c12
    simp only [Option.some.injEq, Prod.mk.injEq] at H
    obtain ⟨rfl, rfl⟩ := H
    go_wp2
    repeat ((first | go_quiet (fail) | (refine wp_region_quiet_lit (by kernel_rfl) (by kernel_rfl) ?_; (repeat (any_goals (first | go_big_quiet_step (fail) | quiet_step (fail)))); all_goals (refine wpQuiet_nil ?_; intro _ hw2_; obtain ⟨nq, hw3_⟩ := hw2_; subst hw3_))); try go_wp2)
    go_ret2
    exact ⟨_, by first | rfl | (simp [errW_none, errW_some] <;> rfl) | (simp [*, errW_none, errW_some] <;> rfl), by (with_reducible repeat (first | apply Kd.R_alloc | apply Kd.R_drewN | apply Kd.R_drew)); exact Kd.R_mono HO_10.out (fun _ hk => trivial), zl2⟩
   rw [if_pos c12] at H
   have c12b0 : decide (x11_1 < (l2.length : Int)) = true := decide_eq_true c12
   clear c12
   replace H := Option.bind_eq_some_iff.mp H
   obtain ⟨t280, A130, H⟩ := H
   replace H : (impl_StepsOfWalk.l1 k1 l2 x10_1 x11_1 t280 (t280.length : Int) 0 a0_0 a0_1 l0_2 a1_0 a1_1) = some (r1, r2) := H
   have A13 := Aside0.mk A130
   clear A130
   have H' := Aside0.mk H
   clear H
   have hnb14 := NB270_269.out
   have hnc14 := NB269_270.out
   have hnb15 := NB270_277.out
   have hnc15 := NB277_270.out
   have hcz16_0 : wr.cell? ⟨gb270, 0, none⟩ = some (.int .i64 a1_0) := (blk_cell BK270.out 0).trans rfl
   have hcz16_1 : wr.cell? ⟨gb270, 1, none⟩ = some (.int .i64 a1_1) := (blk_cell BK270.out 1).trans rfl
   have hfz16_0 := blk_frozen BK270.out 0
   have hfz16_1 := blk_frozen BK270.out 1
   go_wp2_with (first | (go_at_call 43; (with_reducible refine (impl_Leaper_steps.calls k1 a1_0 a1_1 t280 _ A13.out).mono ?_); rintro e w17 ⟨v281, rfl, ho0, hb⟩; obtain ⟨na295_, nb295_, hna_, hnb_⟩ := rng_of hb; replace ho0 := rng_new ho0 hna_ hnb_; have n0_ := Aside0.mk (Kd.R_below zl6 hb); have n1_ := Aside0.mk (Kd.R_below zl5 hb); have n2_ := Aside0.mk (Kd.S_elder' (Kd.S_mono (Kd.S_bound zl13) (fun k_ hk_ => (⟨hk_.1, rng_lt hna_ hk_.2.2.1⟩ : _ ∧ k_ ≠ (rngIn na295_ nb295_ k_)))) (Kd.S_base ho0) hb); have n3_ := Aside0.mk (Kd.S_lower (Kd.S_new' (Kd.S_new' (Kd.S_new' ho0 (Kd.R_lt zl6)) (Kd.R_lt zl5)) (Kd.S_lt zl13)) (below_size zl2)); have n4_ := Aside0.mk (blk_below (g := gb269) (o := .cells #[.int .i64 a0_0, .int .i64 a0_1, .slice A0_2 l0_2.length c0_2] 30 (0, 0)) zl3 hb); have n5_ := Aside0.mk (blk_below (g := gb270) (o := .cells #[.int .i64 a1_0, .int .i64 a1_1] 32 (0, 0)) zl4 hb); have n6_ := Aside0.mk (blk_below (g := gb277) (o := .cells #[.int .i64 a0_0, .int .i64 a0_1, .slice A0_2 l0_2.length c0_2, .int .i64 a1_0, .int .i64 a1_1, v272, v275] 84 (0, 0)) zl8 hb); have n7_ := Aside0.mk ((Nat.le_of_eq hnb_.symm : nb295_ ≤ w17.heap.size)); have n8_ := Aside0.mk (below_step zl2 hb); clear HO_10; clear HO_278005; clear HO_278006; clear BK269; clear BK270; clear BK277; clear HB; have HO_10 := n0_; have HO_278005 := n1_; have HO_278006 := n2_; have HO282 := n3_; have BK269 := n4_; have BK270 := n5_; have BK277 := n6_; have HNB295 := n7_; have HB := n8_; clear n0_ n1_ n2_ n3_ n4_ n5_ n6_ n7_ n8_; (try clear hb); (try clear hb2); (try clear hk); (try clear hi); (try clear ho0); (try clear hna_); (try clear hnb_); obtain ⟨Ao18, co18, eo18⟩ := Kd.S_slice HO282.out; subst eo18))
   repeat ((first | go_quiet (first | (go_at_call 43; (with_reducible refine (impl_Leaper_steps.calls k1 a1_0 a1_1 t280 _ A13.out).mono ?_); rintro e w17 ⟨v281, rfl, ho0, hb⟩; obtain ⟨na295_, nb295_, hna_, hnb_⟩ := rng_of hb; replace ho0 := rng_new ho0 hna_ hnb_; have n0_ := Aside0.mk (Kd.R_below zl6 hb); have n1_ := Aside0.mk (Kd.R_below zl5 hb); have n2_ := Aside0.mk (Kd.S_elder' (Kd.S_mono (Kd.S_bound zl13) (fun k_ hk_ => (⟨hk_.1, rng_lt hna_ hk_.2.2.1⟩ : _ ∧ k_ ≠ (rngIn na295_ nb295_ k_)))) (Kd.S_base ho0) hb); have n3_ := Aside0.mk (Kd.S_lower (Kd.S_new' (Kd.S_new' (Kd.S_new' ho0 (Kd.R_lt zl6)) (Kd.R_lt zl5)) (Kd.S_lt zl13)) (below_size zl2)); have n4_ := Aside0.mk (blk_below (g := gb269) (o := .cells #[.int .i64 a0_0, .int .i64 a0_1, .slice A0_2 l0_2.length c0_2] 30 (0, 0)) zl3 hb); have n5_ := Aside0.mk (blk_below (g := gb270) (o := .cells #[.int .i64 a1_0, .int .i64 a1_1] 32 (0, 0)) zl4 hb); have n6_ := Aside0.mk (blk_below (g := gb277) (o := .cells #[.int .i64 a0_0, .int .i64 a0_1, .slice A0_2 l0_2.length c0_2, .int .i64 a1_0, .int .i64 a1_1, v272, v275] 84 (0, 0)) zl8 hb); have n7_ := Aside0.mk ((Nat.le_of_eq hnb_.symm : nb295_ ≤ w17.heap.size)); have n8_ := Aside0.mk (below_step zl2 hb); clear HO_10; clear HO_278005; clear HO_278006; clear BK269; clear BK270; clear BK277; clear HB; have HO_10 := n0_; have HO_278005 := n1_; have HO_278006 := n2_; have HO282 := n3_; have BK269 := n4_; have BK270 := n5_; have BK277 := n6_; have HNB295 := n7_; have HB := n8_; clear n0_ n1_ n2_ n3_ n4_ n5_ n6_ n7_ n8_; (try clear hb); (try clear hb2); (try clear hk); (try clear hi); (try clear ho0); (try clear hna_); (try clear hnb_); obtain ⟨Ao18, co18, eo18⟩ := Kd.S_slice HO282.out; subst eo18)) | (refine wp_region_quiet_lit (by kernel_rfl) (by kernel_rfl) ?_; (repeat (any_goals (first | go_big_quiet_step (first | (go_at_call 43; (with_reducible refine (impl_Leaper_steps.calls k1 a1_0 a1_1 t280 _ A13.out).mono ?_); rintro e w17 ⟨v281, rfl, ho0, hb⟩; obtain ⟨na295_, nb295_, hna_, hnb_⟩ := rng_of hb; replace ho0 := rng_new ho0 hna_ hnb_; have n0_ := Aside0.mk (Kd.R_below zl6 hb); have n1_ := Aside0.mk (Kd.R_below zl5 hb); have n2_ := Aside0.mk (Kd.S_elder' (Kd.S_mono (Kd.S_bound zl13) (fun k_ hk_ => (⟨hk_.1, rng_lt hna_ hk_.2.2.1⟩ : _ ∧ k_ ≠ (rngIn na295_ nb295_ k_)))) (Kd.S_base ho0) hb); have n3_ := Aside0.mk (Kd.S_lower (Kd.S_new' (Kd.S_new' (Kd.S_new' ho0 (Kd.R_lt zl6)) (Kd.R_lt zl5)) (Kd.S_lt zl13)) (below_size zl2)); have n4_ := Aside0.mk (blk_below (g := gb269) (o := .cells #[.int .i64 a0_0, .int .i64 a0_1, .slice A0_2 l0_2.length c0_2] 30 (0, 0)) zl3 hb); have n5_ := Aside0.mk (blk_below (g := gb270) (o := .cells #[.int .i64 a1_0, .int .i64 a1_1] 32 (0, 0)) zl4 hb); have n6_ := Aside0.mk (blk_below (g := gb277) (o := .cells #[.int .i64 a0_0, .int .i64 a0_1, .slice A0_2 l0_2.length c0_2, .int .i64 a1_0, .int .i64 a1_1, v272, v275] 84 (0, 0)) zl8 hb); have n7_ := Aside0.mk ((Nat.le_of_eq hnb_.symm : nb295_ ≤ w17.heap.size)); have n8_ := Aside0.mk (below_step zl2 hb); clear HO_10; clear HO_278005; clear HO_278006; clear BK269; clear BK270; clear BK277; clear HB; have HO_10 := n0_; have HO_278005 := n1_; have HO_278006 := n2_; have HO282 := n3_; have BK269 := n4_; have BK270 := n5_; have BK277 := n6_; have HNB295 := n7_; have HB := n8_; clear n0_ n1_ n2_ n3_ n4_ n5_ n6_ n7_ n8_; (try clear hb); (try clear hb2); (try clear hk); (try clear hi); (try clear ho0); (try clear hna_); (try clear hnb_); obtain ⟨Ao18, co18, eo18⟩ := Kd.S_slice HO282.out; subst eo18)) | quiet_step (first | (go_at_call 43; (with_reducible refine (impl_Leaper_steps.calls k1 a1_0 a1_1 t280 _ A13.out).mono ?_); rintro e w17 ⟨v281, rfl, ho0, hb⟩; obtain ⟨na295_, nb295_, hna_, hnb_⟩ := rng_of hb; replace ho0 := rng_new ho0 hna_ hnb_; have n0_ := Aside0.mk (Kd.R_below zl6 hb); have n1_ := Aside0.mk (Kd.R_below zl5 hb); have n2_ := Aside0.mk (Kd.S_elder' (Kd.S_mono (Kd.S_bound zl13) (fun k_ hk_ => (⟨hk_.1, rng_lt hna_ hk_.2.2.1⟩ : _ ∧ k_ ≠ (rngIn na295_ nb295_ k_)))) (Kd.S_base ho0) hb); have n3_ := Aside0.mk (Kd.S_lower (Kd.S_new' (Kd.S_new' (Kd.S_new' ho0 (Kd.R_lt zl6)) (Kd.R_lt zl5)) (Kd.S_lt zl13)) (below_size zl2)); have n4_ := Aside0.mk (blk_below (g := gb269) (o := .cells #[.int .i64 a0_0, .int .i64 a0_1, .slice A0_2 l0_2.length c0_2] 30 (0, 0)) zl3 hb); have n5_ := Aside0.mk (blk_below (g := gb270) (o := .cells #[.int .i64 a1_0, .int .i64 a1_1] 32 (0, 0)) zl4 hb); have n6_ := Aside0.mk (blk_below (g := gb277) (o := .cells #[.int .i64 a0_0, .int .i64 a0_1, .slice A0_2 l0_2.length c0_2, .int .i64 a1_0, .int .i64 a1_1, v272, v275] 84 (0, 0)) zl8 hb); have n7_ := Aside0.mk ((Nat.le_of_eq hnb_.symm : nb295_ ≤ w17.heap.size)); have n8_ := Aside0.mk (below_step zl2 hb); clear HO_10; clear HO_278005; clear HO_278006; clear BK269; clear BK270; clear BK277; clear HB; have HO_10 := n0_; have HO_278005 := n1_; have HO_278006 := n2_; have HO282 := n3_; have BK269 := n4_; have BK270 := n5_; have BK277 := n6_; have HNB295 := n7_; have HB := n8_; clear n0_ n1_ n2_ n3_ n4_ n5_ n6_ n7_ n8_; (try clear hb); (try clear hb2); (try clear hk); (try clear hi); (try clear ho0); (try clear hna_); (try clear hnb_); obtain ⟨Ao18, co18, eo18⟩ := Kd.S_slice HO282.out; subst eo18))))); all_goals (refine wpQuiet_nil ?_; intro _ hw2_; obtain ⟨nq, hw3_⟩ := hw2_; subst hw3_))); try go_wp2_with (first | (go_at_call 43; (with_reducible refine (impl_Leaper_steps.calls k1 a1_0 a1_1 t280 _ A13.out).mono ?_); rintro e w17 ⟨v281, rfl, ho0, hb⟩; obtain ⟨na295_, nb295_, hna_, hnb_⟩ := rng_of hb; replace ho0 := rng_new ho0 hna_ hnb_; have n0_ := Aside0.mk (Kd.R_below zl6 hb); have n1_ := Aside0.mk (Kd.R_below zl5 hb); have n2_ := Aside0.mk (Kd.S_elder' (Kd.S_mono (Kd.S_bound zl13) (fun k_ hk_ => (⟨hk_.1, rng_lt hna_ hk_.2.2.1⟩ : _ ∧ k_ ≠ (rngIn na295_ nb295_ k_)))) (Kd.S_base ho0) hb); have n3_ := Aside0.mk (Kd.S_lower (Kd.S_new' (Kd.S_new' (Kd.S_new' ho0 (Kd.R_lt zl6)) (Kd.R_lt zl5)) (Kd.S_lt zl13)) (below_size zl2)); have n4_ := Aside0.mk (blk_below (g := gb269) (o := .cells #[.int .i64 a0_0, .int .i64 a0_1, .slice A0_2 l0_2.length c0_2] 30 (0, 0)) zl3 hb); have n5_ := Aside0.mk (blk_below (g := gb270) (o := .cells #[.int .i64 a1_0, .int .i64 a1_1] 32 (0, 0)) zl4 hb); have n6_ := Aside0.mk (blk_below (g := gb277) (o := .cells #[.int .i64 a0_0, .int .i64 a0_1, .slice A0_2 l0_2.length c0_2, .int .i64 a1_0, .int .i64 a1_1, v272, v275] 84 (0, 0)) zl8 hb); have n7_ := Aside0.mk ((Nat.le_of_eq hnb_.symm : nb295_ ≤ w17.heap.size)); have n8_ := Aside0.mk (below_step zl2 hb); clear HO_10; clear HO_278005; clear HO_278006; clear BK269; clear BK270; clear BK277; clear HB; have HO_10 := n0_; have HO_278005 := n1_; have HO_278006 := n2_; have HO282 := n3_; have BK269 := n4_; have BK270 := n5_; have BK277 := n6_; have HNB295 := n7_; have HB := n8_; clear n0_ n1_ n2_ n3_ n4_ n5_ n6_ n7_ n8_; (try clear hb); (try clear hb2); (try clear hk); (try clear hi); (try clear ho0); (try clear hna_); (try clear hnb_); obtain ⟨Ao18, co18, eo18⟩ := Kd.S_slice HO282.out; subst eo18)))
   go_loopg [10, 32] k1 (fun kq v10 v32 w' => ∃ (x10_2 : List Int) (x32_2 : Int), v32 = .int .i64 x32_2 ∧ Aside0 (impl_StepsOfWalk.l1 kq l2 x10_2 x11_1 t280 (t280.length : Int) x32_2 a0_0 a0_1 l0_2 a1_0 a1_1 = some (r1, r2)) ∧ Aside0 (kq ≤ k1) ∧ Aside0 (Kd.R (Kd.int .i64) 3 w' w.heap.size (fun k_ => some k_ ≠ (v272 : Value).ownBlock) v10 x10_2) ∧ Aside0 (Kd.S (Kd.slice 3 (Kd.int .i64)) 22 w' w.heap.size (fun k_ => some k_ ≠ (v10 : Value).ownBlock ∧ some k_ ≠ (v272 : Value).ownBlock ∧ some k_ ≠ (v275 : Value).ownBlock ∧ k_ ≠ (rngOut na295_ nb295_ k_)) (.slice Ao18 t280.length co18) t280) ∧ Aside0 (Kd.R (Kd.int .i64) 3 w' w.heap.size (fun k_ => some k_ ≠ (v10 : Value).ownBlock) v272 t271) ∧ Aside0 (Kd.S (Kd.slice 3 (Kd.int .i64)) 22 w' w.heap.size (fun k_ => some k_ ≠ (v10 : Value).ownBlock ∧ some k_ ≠ ((.slice Ao18 t280.length co18) : Value).ownBlock ∧ some k_ ≠ (v272 : Value).ownBlock ∧ k_ ≠ (rngIn na295_ nb295_ k_)) v275 t274) ∧ Aside0 (w'.heap[gb269]? = some (.cells #[.int .i64 a0_0, .int .i64 a0_1, (.slice A0_2 l0_2.length c0_2)] 30 (0, 0))) ∧ Aside0 (w'.heap[gb270]? = some (.cells #[.int .i64 a1_0, .int .i64 a1_1] 32 (0, 0))) ∧ Aside0 (w'.heap[gb277]? = some (.cells #[.int .i64 a0_0, .int .i64 a0_1, (.slice A0_2 l0_2.length c0_2), .int .i64 a1_0, .int .i64 a1_1, v272, v275] 84 (0, 0))) ∧ Aside0 (nb295_ ≤ w'.heap.size) ∧ Aside0 (Below w.heap.size w w'))
   case atStart => exact ⟨(x10_1), (0), zl20, H', ⟨Nat.le_refl _⟩, ⟨zl6⟩, ⟨by (with_reducible repeat (first | apply Kd.S_alloc | apply Kd.S_drewN | apply Kd.S_drew)); exact Kd.S_mono HO282.out (fun _ hk => ⟨hk.1.1.2, ⟨hk.1.2, ⟨hk.2, hk.1.1.1.2⟩⟩⟩)⟩, ⟨zl5⟩, ⟨by (with_reducible repeat (first | apply Kd.S_alloc | apply Kd.S_drewN | apply Kd.S_drew)); exact Kd.S_mono HO_278006.out (fun _ hk => ⟨hk.1.1.1, ⟨hk.2, ⟨hk.1.1.2, hk.1.2⟩⟩⟩)⟩, ⟨zl3⟩, ⟨zl4⟩, ⟨zl8⟩, ⟨zl21⟩, ⟨zl2⟩⟩
   case round =>
    clear H'
    try clear c1; try clear c2; try clear p2; try clear c5; try clear c8; try clear c12; try clear c12b0; try clear c14; try clear c15; try clear c17; try clear hcz10_0; try clear hcz10_1; try clear hcz16_0; try clear hcz16_1; try clear hcz9_0; try clear hcz9_1; try clear hcz9_2; try clear hfz10_0; try clear hfz10_1; try clear hfz16_0; try clear hfz16_1; try clear hfz9_0; try clear hfz9_1; try clear hfz9_2; try clear p2
    obtain ⟨x10_2, x32_2, rfl, HA, HK2, HO_10, HO_30, HO_278005, HO_278006, BK269, BK270, BK277, HNB295, HB⟩ := hrel
    cases gk with
    | zero => exact absurd HA.out (by simp [impl_StepsOfWalk.l1])
    | succ k2 =>
     have H := HA.out
     clear HA
     simp only [impl_StepsOfWalk.l1] at H
     by_cases c19 : x32_2 < (t280.length : Int)
     rotate_left
     ·rw [if_neg c19] at H
      have c19b0 : decide (x32_2 < (t280.length : Int)) = false := decide_eq_false c19
      clear c19
      have H' := Aside0.mk H
      clear H
      go_wp2
      repeat ((first | go_quiet (fail) | (refine wp_region_quiet_lit (by kernel_rfl) (by kernel_rfl) ?_; (repeat (any_goals (first | go_big_quiet_step (fail) | quiet_step (fail)))); all_goals (refine wpQuiet_nil ?_; intro _ hw2_; obtain ⟨nq, hw3_⟩ := hw2_; subst hw3_))); try go_wp2)
      go_roundg k2
      case measure => have := HK1.out; have := HK2.out; omega
      case rel => exact ⟨(x10_2), (wrap64 (x11_1 + 1)), zl20, H', ⟨by have := HK1.out; have := HK2.out; omega⟩, ⟨zl6⟩, ⟨zl5⟩, ⟨by (with_reducible repeat (first | apply Kd.S_alloc | apply Kd.S_drewN | apply Kd.S_drew)); exact Kd.S_mono HO_278006.out (fun _ hk => ⟨hk.1, hk.2.2.1⟩)⟩, ⟨zl3⟩, ⟨zl4⟩, ⟨zl8⟩, ⟨zl2⟩⟩
     rw [if_pos c19] at H
     have c19b0 : decide (x32_2 < (t280.length : Int)) = true := decide_eq_true c19
     clear c19
     by_cases c20 : 0 ≤ x32_2
     rotate_left
     ·rw [if_neg c20] at H
      exact absurd H (by simp)
     rw [if_pos c20] at H
     have c20b0 : decide (0 ≤ x32_2) = true := decide_eq_true c20
     clear c20
     by_cases c21 : x32_2 < (t280.length : Int)
     rotate_left
     ·rw [if_neg c21] at H
      exact absurd H (by simp)
     rw [if_pos c21] at H
     have c21b0 : decide (x32_2 < (t280.length : Int)) = true := decide_eq_true c21
     clear c21
     by_cases c22 : 0 ≤ x11_1
     rotate_left
     ·rw [if_neg c22] at H
      exact absurd H (by simp)
     rw [if_pos c22] at H
     have c22b0 : decide (0 ≤ x11_1) = true := decide_eq_true c22
     clear c22
     by_cases c23 : x11_1 < (l2.length : Int)
     rotate_left
     ·rw [if_neg c23] at H
      exact absurd H (by simp)
     rw [if_pos c23] at H
     have c23b0 : decide (x11_1 < (l2.length : Int)) = true := decide_eq_true c23
     clear c23
     by_cases c24 : a0_0 = 0
     ·rw [if_pos c24] at H
      exact absurd H (by simp)
     rw [if_neg c24] at H
     have c24b0 : (a0_0 == 0) = false := beq_eq_false_iff_ne.mpr c24
     have c24b1 : (a0_0 != 0) = true := bne_iff_ne.mpr c24
     obtain ⟨ji25, hji25⟩ : ∃ j_ : Int, (wrap64 (x11_1 - 1)) = j_ := ⟨_, rfl⟩
     replace H : (if 0 ≤ (ji25) then (if (ji25) < (l2.length : Int) then (if 0 < ((rd_L1 t280 x32_2).length : Int) then (if (wrap64 ((Int.tmod (rd l2 x11_1) a0_0) - (Int.tmod (rd l2 (ji25)) a0_0))) = (rd (rd_L1 t280 x32_2) 0) then (if 1 < ((rd_L1 t280 x32_2).length : Int) then (if (wrap64 ((wrap64 (Int.tdiv (rd l2 x11_1) a0_0)) - (wrap64 (Int.tdiv (rd l2 (ji25)) a0_0)))) = (rd (rd_L1 t280 x32_2) 1) then (if x10_2.length < 17592186044416 then (impl_StepsOfWalk.l1 k2 l2 (x10_2 ++ [x32_2]) x11_1 t280 (t280.length : Int) (wrap64 (x32_2 + 1)) a0_0 a0_1 l0_2 a1_0 a1_1) else (none)) else (impl_StepsOfWalk.l1 k2 l2 x10_2 x11_1 t280 (t280.length : Int) (wrap64 (x32_2 + 1)) a0_0 a0_1 l0_2 a1_0 a1_1)) else (none)) else (impl_StepsOfWalk.l1 k2 l2 x10_2 x11_1 t280 (t280.length : Int) (wrap64 (x32_2 + 1)) a0_0 a0_1 l0_2 a1_0 a1_1)) else (none)) else (none)) else (none)) = some (r1, r2) := by first | (rw [hji25] at H; exact H) | (simp only [hji25] at H ⊢; exact H)
     have hji25w : (IntKind.i64.wrap (x11_1 - 1)) = ji25 := (i64_w _).trans hji25
     by_cases c26 : 0 ≤ (ji25)
     rotate_left
     ·rw [if_neg c26] at H
      exact absurd H (by simp)
     rw [if_pos c26] at H
     have c26b0 : decide (0 ≤ (ji25)) = true := decide_eq_true c26
     clear c26
     by_cases c27 : (ji25) < (l2.length : Int)
     rotate_left
     ·rw [if_neg c27] at H
      exact absurd H (by simp)
     rw [if_pos c27] at H
     have c27b0 : decide ((ji25) < (l2.length : Int)) = true := decide_eq_true c27
     clear c27
     by_cases c28 : 0 < ((rd_L1 t280 x32_2).length : Int)
     rotate_left
     ·rw [if_neg c28] at H
      exact absurd H (by simp)
     rw [if_pos c28] at H
     have c28b0 : decide (0 < ((rd_L1 t280 x32_2).length : Int)) = true := decide_eq_true c28
     have c28b1 : decide (0 < (rd_L1 t280 x32_2).length) = true := decide_eq_true (by omega)
     clear c28
     by_cases c29 : (wrap64 ((Int.tmod (rd l2 x11_1) a0_0) - (Int.tmod (rd l2 (ji25)) a0_0))) = (rd (rd_L1 t280 x32_2) 0)
     rotate_left
     ·rw [if_neg c29] at H
      have c29b0 : ((wrap64 ((Int.tmod (rd l2 x11_1) a0_0) - (Int.tmod (rd l2 (ji25)) a0_0))) == (rd (rd_L1 t280 x32_2) 0)) = false := beq_eq_false_iff_ne.mpr c29
      have c29b1 : ((wrap64 ((Int.tmod (rd l2 x11_1) a0_0) - (Int.tmod (rd l2 (ji25)) a0_0))) != (rd (rd_L1 t280 x32_2) 0)) = true := bne_iff_ne.mpr c29
      have H' := Aside0.mk H
      clear H
      have p283 : 0 ≤ (x32_2 : Int) := of_decide_eq_true zl10
      have q283 : x32_2 < (t280.length : Int) := of_decide_eq_true zl10
      obtain ⟨ad283, A283_0, c283_0, e283, hx283_0, hl283_0, hi283_0⟩ := at_L1 (Kd.S_reads' HO_30.out).2.2 x32_2 p283 q283
      cases e283
      obtain ⟨ce283, hce283, hMe283, hcc283⟩ := Kd.S_get HO_30.out [] x32_2 p283 zl27
      obtain ⟨ve283_0, rfl, ge283_0⟩ := hMe283
      have hv283_0 := hcc283 0 _ rfl
      rw [Nat.add_zero, show ((Kd.slice 3 (Kd.int .i64))).sz = 1 from rfl, Nat.mul_one] at hv283_0
      replace hv283_0 := Option.some.inj (hv283_0.symm.trans hx283_0)
      rw [hv283_0] at ge283_0
      have HL283_0 := Aside0.mk (show Kd.R (Kd.int .i64) 3 _ _ _ _ (rd_L1 t280 x32_2) from ge283_0)
      clear hv283_0 ge283_0
      clear hcc283 hce283
      have HR283_0 := Aside0.mk hi283_0
      have HC283_0 := Aside0.mk hl283_0
      clear hi283_0 hl283_0
      replace p283 := eq_true p283
      replace q283 := eq_true q283
      have p284 : 0 ≤ (x11_1 : Int) := of_decide_eq_true zl10
      have q284 : x11_1 < (l2.length : Int) := of_decide_eq_true zl10
      obtain ⟨ad284, e284, hx284_0⟩ := Kd.at_int HR2.out x11_1 p284 q284
      cases e284
      (first | replace hx284_0 := (HB.out.cell (World.block_lt_of_cell? w _ hx284_0)).trans hx284_0 | skip)
      replace p284 := eq_true p284
      replace q284 := eq_true q284
      have hnb40 := NB269_270.out
      have hnc40 := NB270_269.out
      have hnb41 := NB269_277.out
      have hnc41 := NB277_269.out
      have hcz42_0 : wr.cell? ⟨gb269, 0, none⟩ = some (.int .i64 a0_0) := (blk_cell BK269.out 0).trans rfl
      have hcz42_1 : wr.cell? ⟨gb269, 1, none⟩ = some (.int .i64 a0_1) := (blk_cell BK269.out 1).trans rfl
      have hcz42_2 : wr.cell? ⟨gb269, 2, none⟩ = some (.slice A0_2 l0_2.length c0_2) := (blk_cell BK269.out 2).trans rfl
      have hfz42_0 := blk_frozen BK269.out 0
      have hfz42_1 := blk_frozen BK269.out 1
      have hfz42_2 := blk_frozen BK269.out 2
      have p285 : 0 ≤ ((ji25) : Int) := of_decide_eq_true zl10
      have q285 : (ji25) < (l2.length : Int) := of_decide_eq_true zl10
      obtain ⟨ad285, e285, hx285_0⟩ := Kd.at_int HR2.out (ji25) p285 q285
      obtain rfl : ad284 = ad285 := (by injection e285)
      (first | replace hx285_0 := (HB.out.cell (World.block_lt_of_cell? w _ hx285_0)).trans hx285_0 | skip)
      replace p285 := eq_true p285
      replace q285 := eq_true q285
      have p286 : 0 ≤ (0 : Int) := (by omega)
      have q286 : 0 < ((rd_L1 t280 x32_2).length : Int) := of_decide_eq_true zl10
      obtain ⟨ad286, e286, hx286_0⟩ := Kd.at_int zl16 0 p286 q286
      cases e286
      have qi286 : (0 < (rd_L1 t280 x32_2).length) = True := eq_true (by omega)
      (try rw [show ((0 : Int)).toNat = 0 from rfl] at hx286_0)
      (try rw [Addr.add_zero'] at hx286_0)
      replace p286 := eq_true p286
      replace q286 := eq_true q286
      go_wp2
      repeat ((first | go_quiet (fail) | (refine wp_region_quiet_lit (by kernel_rfl) (by kernel_rfl) ?_; (repeat (any_goals (first | go_big_quiet_step (fail) | quiet_step (fail)))); all_goals (refine wpQuiet_nil ?_; intro _ hw2_; obtain ⟨nq, hw3_⟩ := hw2_; subst hw3_))); try go_wp2)
      go_roundg k2
      case measure => have := HK1.out; have := HK2.out; omega
      case rel => exact ⟨(x10_2), (wrap64 (x32_2 + 1)), zl20, H', ⟨by have := HK1.out; have := HK2.out; omega⟩, ⟨zl6⟩, ⟨by first | exact HO_30.out | ((with_reducible repeat (first | apply Kd.S_alloc | apply Kd.S_drewN | apply Kd.S_drew)); exact HO_30.out)⟩, ⟨zl5⟩, ⟨zl13⟩, ⟨zl3⟩, ⟨zl4⟩, ⟨zl8⟩, ⟨zl21⟩, ⟨zl2⟩⟩
     rw [if_pos c29] at H
     have c29b0 : ((wrap64 ((Int.tmod (rd l2 x11_1) a0_0) - (Int.tmod (rd l2 (ji25)) a0_0))) == (rd (rd_L1 t280 x32_2) 0)) = true := beq_iff_eq.mpr c29
     have c29b1 : ((wrap64 ((Int.tmod (rd l2 x11_1) a0_0) - (Int.tmod (rd l2 (ji25)) a0_0))) != (rd (rd_L1 t280 x32_2) 0)) = false := bne_eq_false_iff_eq.mpr c29
     clear c29
     by_cases c30 : 1 < ((rd_L1 t280 x32_2).length : Int)
     rotate_left
     ·rw [if_neg c30] at H
      exact absurd H (by simp)
     rw [if_pos c30] at H
     have c30b0 : decide (1 < ((rd_L1 t280 x32_2).length : Int)) = true := decide_eq_true c30
     have c30b1 : decide (1 < (rd_L1 t280 x32_2).length) = true := decide_eq_true (by omega)
     clear c30
     by_cases c31 : (wrap64 ((wrap64 (Int.tdiv (rd l2 x11_1) a0_0)) - (wrap64 (Int.tdiv (rd l2 (ji25)) a0_0)))) = (rd (rd_L1 t280 x32_2) 1)
     rotate_left
     ·rw [if_neg c31] at H
      have c31b0 : ((wrap64 ((wrap64 (Int.tdiv (rd l2 x11_1) a0_0)) - (wrap64 (Int.tdiv (rd l2 (ji25)) a0_0)))) == (rd (rd_L1 t280 x32_2) 1)) = false := beq_eq_false_iff_ne.mpr c31
      have c31b1 : ((wrap64 ((wrap64 (Int.tdiv (rd l2 x11_1) a0_0)) - (wrap64 (Int.tdiv (rd l2 (ji25)) a0_0)))) != (rd (rd_L1 t280 x32_2) 1)) = true := bne_iff_ne.mpr c31
      have H' := Aside0.mk H
      clear H
      have p283 : 0 ≤ (x32_2 : Int) := of_decide_eq_true zl10
      have q283 : x32_2 < (t280.length : Int) := of_decide_eq_true zl10
      obtain ⟨ad283, A283_0, c283_0, e283, hx283_0, hl283_0, hi283_0⟩ := at_L1 (Kd.S_reads' HO_30.out).2.2 x32_2 p283 q283
      cases e283
      obtain ⟨ce283, hce283, hMe283, hcc283⟩ := Kd.S_get HO_30.out [] x32_2 p283 zl27
      obtain ⟨ve283_0, rfl, ge283_0⟩ := hMe283
      have hv283_0 := hcc283 0 _ rfl
      rw [Nat.add_zero, show ((Kd.slice 3 (Kd.int .i64))).sz = 1 from rfl, Nat.mul_one] at hv283_0
      replace hv283_0 := Option.some.inj (hv283_0.symm.trans hx283_0)
      rw [hv283_0] at ge283_0
      have HL283_0 := Aside0.mk (show Kd.R (Kd.int .i64) 3 _ _ _ _ (rd_L1 t280 x32_2) from ge283_0)
      clear hv283_0 ge283_0
      clear hcc283 hce283
      have HR283_0 := Aside0.mk hi283_0
      have HC283_0 := Aside0.mk hl283_0
      clear hi283_0 hl283_0
      replace p283 := eq_true p283
      replace q283 := eq_true q283
      have p284 : 0 ≤ (x11_1 : Int) := of_decide_eq_true zl10
      have q284 : x11_1 < (l2.length : Int) := of_decide_eq_true zl10
      obtain ⟨ad284, e284, hx284_0⟩ := Kd.at_int HR2.out x11_1 p284 q284
      cases e284
      (first | replace hx284_0 := (HB.out.cell (World.block_lt_of_cell? w _ hx284_0)).trans hx284_0 | skip)
      replace p284 := eq_true p284
      replace q284 := eq_true q284
      have hnb37 := NB269_270.out
      have hnc37 := NB270_269.out
      have hnb38 := NB269_277.out
      have hnc38 := NB277_269.out
      have hcz39_0 : wr.cell? ⟨gb269, 0, none⟩ = some (.int .i64 a0_0) := (blk_cell BK269.out 0).trans rfl
      have hcz39_1 : wr.cell? ⟨gb269, 1, none⟩ = some (.int .i64 a0_1) := (blk_cell BK269.out 1).trans rfl
      have hcz39_2 : wr.cell? ⟨gb269, 2, none⟩ = some (.slice A0_2 l0_2.length c0_2) := (blk_cell BK269.out 2).trans rfl
      have hfz39_0 := blk_frozen BK269.out 0
      have hfz39_1 := blk_frozen BK269.out 1
      have hfz39_2 := blk_frozen BK269.out 2
      have p285 : 0 ≤ ((ji25) : Int) := of_decide_eq_true zl10
      have q285 : (ji25) < (l2.length : Int) := of_decide_eq_true zl10
      obtain ⟨ad285, e285, hx285_0⟩ := Kd.at_int HR2.out (ji25) p285 q285
      obtain rfl : ad284 = ad285 := (by injection e285)
      (first | replace hx285_0 := (HB.out.cell (World.block_lt_of_cell? w _ hx285_0)).trans hx285_0 | skip)
      replace p285 := eq_true p285
      replace q285 := eq_true q285
      have p286 : 0 ≤ (0 : Int) := (by omega)
      have q286 : 0 < ((rd_L1 t280 x32_2).length : Int) := of_decide_eq_true zl10
      obtain ⟨ad286, e286, hx286_0⟩ := Kd.at_int zl16 0 p286 q286
      cases e286
      have qi286 : (0 < (rd_L1 t280 x32_2).length) = True := eq_true (by omega)
      (try rw [show ((0 : Int)).toNat = 0 from rfl] at hx286_0)
      (try rw [Addr.add_zero'] at hx286_0)
      replace p286 := eq_true p286
      replace q286 := eq_true q286
      have p287 : 0 ≤ (x11_1 : Int) := of_decide_eq_true zl10
      have q287 : x11_1 < (l2.length : Int) := of_decide_eq_true zl10
      obtain ⟨ad287, e287, hx287_0⟩ := Kd.at_int HR2.out x11_1 p287 q287
      obtain rfl : ad284 = ad287 := (by injection e287)
      (first | replace hx287_0 := (HB.out.cell (World.block_lt_of_cell? w _ hx287_0)).trans hx287_0 | skip)
      replace p287 := eq_true p287
      replace q287 := eq_true q287
      have p288 : 0 ≤ ((ji25) : Int) := of_decide_eq_true zl10
      have q288 : (ji25) < (l2.length : Int) := of_decide_eq_true zl10
      obtain ⟨ad288, e288, hx288_0⟩ := Kd.at_int HR2.out (ji25) p288 q288
      obtain rfl : ad284 = ad288 := (by injection e288)
      (first | replace hx288_0 := (HB.out.cell (World.block_lt_of_cell? w _ hx288_0)).trans hx288_0 | skip)
      replace p288 := eq_true p288
      replace q288 := eq_true q288
      have p289 : 0 ≤ (1 : Int) := (by omega)
      have q289 : 1 < ((rd_L1 t280 x32_2).length : Int) := of_decide_eq_true zl10
      obtain ⟨ad289, e289, hx289_0⟩ := Kd.at_int zl16 1 p289 q289
      obtain rfl : ad286 = ad289 := (by injection e289)
      (try simp only [show (1 : Int).toNat = 1 from rfl, Nat.reduceMul, Nat.reduceEqDiff, Go.Addr.add, ↓reduceIte] at hx289_0)
      have qi289 : (1 < (rd_L1 t280 x32_2).length) = True := eq_true (by omega)
      (try rw [show ((1 : Int)).toNat = 1 from rfl] at hx289_0)
      replace p289 := eq_true p289
      replace q289 := eq_true q289
      go_wp2
      repeat ((first | go_quiet (fail) | (refine wp_region_quiet_lit (by kernel_rfl) (by kernel_rfl) ?_; (repeat (any_goals (first | go_big_quiet_step (fail) | quiet_step (fail)))); all_goals (refine wpQuiet_nil ?_; intro _ hw2_; obtain ⟨nq, hw3_⟩ := hw2_; subst hw3_))); try go_wp2)
      go_roundg k2
      case measure => have := HK1.out; have := HK2.out; omega
      case rel => exact ⟨(x10_2), (wrap64 (x32_2 + 1)), zl20, H', ⟨by have := HK1.out; have := HK2.out; omega⟩, ⟨zl6⟩, ⟨by first | exact HO_30.out | ((with_reducible repeat (first | apply Kd.S_alloc | apply Kd.S_drewN | apply Kd.S_drew)); exact HO_30.out)⟩, ⟨zl5⟩, ⟨zl13⟩, ⟨zl3⟩, ⟨zl4⟩, ⟨zl8⟩, ⟨zl21⟩, ⟨zl2⟩⟩
     rw [if_pos c31] at H
     have c31b0 : ((wrap64 ((wrap64 (Int.tdiv (rd l2 x11_1) a0_0)) - (wrap64 (Int.tdiv (rd l2 (ji25)) a0_0)))) == (rd (rd_L1 t280 x32_2) 1)) = true := beq_iff_eq.mpr c31
     have c31b1 : ((wrap64 ((wrap64 (Int.tdiv (rd l2 x11_1) a0_0)) - (wrap64 (Int.tdiv (rd l2 (ji25)) a0_0)))) != (rd (rd_L1 t280 x32_2) 1)) = false := bne_eq_false_iff_eq.mpr c31
     clear c31
     by_cases c32 : x10_2.length < 17592186044416
     rotate_left
     ·rw [if_neg c32] at H
      exact absurd H (by simp)
     rw [if_pos c32] at H
     have LMc32 := Aside0.mk c32
     clear c32
     obtain ⟨y290, hy290⟩ : ∃ y_ : List Int, y_ = (x10_2 ++ [x32_2]) := ⟨_, rfl⟩
     replace H : (impl_StepsOfWalk.l1 k2 l2 y290 x11_1 t280 (t280.length : Int) (wrap64 (x32_2 + 1)) a0_0 a0_1 l0_2 a1_0 a1_1) = some (r1, r2) := by first | (rw [hy290]; with_reducible exact H) | (have H2_ := (Option.bind_some _ _).symm.trans H; rw [hy290]; with_reducible exact H2_) | (have H2_ := (Option.bind_some _ _).symm.trans H; with_reducible exact H2_) | with_reducible exact H | (rw [hy290]; exact H) | exact H
     have Ny290 := Aside0.mk hy290
     clear hy290
     have H' := Aside0.mk H
     clear H
     have p283 : 0 ≤ (x32_2 : Int) := of_decide_eq_true zl10
     have q283 : x32_2 < (t280.length : Int) := of_decide_eq_true zl10
     obtain ⟨ad283, A283_0, c283_0, e283, hx283_0, hl283_0, hi283_0⟩ := at_L1 (Kd.S_reads' HO_30.out).2.2 x32_2 p283 q283
     cases e283
     obtain ⟨ce283, hce283, hMe283, hcc283⟩ := Kd.S_get HO_30.out [] x32_2 p283 zl27
     obtain ⟨ve283_0, rfl, ge283_0⟩ := hMe283
     have hv283_0 := hcc283 0 _ rfl
     rw [Nat.add_zero, show ((Kd.slice 3 (Kd.int .i64))).sz = 1 from rfl, Nat.mul_one] at hv283_0
     replace hv283_0 := Option.some.inj (hv283_0.symm.trans hx283_0)
     rw [hv283_0] at ge283_0
     have HL283_0 := Aside0.mk (show Kd.R (Kd.int .i64) 3 _ _ _ _ (rd_L1 t280 x32_2) from ge283_0)
     clear hv283_0 ge283_0
     clear hcc283 hce283
     have HR283_0 := Aside0.mk hi283_0
     have HC283_0 := Aside0.mk hl283_0
     clear hi283_0 hl283_0
     replace p283 := eq_true p283
     replace q283 := eq_true q283
     have p284 : 0 ≤ (x11_1 : Int) := of_decide_eq_true zl10
     have q284 : x11_1 < (l2.length : Int) := of_decide_eq_true zl10
     obtain ⟨ad284, e284, hx284_0⟩ := Kd.at_int HR2.out x11_1 p284 q284
     cases e284
     (first | replace hx284_0 := (HB.out.cell (World.block_lt_of_cell? w _ hx284_0)).trans hx284_0 | skip)
     replace p284 := eq_true p284
     replace q284 := eq_true q284
     have hnb33 := NB269_270.out
     have hnc33 := NB270_269.out
     have hnb34 := NB269_277.out
     have hnc34 := NB277_269.out
     have hcz35_0 : wr.cell? ⟨gb269, 0, none⟩ = some (.int .i64 a0_0) := (blk_cell BK269.out 0).trans rfl
     have hcz35_1 : wr.cell? ⟨gb269, 1, none⟩ = some (.int .i64 a0_1) := (blk_cell BK269.out 1).trans rfl
     have hcz35_2 : wr.cell? ⟨gb269, 2, none⟩ = some (.slice A0_2 l0_2.length c0_2) := (blk_cell BK269.out 2).trans rfl
     have hfz35_0 := blk_frozen BK269.out 0
     have hfz35_1 := blk_frozen BK269.out 1
     have hfz35_2 := blk_frozen BK269.out 2
     have p285 : 0 ≤ ((ji25) : Int) := of_decide_eq_true zl10
     have q285 : (ji25) < (l2.length : Int) := of_decide_eq_true zl10
     obtain ⟨ad285, e285, hx285_0⟩ := Kd.at_int HR2.out (ji25) p285 q285
     obtain rfl : ad284 = ad285 := (by injection e285)
     (first | replace hx285_0 := (HB.out.cell (World.block_lt_of_cell? w _ hx285_0)).trans hx285_0 | skip)
     replace p285 := eq_true p285
     replace q285 := eq_true q285
     have p286 : 0 ≤ (0 : Int) := (by omega)
     have q286 : 0 < ((rd_L1 t280 x32_2).length : Int) := of_decide_eq_true zl10
     obtain ⟨ad286, e286, hx286_0⟩ := Kd.at_int zl16 0 p286 q286
     cases e286
     have qi286 : (0 < (rd_L1 t280 x32_2).length) = True := eq_true (by omega)
     (try rw [show ((0 : Int)).toNat = 0 from rfl] at hx286_0)
     (try rw [Addr.add_zero'] at hx286_0)
     replace p286 := eq_true p286
     replace q286 := eq_true q286
     have p287 : 0 ≤ (x11_1 : Int) := of_decide_eq_true zl10
     have q287 : x11_1 < (l2.length : Int) := of_decide_eq_true zl10
     obtain ⟨ad287, e287, hx287_0⟩ := Kd.at_int HR2.out x11_1 p287 q287
     obtain rfl : ad284 = ad287 := (by injection e287)
     (first | replace hx287_0 := (HB.out.cell (World.block_lt_of_cell? w _ hx287_0)).trans hx287_0 | skip)
     replace p287 := eq_true p287
     replace q287 := eq_true q287
     have p288 : 0 ≤ ((ji25) : Int) := of_decide_eq_true zl10
     have q288 : (ji25) < (l2.length : Int) := of_decide_eq_true zl10
     obtain ⟨ad288, e288, hx288_0⟩ := Kd.at_int HR2.out (ji25) p288 q288
     obtain rfl : ad284 = ad288 := (by injection e288)
     (first | replace hx288_0 := (HB.out.cell (World.block_lt_of_cell? w _ hx288_0)).trans hx288_0 | skip)
     replace p288 := eq_true p288
     replace q288 := eq_true q288
     have p289 : 0 ≤ (1 : Int) := (by omega)
     have q289 : 1 < ((rd_L1 t280 x32_2).length : Int) := of_decide_eq_true zl10
     obtain ⟨ad289, e289, hx289_0⟩ := Kd.at_int zl16 1 p289 q289
     obtain rfl : ad286 = ad289 := (by injection e289)
     (try simp only [show (1 : Int).toNat = 1 from rfl, Nat.reduceMul, Nat.reduceEqDiff, Go.Addr.add, ↓reduceIte] at hx289_0)
     have qi289 : (1 < (rd_L1 t280 x32_2).length) = True := eq_true (by omega)
     (try rw [show ((1 : Int)).toNat = 1 from rfl] at hx289_0)
     replace p289 := eq_true p289
     replace q289 := eq_true q289
     go_wp2_with (first | ((with_reducible refine gate_builtin (b := .append) (xs := #[.tmp 79, .tmp 81]) rfl ?_); at_builtin; refine Kd.R_append (Kd.int .i64) (w0 := w) w.heap.size rfl (.tmp 79) (.tmp 81) 22 3 (.int .i64 0) 8 rfl Try.underlying22 info3 rfl (by decide) (by omega) u10 x10_2 x32_2 [.int .i64 x32_2] (fun k_ => some k_ ≠ (v272 : Value).ownBlock) (fun _ => False) rfl rfl ?aP (fun _ hk => hk.elim) ?aF ?aO ?aB ?aS ?aL ?_; (case aP => exact rfl); (case aB => exact zl2); (case aF => exact (fun k_ hk => Kd.fresh' (Kd.R_lt zl5) k_ hk)); (case aO => exact zl6); (case aS => exact (below_size zl2)); (case aL => have := LMc32.out; omega); intro v291 w36 ho hb hg hat; rw [← Ny290.out] at ho; have n0_ := Aside0.mk (Kd.S_after (ok := (fun k_ => some k_ ≠ (v272 : Value).ownBlock ∧ some k_ ≠ (v275 : Value).ownBlock ∧ k_ ≠ (rngOut na295_ nb295_ k_))) zl18 hg hat); have n1_ := Aside0.mk (Kd.R_after (ok := (fun _ => True)) zl19 hg hat); have n2_ := Aside0.mk (Kd.S_after (ok := (fun k_ => some k_ ≠ (.slice (some ad283) t280.length co18 : Value).ownBlock ∧ some k_ ≠ (v272 : Value).ownBlock ∧ k_ ≠ (rngIn na295_ nb295_ k_))) zl17 hg hat); have n3_ := Aside0.mk (blk_grown (g := gb269) (o := .cells #[.int .i64 a0_0, .int .i64 a0_1, .slice A0_2 l0_2.length c0_2] 30 (0, 0)) zl3 hg (Kd.R_ne HO_10.out BK269.out (by decide))); have n4_ := Aside0.mk (blk_grown (g := gb270) (o := .cells #[.int .i64 a1_0, .int .i64 a1_1] 32 (0, 0)) zl4 hg (Kd.R_ne HO_10.out BK270.out (by decide))); have n5_ := Aside0.mk (blk_grown (g := gb277) (o := .cells #[.int .i64 a0_0, .int .i64 a0_1, .slice A0_2 l0_2.length c0_2, .int .i64 a1_0, .int .i64 a1_1, v272, v275] 84 (0, 0)) zl8 hg (Kd.R_ne HO_10.out BK277.out (by decide))); have n6_ := Aside0.mk (Kd.R_after (ok := (fun k_ => some k_ ≠ (.slice (some ad283) t280.length co18 : Value).ownBlock ∧ some k_ ≠ (v272 : Value).ownBlock ∧ some k_ ≠ (v275 : Value).ownBlock ∧ k_ ≠ (rngOut na295_ nb295_ k_))) zl15 hg hat); have n7_ := Aside0.mk (hb); have n8_ := Aside0.mk (ho); have n9_ := Aside0.mk (show nb295_ ≤ w36.heap.size from zl14); clear HO_30; clear HO_278005; clear HO_278006; clear BK269; clear BK270; clear BK277; clear HL283_0; clear HB; clear HNB295; clear HO_10; have HO_30 := n0_; have HO_278005 := n1_; have HO_278006 := n2_; have BK269 := n3_; have BK270 := n4_; have BK277 := n5_; have HL283_0 := n6_; have HB := n7_; have HO292 := n8_; have HNB295 := n9_; clear n0_ n1_ n2_ n3_ n4_ n5_ n6_ n7_ n8_ n9_; clear ho hb hg hat))
     repeat ((first | go_quiet (first | ((with_reducible refine gate_builtin (b := .append) (xs := #[.tmp 79, .tmp 81]) rfl ?_); at_builtin; refine Kd.R_append (Kd.int .i64) (w0 := w) w.heap.size rfl (.tmp 79) (.tmp 81) 22 3 (.int .i64 0) 8 rfl Try.underlying22 info3 rfl (by decide) (by omega) u10 x10_2 x32_2 [.int .i64 x32_2] (fun k_ => some k_ ≠ (v272 : Value).ownBlock) (fun _ => False) rfl rfl ?aP (fun _ hk => hk.elim) ?aF ?aO ?aB ?aS ?aL ?_; (case aP => exact rfl); (case aB => exact zl2); (case aF => exact (fun k_ hk => Kd.fresh' (Kd.R_lt zl5) k_ hk)); (case aO => exact zl6); (case aS => exact (below_size zl2)); (case aL => have := LMc32.out; omega); intro v291 w36 ho hb hg hat; rw [← Ny290.out] at ho; have n0_ := Aside0.mk (Kd.S_after (ok := (fun k_ => some k_ ≠ (v272 : Value).ownBlock ∧ some k_ ≠ (v275 : Value).ownBlock ∧ k_ ≠ (rngOut na295_ nb295_ k_))) zl18 hg hat); have n1_ := Aside0.mk (Kd.R_after (ok := (fun _ => True)) zl19 hg hat); have n2_ := Aside0.mk (Kd.S_after (ok := (fun k_ => some k_ ≠ (.slice (some ad283) t280.length co18 : Value).ownBlock ∧ some k_ ≠ (v272 : Value).ownBlock ∧ k_ ≠ (rngIn na295_ nb295_ k_))) zl17 hg hat); have n3_ := Aside0.mk (blk_grown (g := gb269) (o := .cells #[.int .i64 a0_0, .int .i64 a0_1, .slice A0_2 l0_2.length c0_2] 30 (0, 0)) zl3 hg (Kd.R_ne HO_10.out BK269.out (by decide))); have n4_ := Aside0.mk (blk_grown (g := gb270) (o := .cells #[.int .i64 a1_0, .int .i64 a1_1] 32 (0, 0)) zl4 hg (Kd.R_ne HO_10.out BK270.out (by decide))); have n5_ := Aside0.mk (blk_grown (g := gb277) (o := .cells #[.int .i64 a0_0, .int .i64 a0_1, .slice A0_2 l0_2.length c0_2, .int .i64 a1_0, .int .i64 a1_1, v272, v275] 84 (0, 0)) zl8 hg (Kd.R_ne HO_10.out BK277.out (by decide))); have n6_ := Aside0.mk (Kd.R_after (ok := (fun k_ => some k_ ≠ (.slice (some ad283) t280.length co18 : Value).ownBlock ∧ some k_ ≠ (v272 : Value).ownBlock ∧ some k_ ≠ (v275 : Value).ownBlock ∧ k_ ≠ (rngOut na295_ nb295_ k_))) zl15 hg hat); have n7_ := Aside0.mk (hb); have n8_ := Aside0.mk (ho); have n9_ := Aside0.mk (show nb295_ ≤ w36.heap.size from zl14); clear HO_30; clear HO_278005; clear HO_278006; clear BK269; clear BK270; clear BK277; clear HL283_0; clear HB; clear HNB295; clear HO_10; have HO_30 := n0_; have HO_278005 := n1_; have HO_278006 := n2_; have BK269 := n3_; have BK270 := n4_; have BK277 := n5_; have HL283_0 := n6_; have HB := n7_; have HO292 := n8_; have HNB295 := n9_; clear n0_ n1_ n2_ n3_ n4_ n5_ n6_ n7_ n8_ n9_; clear ho hb hg hat)) | (refine wp_region_quiet_lit (by kernel_rfl) (by kernel_rfl) ?_; (repeat (any_goals (first | go_big_quiet_step (first | ((with_reducible refine gate_builtin (b := .append) (xs := #[.tmp 79, .tmp 81]) rfl ?_); at_builtin; refine Kd.R_append (Kd.int .i64) (w0 := w) w.heap.size rfl (.tmp 79) (.tmp 81) 22 3 (.int .i64 0) 8 rfl Try.underlying22 info3 rfl (by decide) (by omega) u10 x10_2 x32_2 [.int .i64 x32_2] (fun k_ => some k_ ≠ (v272 : Value).ownBlock) (fun _ => False) rfl rfl ?aP (fun _ hk => hk.elim) ?aF ?aO ?aB ?aS ?aL ?_; (case aP => exact rfl); (case aB => exact zl2); (case aF => exact (fun k_ hk => Kd.fresh' (Kd.R_lt zl5) k_ hk)); (case aO => exact zl6); (case aS => exact (below_size zl2)); (case aL => have := LMc32.out; omega); intro v291 w36 ho hb hg hat; rw [← Ny290.out] at ho; have n0_ := Aside0.mk (Kd.S_after (ok := (fun k_ => some k_ ≠ (v272 : Value).ownBlock ∧ some k_ ≠ (v275 : Value).ownBlock ∧ k_ ≠ (rngOut na295_ nb295_ k_))) zl18 hg hat); have n1_ := Aside0.mk (Kd.R_after (ok := (fun _ => True)) zl19 hg hat); have n2_ := Aside0.mk (Kd.S_after (ok := (fun k_ => some k_ ≠ (.slice (some ad283) t280.length co18 : Value).ownBlock ∧ some k_ ≠ (v272 : Value).ownBlock ∧ k_ ≠ (rngIn na295_ nb295_ k_))) zl17 hg hat); have n3_ := Aside0.mk (blk_grown (g := gb269) (o := .cells #[.int .i64 a0_0, .int .i64 a0_1, .slice A0_2 l0_2.length c0_2] 30 (0, 0)) zl3 hg (Kd.R_ne HO_10.out BK269.out (by decide))); have n4_ := Aside0.mk (blk_grown (g := gb270) (o := .cells #[.int .i64 a1_0, .int .i64 a1_1] 32 (0, 0)) zl4 hg (Kd.R_ne HO_10.out BK270.out (by decide))); have n5_ := Aside0.mk (blk_grown (g := gb277) (o := .cells #[.int .i64 a0_0, .int .i64 a0_1, .slice A0_2 l0_2.length c0_2, .int .i64 a1_0, .int .i64 a1_1, v272, v275] 84 (0, 0)) zl8 hg (Kd.R_ne HO_10.out BK277.out (by decide))); have n6_ := Aside0.mk (Kd.R_after (ok := (fun k_ => some k_ ≠ (.slice (some ad283) t280.length co18 : Value).ownBlock ∧ some k_ ≠ (v272 : Value).ownBlock ∧ some k_ ≠ (v275 : Value).ownBlock ∧ k_ ≠ (rngOut na295_ nb295_ k_))) zl15 hg hat); have n7_ := Aside0.mk (hb); have n8_ := Aside0.mk (ho); have n9_ := Aside0.mk (show nb295_ ≤ w36.heap.size from zl14); clear HO_30; clear HO_278005; clear HO_278006; clear BK269; clear BK270; clear BK277; clear HL283_0; clear HB; clear HNB295; clear HO_10; have HO_30 := n0_; have HO_278005 := n1_; have HO_278006 := n2_; have BK269 := n3_; have BK270 := n4_; have BK277 := n5_; have HL283_0 := n6_; have HB := n7_; have HO292 := n8_; have HNB295 := n9_; clear n0_ n1_ n2_ n3_ n4_ n5_ n6_ n7_ n8_ n9_; clear ho hb hg hat)) | quiet_step (first | ((with_reducible refine gate_builtin (b := .append) (xs := #[.tmp 79, .tmp 81]) rfl ?_); at_builtin; refine Kd.R_append (Kd.int .i64) (w0 := w) w.heap.size rfl (.tmp 79) (.tmp 81) 22 3 (.int .i64 0) 8 rfl Try.underlying22 info3 rfl (by decide) (by omega) u10 x10_2 x32_2 [.int .i64 x32_2] (fun k_ => some k_ ≠ (v272 : Value).ownBlock) (fun _ => False) rfl rfl ?aP (fun _ hk => hk.elim) ?aF ?aO ?aB ?aS ?aL ?_; (case aP => exact rfl); (case aB => exact zl2); (case aF => exact (fun k_ hk => Kd.fresh' (Kd.R_lt zl5) k_ hk)); (case aO => exact zl6); (case aS => exact (below_size zl2)); (case aL => have := LMc32.out; omega); intro v291 w36 ho hb hg hat; rw [← Ny290.out] at ho; have n0_ := Aside0.mk (Kd.S_after (ok := (fun k_ => some k_ ≠ (v272 : Value).ownBlock ∧ some k_ ≠ (v275 : Value).ownBlock ∧ k_ ≠ (rngOut na295_ nb295_ k_))) zl18 hg hat); have n1_ := Aside0.mk (Kd.R_after (ok := (fun _ => True)) zl19 hg hat); have n2_ := Aside0.mk (Kd.S_after (ok := (fun k_ => some k_ ≠ (.slice (some ad283) t280.length co18 : Value).ownBlock ∧ some k_ ≠ (v272 : Value).ownBlock ∧ k_ ≠ (rngIn na295_ nb295_ k_))) zl17 hg hat); have n3_ := Aside0.mk (blk_grown (g := gb269) (o := .cells #[.int .i64 a0_0, .int .i64 a0_1, .slice A0_2 l0_2.length c0_2] 30 (0, 0)) zl3 hg (Kd.R_ne HO_10.out BK269.out (by decide))); have n4_ := Aside0.mk (blk_grown (g := gb270) (o := .cells #[.int .i64 a1_0, .int .i64 a1_1] 32 (0, 0)) zl4 hg (Kd.R_ne HO_10.out BK270.out (by decide))); have n5_ := Aside0.mk (blk_grown (g := gb277) (o := .cells #[.int .i64 a0_0, .int .i64 a0_1, .slice A0_2 l0_2.length c0_2, .int .i64 a1_0, .int .i64 a1_1, v272, v275] 84 (0, 0)) zl8 hg (Kd.R_ne HO_10.out BK277.out (by decide))); have n6_ := Aside0.mk (Kd.R_after (ok := (fun k_ => some k_ ≠ (.slice (some ad283) t280.length co18 : Value).ownBlock ∧ some k_ ≠ (v272 : Value).ownBlock ∧ some k_ ≠ (v275 : Value).ownBlock ∧ k_ ≠ (rngOut na295_ nb295_ k_))) zl15 hg hat); have n7_ := Aside0.mk (hb); have n8_ := Aside0.mk (ho); have n9_ := Aside0.mk (show nb295_ ≤ w36.heap.size from zl14); clear HO_30; clear HO_278005; clear HO_278006; clear BK269; clear BK270; clear BK277; clear HL283_0; clear HB; clear HNB295; clear HO_10; have HO_30 := n0_; have HO_278005 := n1_; have HO_278006 := n2_; have BK269 := n3_; have BK270 := n4_; have BK277 := n5_; have HL283_0 := n6_; have HB := n7_; have HO292 := n8_; have HNB295 := n9_; clear n0_ n1_ n2_ n3_ n4_ n5_ n6_ n7_ n8_ n9_; clear ho hb hg hat))))); all_goals (refine wpQuiet_nil ?_; intro _ hw2_; obtain ⟨nq, hw3_⟩ := hw2_; subst hw3_))); try go_wp2_with (first | ((with_reducible refine gate_builtin (b := .append) (xs := #[.tmp 79, .tmp 81]) rfl ?_); at_builtin; refine Kd.R_append (Kd.int .i64) (w0 := w) w.heap.size rfl (.tmp 79) (.tmp 81) 22 3 (.int .i64 0) 8 rfl Try.underlying22 info3 rfl (by decide) (by omega) u10 x10_2 x32_2 [.int .i64 x32_2] (fun k_ => some k_ ≠ (v272 : Value).ownBlock) (fun _ => False) rfl rfl ?aP (fun _ hk => hk.elim) ?aF ?aO ?aB ?aS ?aL ?_; (case aP => exact rfl); (case aB => exact zl2); (case aF => exact (fun k_ hk => Kd.fresh' (Kd.R_lt zl5) k_ hk)); (case aO => exact zl6); (case aS => exact (below_size zl2)); (case aL => have := LMc32.out; omega); intro v291 w36 ho hb hg hat; rw [← Ny290.out] at ho; have n0_ := Aside0.mk (Kd.S_after (ok := (fun k_ => some k_ ≠ (v272 : Value).ownBlock ∧ some k_ ≠ (v275 : Value).ownBlock ∧ k_ ≠ (rngOut na295_ nb295_ k_))) zl18 hg hat); have n1_ := Aside0.mk (Kd.R_after (ok := (fun _ => True)) zl19 hg hat); have n2_ := Aside0.mk (Kd.S_after (ok := (fun k_ => some k_ ≠ (.slice (some ad283) t280.length co18 : Value).ownBlock ∧ some k_ ≠ (v272 : Value).ownBlock ∧ k_ ≠ (rngIn na295_ nb295_ k_))) zl17 hg hat); have n3_ := Aside0.mk (blk_grown (g := gb269) (o := .cells #[.int .i64 a0_0, .int .i64 a0_1, .slice A0_2 l0_2.length c0_2] 30 (0, 0)) zl3 hg (Kd.R_ne HO_10.out BK269.out (by decide))); have n4_ := Aside0.mk (blk_grown (g := gb270) (o := .cells #[.int .i64 a1_0, .int .i64 a1_1] 32 (0, 0)) zl4 hg (Kd.R_ne HO_10.out BK270.out (by decide))); have n5_ := Aside0.mk (blk_grown (g := gb277) (o := .cells #[.int .i64 a0_0, .int .i64 a0_1, .slice A0_2 l0_2.length c0_2, .int .i64 a1_0, .int .i64 a1_1, v272, v275] 84 (0, 0)) zl8 hg (Kd.R_ne HO_10.out BK277.out (by decide))); have n6_ := Aside0.mk (Kd.R_after (ok := (fun k_ => some k_ ≠ (.slice (some ad283) t280.length co18 : Value).ownBlock ∧ some k_ ≠ (v272 : Value).ownBlock ∧ some k_ ≠ (v275 : Value).ownBlock ∧ k_ ≠ (rngOut na295_ nb295_ k_))) zl15 hg hat); have n7_ := Aside0.mk (hb); have n8_ := Aside0.mk (ho); have n9_ := Aside0.mk (show nb295_ ≤ w36.heap.size from zl14); clear HO_30; clear HO_278005; clear HO_278006; clear BK269; clear BK270; clear BK277; clear HL283_0; clear HB; clear HNB295; clear HO_10; have HO_30 := n0_; have HO_278005 := n1_; have HO_278006 := n2_; have BK269 := n3_; have BK270 := n4_; have BK277 := n5_; have HL283_0 := n6_; have HB := n7_; have HO292 := n8_; have HNB295 := n9_; clear n0_ n1_ n2_ n3_ n4_ n5_ n6_ n7_ n8_ n9_; clear ho hb hg hat)))
     go_roundg k2
     case measure => have := HK1.out; have := HK2.out; omega
     case rel => exact ⟨(y290), (wrap64 (x32_2 + 1)), zl20, H', ⟨by have := HK1.out; have := HK2.out; omega⟩, ⟨by first | exact HO292.out | ((with_reducible repeat (first | apply Kd.R_alloc | apply Kd.R_drewN | apply Kd.R_drew)); exact HO292.out)⟩, ⟨by (with_reducible repeat (first | apply Kd.S_alloc | apply Kd.S_drewN | apply Kd.S_drew)); exact Kd.S_mono HO_30.out (fun _ hk => ⟨hk.2, ⟨hk.1.1, ⟨hk.1.2.1, hk.1.2.2⟩⟩⟩)⟩, ⟨by (with_reducible repeat (first | apply Kd.R_alloc | apply Kd.R_drewN | apply Kd.R_drew)); exact Kd.R_mono HO_278005.out (fun _ hk => hk.2)⟩, ⟨by (with_reducible repeat (first | apply Kd.S_alloc | apply Kd.S_drewN | apply Kd.S_drew)); exact Kd.S_mono HO_278006.out (fun _ hk => ⟨hk.2, ⟨hk.1.1, ⟨hk.1.2.1, hk.1.2.2⟩⟩⟩)⟩, ⟨zl3⟩, ⟨zl4⟩, ⟨zl8⟩, ⟨zl21⟩, ⟨zl2⟩⟩

end Go.Proofs.Ytbecdckdbeoomaa.Q

/- Written by a program of this session: functions of the translation as plain Lean functions, each with a proof that the call does what the plain function says; the conditions stand in each theorem. -/
import Derived.Test.YtbecdckdbeoomaaQ0
import Derived.Test.YtbecdckdbeoomaaQ3
import Derived.Test.YtbecdckdbeoomaaQ8
import Derived.Test.YtbecdckdbeoomaaQ15
namespace Go.Proofs.Ytbecdckdbeoomaa.Q
open Go.RowKit Go.Proofs.YtbecdckdbeoomaaW.PrintWords Go.Proofs.YtbecdckdbeoomaaW.PrintLast Go.Proofs.YtbecdckdbeoomaaW.PrintMore
attribute [local go_sem] max2_int min2_int max_two min_two max_three min_three max_four min_four   -- for this text's walks alone
set_option linter.unusedVariables false
set_option linter.unusedSimpArgs false

theorem zaa1 {p : Prop} (h : p := by repeat (first | (with_reducible first | exact HB.out | apply below_alloc | apply pw_below_drewN | apply below_drew1 | refine below_set ?_ GE541.out | refine below_set ?_ GE542.out) | exact HB.out)) : p := h
theorem zaa2 {p : Prop} (h : p := by first | exact BK541.out | ((with_reducible repeat (first | refine blk_drewN ?_ _ | refine blk_drew ?_ | refine blk_alloc ?_ _)); exact BK541.out)) : p := h
theorem zaa3 {p : Prop} (h : p := by repeat (first | (with_reducible first | exact HB.out | apply below_alloc | apply pw_below_drewN | apply below_drew1 | refine below_set ?_ GE541.out | refine below_set ?_ GE542.out | refine below_set ?_ GE549.out) | exact HB.out)) : p := h
theorem zaa4 {p : Prop} (h : p := by repeat (first | (with_reducible first | exact HB.out | apply below_alloc | apply pw_below_drewN | apply below_drew1 | refine below_set ?_ GE541.out) | exact HB.out)) : p := h
theorem zaa5 {p : Prop} (h : p := by first | exact BK542.out | ((with_reducible repeat (first | refine blk_drewN ?_ _ | refine blk_drew ?_ | refine blk_alloc ?_ _)); exact BK542.out)) : p := h
theorem zaa6 {p : Prop} (h : p := by repeat (first | (with_reducible first | exact HB.out | apply below_alloc | apply pw_below_drewN | apply below_drew1) | exact HB.out)) : p := h
theorem zaa7 {p : Prop} (h : p := by first | exact BK549.out | ((with_reducible repeat (first | refine blk_drewN ?_ _ | refine blk_drew ?_ | refine blk_alloc ?_ _)); exact BK549.out)) : p := h
theorem zaa8 {p : Prop} (h : p := by repeat (first | exact (Kd.C_below HR0_2.out HB.out) | (with_reducible refine Kd.C_alloc ?_ _) | (with_reducible refine Kd.C_drewN ?_ _) | (with_reducible refine Kd.C_drew ?_))) : p := h
theorem zaa9 {p : Prop} (h : p := by (try simp only [List.map_toArray, List.map_cons, List.map_nil]); first | done | rfl | (simp only [List.length_drop, List.length_take]; rfl)) : p := h
theorem zaa10 {p : Prop} (h : p := by repeat (first | exact (Kd.C_below HR3.out HB.out) | (with_reducible refine Kd.C_alloc ?_ _) | (with_reducible refine Kd.C_drewN ?_ _) | (with_reducible refine Kd.C_drew ?_))) : p := h
theorem zaa11 {p : Prop} (h : p := by repeat (first | exact (Kd.C_below HR2.out HB.out) | (with_reducible refine Kd.C_alloc ?_ _) | (with_reducible refine Kd.C_drewN ?_ _) | (with_reducible refine Kd.C_drew ?_))) : p := h
theorem zaa12 {p : Prop} (h : p := by first | exact Kd.S_nil _ _ _ _ _ | exact Kd.N_nil _ _ _ _ _ | exact Kd.V_nil _ _ _ _ _ | exact Kd.Q_nil _ _ _ _ _ | exact Kd.R_nil _ _ _ _ _) : p := h
theorem zaa13 {p : Prop} (h : p := by first | exact Kd.R_nil _ _ _ _ _ | exact Kd.N_nil _ _ _ _ _ | exact Kd.V_nil _ _ _ _ _ | exact Kd.Q_nil _ _ _ _ _ | exact Kd.S_nil _ _ _ _ _) : p := h
theorem zaa14 {p : Prop} (h : p := by first | rfl | (simp [errW_none, errW_some] <;> rfl) | (simp [*, errW_none, errW_some] <;> rfl)) : p := h
theorem zaa15 {p : Prop} (h : p := by first | exact HO548.out | ((with_reducible repeat (first | apply Kd.S_alloc | apply Kd.S_drewN | apply Kd.S_drew)); exact HO548.out)) : p := h
theorem zaa16 {p : Prop} (h : p := by first | exact HO545.out | ((with_reducible repeat (first | apply Kd.R_alloc | apply Kd.R_drewN | apply Kd.R_drew)); exact HO545.out)) : p := h
theorem zaa17 {p : Prop} (h : p := by repeat (first | exact (Kd.S_reads' HO548.out).2.2 | (with_reducible refine Kd.C_alloc ?_ _) | (with_reducible refine Kd.C_drewN ?_ _) | (with_reducible refine Kd.C_drew ?_))) : p := h
theorem zaa18 {p : Prop} (h : p := by repeat (first | exact (Kd.R_reads' HO545.out).2.2 | (with_reducible refine Kd.C_alloc ?_ _) | (with_reducible refine Kd.C_drewN ?_ _) | (with_reducible refine Kd.C_drew ?_))) : p := h
theorem zaa19 {p : Prop} (h : p := by first | (with_reducible assumption) | assumption) : p := h
theorem zaa20 {p : Prop} (h : p := by rw [hg]; exact Nat.ne_of_lt (blk_lt (g := gb541) (o := .cells #[.int .i64 a0_0, .int .i64 a0_1, .slice A0_2 l0_2.length c0_2] 30 (0, 0)) zaa2)) : p := h
theorem zaa21 {p : Prop} (h : p := by rw [hg]; exact Nat.ne_of_gt (blk_lt (g := gb541) (o := .cells #[.int .i64 a0_0, .int .i64 a0_1, .slice A0_2 l0_2.length c0_2] 30 (0, 0)) zaa2)) : p := h
theorem zaa22 {p : Prop} (h : p := by rw [hg]; exact (below_size zaa6)) : p := h
theorem zaa23 {p : Prop} (h : p := by rw [hg]; exact (below_size zaa4)) : p := h
/-! ### impl_apart: function 51 -/
def impl_apart.l0 : Nat → List Int → List Int → Int → Int → Int → Int → List Int → Int → Int → List Int → List (List Int) → Option (List Int × (List (List Int)) × Bool)
 | 0, _, _, _, _, _, _, _, _, _, _, _ => none
 | k + 1, x3, x29, x30, x31, x550000, x550001, x550002, x550003, x550004, x550005, x550006 => if x31 < x30 then (if 0 ≤ x31 then (if x31 < (x29.length : Int) then ((slices_Contains_int_int.f k x3 (rd x29 x31)).bind fun t554 => (if t554 = true then (some (([] : List Int), ([] : List (List Int)), false)) else (impl_apart.l0 k x3 x29 x30 (wrap64 (x31 + 1)) x550000 x550001 x550002 x550003 x550004 x550005 x550006))) else (none)) else (none)) else (some (x550005, x550006, true))
def impl_apart.f (k : Nat) (a0_0 : Int) (a0_1 : Int) (l0_2 : List Int) (a1_0 : Int) (a1_1 : Int) (l2 : List Int) (l3 : List Int) : Option (List Int × (List (List Int)) × Bool) := (impl_walkGraph.f k a0_0 a0_1 l0_2 a1_0 a1_1 l2).bind fun bt543 => (if bt543.2.2 = true then ((impl_graph_isWalk.f k a0_0 a0_1 l0_2 a1_0 a1_1 bt543.1 bt543.2.1 l3).bind fun t552 => (if t552 = true then (impl_apart.l0 k l3 l2 (l2.length : Int) 0 a0_0 a0_1 l0_2 a1_0 a1_1 bt543.1 bt543.2.1) else (some (([] : List Int), ([] : List (List Int)), false)))) else (some (([] : List Int), ([] : List (List Int)), false)))
set_option maxHeartbeats 8000000 in
set_option maxRecDepth 100000 in
theorem impl_apart.calls (k : Nat) (a0_0 : Int) (a0_1 : Int) (A0_2 : Option Addr) (c0_2 : Nat) (l0_2 : List Int) (a1_0 : Int) (a1_1 : Int) (A2 : Option Addr) (c2 : Nat) (l2 : List Int) (A3 : Option Addr) (c3 : Nat) (l3 : List Int) (r1 : List Int) (r2 : List (List Int)) (r3 : Bool) (w : World) (hr0_2 : Kd.C (Kd.int .i64) w A0_2 l0_2.length l0_2) (hc0_2 : l0_2.length ≤ c0_2) (hr2 : Kd.C (Kd.int .i64) w A2 l2.length l2) (hc2 : l2.length ≤ c2) (hr3 : Kd.C (Kd.int .i64) w A3 l3.length l3) (hc3 : l3.length ≤ c3) (h : impl_apart.f k a0_0 a0_1 l0_2 a1_0 a1_1 l2 l3 = some (r1, r2, r3)) :
  Calls Try.prog 51 #[.agg #[.int .i64 a0_0, .int .i64 a0_1, .slice A0_2 l0_2.length c0_2], .agg #[.int .i64 a1_0, .int .i64 a1_1], .slice A2 l2.length c2, .slice A3 l3.length c3] w fun e w' => ∃ v0_ v1_ : Value, ∃ pv_ : Value, e = .returned (.tuple #[pv_, .bool r3]) ∧ GPT r3 pv_ w w' #[.int .i64 a0_0, .int .i64 a0_1, .slice A0_2 l0_2.length c0_2, .int .i64 a1_0, .int .i64 a1_1, v0_, v1_] ∧ Kd.R (Kd.int .i64) 3 w' w.heap.size (fun _ => True) v0_ r1 ∧ Kd.S (Kd.slice 3 (Kd.int .i64)) 22 w' w.heap.size (fun k_ => some k_ ≠ (v0_ : Value).ownBlock) v1_ r2 ∧ Below w.heap.size w w' := by
 have hu30 := Try.underlying30
 have hu32 := Try.underlying32
 have HR0_2 := Aside0.mk hr0_2
 have HC0_2 := Aside0.mk hc0_2
 clear hr0_2 hc0_2
 have HR2 := Aside0.mk hr2
 have HC2 := Aside0.mk hc2
 clear hr2 hc2
 have HR3 := Aside0.mk hr3
 have HC3 := Aside0.mk hc3
 clear hr3 hc3
 have HB := Aside0.mk (Below.refl w.heap.size w)
 have H : ((impl_walkGraph.f k a0_0 a0_1 l0_2 a1_0 a1_1 l2).bind fun bt543 => (if bt543.2.2 = true then ((impl_graph_isWalk.f k a0_0 a0_1 l0_2 a1_0 a1_1 bt543.1 bt543.2.1 l3).bind fun t552 => (if t552 = true then (impl_apart.l0 k l3 l2 (l2.length : Int) 0 a0_0 a0_1 l0_2 a1_0 a1_1 bt543.1 bt543.2.1) else (some (([] : List Int), ([] : List (List Int)), false)))) else (some (([] : List Int), ([] : List (List Int)), false)))) = some (r1, r2, r3) := h
 clear h
 replace H := Option.bind_eq_some_iff.mp H
 obtain ⟨⟨t543, t546, t551⟩, A50, H⟩ := H
 replace H : (if t551 = true then ((impl_graph_isWalk.f k a0_0 a0_1 l0_2 a1_0 a1_1 t543 t546 l3).bind fun t552 => (if t552 = true then (impl_apart.l0 k l3 l2 (l2.length : Int) 0 a0_0 a0_1 l0_2 a1_0 a1_1 t543 t546) else (some (([] : List Int), ([] : List (List Int)), false)))) else (some (([] : List Int), ([] : List (List Int)), false))) = some (r1, r2, r3) := H
 have A5 := Aside0.mk A50
 clear A50
 by_cases c6 : t551 = true
 rotate_left
 ·replace c6 := Bool.eq_false_iff.mpr c6
  subst c6
  have H1 : (some (([] : List Int), ([] : List (List Int)), false)) = some (r1, r2, r3) := by rw [if_neg (show ¬ (false = true) by decide)] at H; exact H
  clear H
  have H := H1
  clear H1
  simp only [Option.some.injEq, Prod.mk.injEq] at H
  obtain ⟨rfl, rfl, rfl⟩ := H
  go_enter Try.func51, Try.ntmps51
  go_wp2_with (first | ((with_reducible refine gate_dst (N := 4) rfl ?_); refine box_event ?hg (N := 4) ?hd (cs := #[.int .i64 a0_0, .int .i64 a0_1, .slice A0_2 l0_2.length c0_2]) (t := 30) ?hr ?_; (case hd => rfl); (case hg => rfl); (case hr => first | (go_simp; done) | (go_simp; rfl)); intro gb541 hg w32 hbox hb; have n0_ := Aside0.mk (below_step zaa6 hb); have n1_ := Aside0.mk (hbox); have n2_ := Aside0.mk ((zaa22 : w.heap.size ≤ gb541)); have n3_ := Aside0.mk ((zaa22 : w.heap.size ≤ gb541)); clear HB; have HB := n0_; have BK541 := n1_; have GW541 := n2_; have GE541 := n3_; clear n0_ n1_ n2_ n3_; clear hb hbox hg) | ((with_reducible refine gate_dst (N := 5) rfl ?_); refine box_event ?hg (N := 5) ?hd (cs := #[.int .i64 a1_0, .int .i64 a1_1]) (t := 32) ?hr ?_; (case hd => rfl); (case hg => rfl); (case hr => first | (go_simp; done) | (go_simp; rfl)); intro gb542 hg w33 hbox hb; have n0_ := Aside0.mk (blk_below (g := gb541) (o := .cells #[.int .i64 a0_0, .int .i64 a0_1, .slice A0_2 l0_2.length c0_2] 30 (0, 0)) zaa2 hb); have n1_ := Aside0.mk (below_step zaa4 hb); have n2_ := Aside0.mk (hbox); have n3_ := Aside0.mk ((zaa23 : w.heap.size ≤ gb542)); have n4_ := Aside0.mk ((zaa23 : w.heap.size ≤ gb542)); have n5_ := Aside0.mk ((zaa20 : gb541 ≠ gb542)); have n6_ := Aside0.mk ((zaa21 : gb542 ≠ gb541)); clear BK541; clear HB; have BK541 := n0_; have HB := n1_; have BK542 := n2_; have GW542 := n3_; have GE542 := n4_; have NB541_542 := n5_; have NB542_541 := n6_; clear n0_ n1_ n2_ n3_ n4_ n5_ n6_; clear hb hbox hg; have hnb34 := NB541_542.out; have hnc34 := NB542_541.out; have hcz35_0 : w33.cell? ⟨gb541, 0, none⟩ = some (.int .i64 a0_0) := (blk_cell BK541.out 0).trans rfl; have hcz35_1 : w33.cell? ⟨gb541, 1, none⟩ = some (.int .i64 a0_1) := (blk_cell BK541.out 1).trans rfl; have hcz35_2 : w33.cell? ⟨gb541, 2, none⟩ = some (.slice A0_2 l0_2.length c0_2) := (blk_cell BK541.out 2).trans rfl; have hfz35_0 := blk_frozen BK541.out 0; have hfz35_1 := blk_frozen BK541.out 1; have hfz35_2 := blk_frozen BK541.out 2; have hcz36_0 : w33.cell? ⟨gb542, 0, none⟩ = some (.int .i64 a1_0) := (blk_cell BK542.out 0).trans rfl; have hcz36_1 : w33.cell? ⟨gb542, 1, none⟩ = some (.int .i64 a1_1) := (blk_cell BK542.out 1).trans rfl; have hfz36_0 := blk_frozen BK542.out 0; have hfz36_1 := blk_frozen BK542.out 1) | ((with_reducible refine gate_callee (f := 42) rfl ?_); refine goesL_ (some 18) rfl rfl Try.func42 (by kernel_rfl) rfl #[.agg #[.int .i64 a0_0, .int .i64 a0_1, .slice A0_2 l0_2.length c0_2], .agg #[.int .i64 a1_0, .int .i64 a1_1], .slice A2 l2.length c2] rfl zaa9 ?_; (with_reducible refine (impl_walkGraph.calls k a0_0 a0_1 _ _ l0_2 a1_0 a1_1 _ _ l2 t543 t546 false _ ?side1 ?side2 ?side3 ?side4 A5.out).mono ?_); (case side1 => exact zaa8); (case side2 => exact HC0_2.out); (case side3 => exact zaa11); (case side4 => exact HC2.out); rintro e w37 ⟨v544, v547, pv550, rfl, hgp, ho0, ho1, hb⟩; refine ⟨_, rfl, ?_⟩; obtain rfl := hgp.2 rfl; have n0_ := Aside0.mk (Kd.R_lower ho0 (below_size zaa1)); have n1_ := Aside0.mk (Kd.S_lower ho1 (below_size zaa1)); have n2_ := Aside0.mk (blk_below (g := gb541) (o := .cells #[.int .i64 a0_0, .int .i64 a0_1, .slice A0_2 l0_2.length c0_2] 30 (0, 0)) zaa2 hb); have n3_ := Aside0.mk (blk_below (g := gb542) (o := .cells #[.int .i64 a1_0, .int .i64 a1_1] 32 (0, 0)) zaa5 hb); have n4_ := Aside0.mk (below_step zaa1 hb); clear BK541; clear BK542; clear HB; have HO545 := n0_; have HO548 := n1_; have BK541 := n2_; have BK542 := n3_; have HB := n4_; clear n0_ n1_ n2_ n3_ n4_; (try clear hb); (try clear hb2); (try clear hk); (try clear hi); (try clear ho0); (try clear ho1); (try clear hgp); (try clear hbox); (try clear hge); (try clear hna_); (try clear hnb_)))
  go_ret2
  exact ⟨_, _, _, zaa14, ⟨(fun h_ => by cases h_), fun _ => rfl⟩, zaa13, zaa12, zaa1⟩
 subst c6
 have H1 : ((impl_graph_isWalk.f k a0_0 a0_1 l0_2 a1_0 a1_1 t543 t546 l3).bind fun t552 => (if t552 = true then (impl_apart.l0 k l3 l2 (l2.length : Int) 0 a0_0 a0_1 l0_2 a1_0 a1_1 t543 t546) else (some (([] : List Int), ([] : List (List Int)), false)))) = some (r1, r2, r3) := by rw [if_pos rfl] at H; exact H
 clear H
 have H := H1
 clear H1
 replace H := Option.bind_eq_some_iff.mp H
 obtain ⟨t552, A70, H⟩ := H
 replace H : (if t552 = true then (impl_apart.l0 k l3 l2 (l2.length : Int) 0 a0_0 a0_1 l0_2 a1_0 a1_1 t543 t546) else (some (([] : List Int), ([] : List (List Int)), false))) = some (r1, r2, r3) := H
 have A7 := Aside0.mk A70
 clear A70
 by_cases c8 : t552 = true
 rotate_left
 ·replace c8 := Bool.eq_false_iff.mpr c8
  subst c8
  have H1 : (some (([] : List Int), ([] : List (List Int)), false)) = some (r1, r2, r3) := by rw [if_neg (show ¬ (false = true) by decide)] at H; exact H
  clear H
  have H := H1
  clear H1
  simp only [Option.some.injEq, Prod.mk.injEq] at H
  obtain ⟨rfl, rfl, rfl⟩ := H
  go_enter Try.func51, Try.ntmps51
  go_wp2_with (first | ((with_reducible refine gate_dst (N := 4) rfl ?_); refine box_event ?hg (N := 4) ?hd (cs := #[.int .i64 a0_0, .int .i64 a0_1, .slice A0_2 l0_2.length c0_2]) (t := 30) ?hr ?_; (case hd => rfl); (case hg => rfl); (case hr => first | (go_simp; done) | (go_simp; rfl)); intro gb541 hg w23 hbox hb; have n0_ := Aside0.mk (below_step zaa6 hb); have n1_ := Aside0.mk (hbox); have n2_ := Aside0.mk ((zaa22 : w.heap.size ≤ gb541)); have n3_ := Aside0.mk ((zaa22 : w.heap.size ≤ gb541)); clear HB; have HB := n0_; have BK541 := n1_; have GW541 := n2_; have GE541 := n3_; clear n0_ n1_ n2_ n3_; clear hb hbox hg) | ((with_reducible refine gate_dst (N := 5) rfl ?_); refine box_event ?hg (N := 5) ?hd (cs := #[.int .i64 a1_0, .int .i64 a1_1]) (t := 32) ?hr ?_; (case hd => rfl); (case hg => rfl); (case hr => first | (go_simp; done) | (go_simp; rfl)); intro gb542 hg w24 hbox hb; have n0_ := Aside0.mk (blk_below (g := gb541) (o := .cells #[.int .i64 a0_0, .int .i64 a0_1, .slice A0_2 l0_2.length c0_2] 30 (0, 0)) zaa2 hb); have n1_ := Aside0.mk (below_step zaa4 hb); have n2_ := Aside0.mk (hbox); have n3_ := Aside0.mk ((zaa23 : w.heap.size ≤ gb542)); have n4_ := Aside0.mk ((zaa23 : w.heap.size ≤ gb542)); have n5_ := Aside0.mk ((zaa20 : gb541 ≠ gb542)); have n6_ := Aside0.mk ((zaa21 : gb542 ≠ gb541)); clear BK541; clear HB; have BK541 := n0_; have HB := n1_; have BK542 := n2_; have GW542 := n3_; have GE542 := n4_; have NB541_542 := n5_; have NB542_541 := n6_; clear n0_ n1_ n2_ n3_ n4_ n5_ n6_; clear hb hbox hg; have hnb25 := NB541_542.out; have hnc25 := NB542_541.out; have hcz26_0 : w24.cell? ⟨gb541, 0, none⟩ = some (.int .i64 a0_0) := (blk_cell BK541.out 0).trans rfl; have hcz26_1 : w24.cell? ⟨gb541, 1, none⟩ = some (.int .i64 a0_1) := (blk_cell BK541.out 1).trans rfl; have hcz26_2 : w24.cell? ⟨gb541, 2, none⟩ = some (.slice A0_2 l0_2.length c0_2) := (blk_cell BK541.out 2).trans rfl; have hfz26_0 := blk_frozen BK541.out 0; have hfz26_1 := blk_frozen BK541.out 1; have hfz26_2 := blk_frozen BK541.out 2; have hcz27_0 : w24.cell? ⟨gb542, 0, none⟩ = some (.int .i64 a1_0) := (blk_cell BK542.out 0).trans rfl; have hcz27_1 : w24.cell? ⟨gb542, 1, none⟩ = some (.int .i64 a1_1) := (blk_cell BK542.out 1).trans rfl; have hfz27_0 := blk_frozen BK542.out 0; have hfz27_1 := blk_frozen BK542.out 1) | ((with_reducible refine gate_callee (f := 42) rfl ?_); refine goesL_ (some 18) rfl rfl Try.func42 (by kernel_rfl) rfl #[.agg #[.int .i64 a0_0, .int .i64 a0_1, .slice A0_2 l0_2.length c0_2], .agg #[.int .i64 a1_0, .int .i64 a1_1], .slice A2 l2.length c2] rfl zaa9 ?_; (with_reducible refine (impl_walkGraph.calls k a0_0 a0_1 _ _ l0_2 a1_0 a1_1 _ _ l2 t543 t546 true _ ?side1 ?side2 ?side3 ?side4 A5.out).mono ?_); (case side1 => exact zaa8); (case side2 => exact HC0_2.out); (case side3 => exact zaa11); (case side4 => exact HC2.out); rintro e w28 ⟨v544, v547, pv550, rfl, hgp, ho0, ho1, hb⟩; refine ⟨_, rfl, ?_⟩; obtain ⟨gb549, rfl, hbox, hge⟩ := hgp.1 rfl; have n0_ := Aside0.mk (Kd.R_lower ho0 (below_size zaa1)); have n1_ := Aside0.mk (Kd.S_lower ho1 (below_size zaa1)); have n2_ := Aside0.mk (blk_below (g := gb541) (o := .cells #[.int .i64 a0_0, .int .i64 a0_1, .slice A0_2 l0_2.length c0_2] 30 (0, 0)) zaa2 hb); have n3_ := Aside0.mk (blk_below (g := gb542) (o := .cells #[.int .i64 a1_0, .int .i64 a1_1] 32 (0, 0)) zaa5 hb); have n4_ := Aside0.mk (hbox); have n5_ := Aside0.mk ((Nat.le_trans (by exact (below_size zaa1)) hge : w.heap.size ≤ gb549)); have n6_ := Aside0.mk ((Nat.le_trans (by exact (below_size zaa1)) hge : w.heap.size ≤ gb549)); have n7_ := Aside0.mk ((Nat.ne_of_lt (Nat.lt_of_lt_of_le (blk_lt (g := gb541) (o := .cells #[.int .i64 a0_0, .int .i64 a0_1, .slice A0_2 l0_2.length c0_2] 30 (0, 0)) zaa2) hge) : gb541 ≠ gb549)); have n8_ := Aside0.mk ((Nat.ne_of_gt (Nat.lt_of_lt_of_le (blk_lt (g := gb541) (o := .cells #[.int .i64 a0_0, .int .i64 a0_1, .slice A0_2 l0_2.length c0_2] 30 (0, 0)) zaa2) hge) : gb549 ≠ gb541)); have n9_ := Aside0.mk ((Nat.ne_of_lt (Nat.lt_of_lt_of_le (blk_lt (g := gb542) (o := .cells #[.int .i64 a1_0, .int .i64 a1_1] 32 (0, 0)) zaa5) hge) : gb542 ≠ gb549)); have n10_ := Aside0.mk ((Nat.ne_of_gt (Nat.lt_of_lt_of_le (blk_lt (g := gb542) (o := .cells #[.int .i64 a1_0, .int .i64 a1_1] 32 (0, 0)) zaa5) hge) : gb549 ≠ gb542)); have n11_ := Aside0.mk (below_step zaa1 hb); clear BK541; clear BK542; clear HB; have HO545 := n0_; have HO548 := n1_; have BK541 := n2_; have BK542 := n3_; have BK549 := n4_; have GW549 := n5_; have GE549 := n6_; have NB541_549 := n7_; have NB549_541 := n8_; have NB542_549 := n9_; have NB549_542 := n10_; have HB := n11_; clear n0_ n1_ n2_ n3_ n4_ n5_ n6_ n7_ n8_ n9_ n10_ n11_; (try clear hb); (try clear hb2); (try clear hk); (try clear hi); (try clear ho0); (try clear ho1); (try clear hgp); (try clear hbox); (try clear hge); (try clear hna_); (try clear hnb_); obtain ⟨Ao29, co29, eo29⟩ := Kd.R_slice HO545.out; subst eo29; obtain ⟨Ao30, co30, eo30⟩ := Kd.S_slice HO548.out; subst eo30) | (go_at_call 67; (with_reducible refine (impl_graph_isWalk.calls k gb549 a0_0 a0_1 A0_2 c0_2 l0_2 a1_0 a1_1 Ao29 co29 t543 Ao30 co30 t546 _ _ l3 false _ ?side1 ?side2 ?side3 ?side4 ?side5 ?side6 ?side7 ?side8 ?side9 A7.out).mono ?_); (case side1 => exact zaa7); (case side2 => exact zaa8); (case side3 => exact HC0_2.out); (case side4 => exact zaa18); (case side5 => exact (Kd.R_reads' HO545.out).2.1); (case side6 => exact zaa17); (case side7 => exact (Kd.S_reads' HO548.out).2.1); (case side8 => exact zaa10); (case side9 => exact HC3.out); rintro e w31 ⟨rfl, hb⟩; have n0_ := Aside0.mk (Kd.R_below zaa16 hb); have n1_ := Aside0.mk (Kd.S_below zaa15 hb); have n2_ := Aside0.mk (blk_below (g := gb541) (o := .cells #[.int .i64 a0_0, .int .i64 a0_1, .slice A0_2 l0_2.length c0_2] 30 (0, 0)) zaa2 hb); have n3_ := Aside0.mk (blk_below (g := gb542) (o := .cells #[.int .i64 a1_0, .int .i64 a1_1] 32 (0, 0)) zaa5 hb); have n4_ := Aside0.mk (blk_below (g := gb549) (o := .cells #[.int .i64 a0_0, .int .i64 a0_1, .slice A0_2 l0_2.length c0_2, .int .i64 a1_0, .int .i64 a1_1, .slice Ao29 t543.length co29, .slice Ao30 t546.length co30] 84 (0, 0)) zaa7 hb); have n5_ := Aside0.mk (below_step zaa3 hb); clear HO545; clear HO548; clear BK541; clear BK542; clear BK549; clear HB; have HO545 := n0_; have HO548 := n1_; have BK541 := n2_; have BK542 := n3_; have BK549 := n4_; have HB := n5_; clear n0_ n1_ n2_ n3_ n4_ n5_; (try clear hb); (try clear hb2); (try clear hk); (try clear hi); (try clear hna_); (try clear hnb_)))
  go_ret2
  exact ⟨_, _, _, zaa14, ⟨(fun h_ => by cases h_), fun _ => rfl⟩, zaa13, zaa12, zaa3⟩
 subst c8
 have H1 : (impl_apart.l0 k l3 l2 (l2.length : Int) 0 a0_0 a0_1 l0_2 a1_0 a1_1 t543 t546) = some (r1, r2, r3) := by rw [if_pos rfl] at H; exact H
 clear H
 have H := H1
 clear H1
 have H' := Aside0.mk H
 clear H
 go_enter Try.func51, Try.ntmps51
 go_wp2_with (first | ((with_reducible refine gate_dst (N := 4) rfl ?_); refine box_event ?hg (N := 4) ?hd (cs := #[.int .i64 a0_0, .int .i64 a0_1, .slice A0_2 l0_2.length c0_2]) (t := 30) ?hr ?_; (case hd => rfl); (case hg => rfl); (case hr => first | (go_simp; done) | (go_simp; rfl)); intro gb541 hg w9 hbox hb; have n0_ := Aside0.mk (below_step zaa6 hb); have n1_ := Aside0.mk (hbox); have n2_ := Aside0.mk ((zaa22 : w.heap.size ≤ gb541)); have n3_ := Aside0.mk ((zaa22 : w.heap.size ≤ gb541)); clear HB; have HB := n0_; have BK541 := n1_; have GW541 := n2_; have GE541 := n3_; clear n0_ n1_ n2_ n3_; clear hb hbox hg) | ((with_reducible refine gate_dst (N := 5) rfl ?_); refine box_event ?hg (N := 5) ?hd (cs := #[.int .i64 a1_0, .int .i64 a1_1]) (t := 32) ?hr ?_; (case hd => rfl); (case hg => rfl); (case hr => first | (go_simp; done) | (go_simp; rfl)); intro gb542 hg w10 hbox hb; have n0_ := Aside0.mk (blk_below (g := gb541) (o := .cells #[.int .i64 a0_0, .int .i64 a0_1, .slice A0_2 l0_2.length c0_2] 30 (0, 0)) zaa2 hb); have n1_ := Aside0.mk (below_step zaa4 hb); have n2_ := Aside0.mk (hbox); have n3_ := Aside0.mk ((zaa23 : w.heap.size ≤ gb542)); have n4_ := Aside0.mk ((zaa23 : w.heap.size ≤ gb542)); have n5_ := Aside0.mk ((zaa20 : gb541 ≠ gb542)); have n6_ := Aside0.mk ((zaa21 : gb542 ≠ gb541)); clear BK541; clear HB; have BK541 := n0_; have HB := n1_; have BK542 := n2_; have GW542 := n3_; have GE542 := n4_; have NB541_542 := n5_; have NB542_541 := n6_; clear n0_ n1_ n2_ n3_ n4_ n5_ n6_; clear hb hbox hg; have hnb11 := NB541_542.out; have hnc11 := NB542_541.out; have hcz12_0 : w10.cell? ⟨gb541, 0, none⟩ = some (.int .i64 a0_0) := (blk_cell BK541.out 0).trans rfl; have hcz12_1 : w10.cell? ⟨gb541, 1, none⟩ = some (.int .i64 a0_1) := (blk_cell BK541.out 1).trans rfl; have hcz12_2 : w10.cell? ⟨gb541, 2, none⟩ = some (.slice A0_2 l0_2.length c0_2) := (blk_cell BK541.out 2).trans rfl; have hfz12_0 := blk_frozen BK541.out 0; have hfz12_1 := blk_frozen BK541.out 1; have hfz12_2 := blk_frozen BK541.out 2; have hcz13_0 : w10.cell? ⟨gb542, 0, none⟩ = some (.int .i64 a1_0) := (blk_cell BK542.out 0).trans rfl; have hcz13_1 : w10.cell? ⟨gb542, 1, none⟩ = some (.int .i64 a1_1) := (blk_cell BK542.out 1).trans rfl; have hfz13_0 := blk_frozen BK542.out 0; have hfz13_1 := blk_frozen BK542.out 1) | ((with_reducible refine gate_callee (f := 42) rfl ?_); refine goesL_ (some 18) rfl rfl Try.func42 (by kernel_rfl) rfl #[.agg #[.int .i64 a0_0, .int .i64 a0_1, .slice A0_2 l0_2.length c0_2], .agg #[.int .i64 a1_0, .int .i64 a1_1], .slice A2 l2.length c2] rfl zaa9 ?_; (with_reducible refine (impl_walkGraph.calls k a0_0 a0_1 _ _ l0_2 a1_0 a1_1 _ _ l2 t543 t546 true _ ?side1 ?side2 ?side3 ?side4 A5.out).mono ?_); (case side1 => exact zaa8); (case side2 => exact HC0_2.out); (case side3 => exact zaa11); (case side4 => exact HC2.out); rintro e w14 ⟨v544, v547, pv550, rfl, hgp, ho0, ho1, hb⟩; refine ⟨_, rfl, ?_⟩; obtain ⟨gb549, rfl, hbox, hge⟩ := hgp.1 rfl; have n0_ := Aside0.mk (Kd.R_lower ho0 (below_size zaa1)); have n1_ := Aside0.mk (Kd.S_lower ho1 (below_size zaa1)); have n2_ := Aside0.mk (blk_below (g := gb541) (o := .cells #[.int .i64 a0_0, .int .i64 a0_1, .slice A0_2 l0_2.length c0_2] 30 (0, 0)) zaa2 hb); have n3_ := Aside0.mk (blk_below (g := gb542) (o := .cells #[.int .i64 a1_0, .int .i64 a1_1] 32 (0, 0)) zaa5 hb); have n4_ := Aside0.mk (hbox); have n5_ := Aside0.mk ((Nat.le_trans (by exact (below_size zaa1)) hge : w.heap.size ≤ gb549)); have n6_ := Aside0.mk ((Nat.le_trans (by exact (below_size zaa1)) hge : w.heap.size ≤ gb549)); have n7_ := Aside0.mk ((Nat.ne_of_lt (Nat.lt_of_lt_of_le (blk_lt (g := gb541) (o := .cells #[.int .i64 a0_0, .int .i64 a0_1, .slice A0_2 l0_2.length c0_2] 30 (0, 0)) zaa2) hge) : gb541 ≠ gb549)); have n8_ := Aside0.mk ((Nat.ne_of_gt (Nat.lt_of_lt_of_le (blk_lt (g := gb541) (o := .cells #[.int .i64 a0_0, .int .i64 a0_1, .slice A0_2 l0_2.length c0_2] 30 (0, 0)) zaa2) hge) : gb549 ≠ gb541)); have n9_ := Aside0.mk ((Nat.ne_of_lt (Nat.lt_of_lt_of_le (blk_lt (g := gb542) (o := .cells #[.int .i64 a1_0, .int .i64 a1_1] 32 (0, 0)) zaa5) hge) : gb542 ≠ gb549)); have n10_ := Aside0.mk ((Nat.ne_of_gt (Nat.lt_of_lt_of_le (blk_lt (g := gb542) (o := .cells #[.int .i64 a1_0, .int .i64 a1_1] 32 (0, 0)) zaa5) hge) : gb549 ≠ gb542)); have n11_ := Aside0.mk (below_step zaa1 hb); clear BK541; clear BK542; clear HB; have HO545 := n0_; have HO548 := n1_; have BK541 := n2_; have BK542 := n3_; have BK549 := n4_; have GW549 := n5_; have GE549 := n6_; have NB541_549 := n7_; have NB549_541 := n8_; have NB542_549 := n9_; have NB549_542 := n10_; have HB := n11_; clear n0_ n1_ n2_ n3_ n4_ n5_ n6_ n7_ n8_ n9_ n10_ n11_; (try clear hb); (try clear hb2); (try clear hk); (try clear hi); (try clear ho0); (try clear ho1); (try clear hgp); (try clear hbox); (try clear hge); (try clear hna_); (try clear hnb_); obtain ⟨Ao15, co15, eo15⟩ := Kd.R_slice HO545.out; subst eo15; obtain ⟨Ao16, co16, eo16⟩ := Kd.S_slice HO548.out; subst eo16) | (go_at_call 67; (with_reducible refine (impl_graph_isWalk.calls k gb549 a0_0 a0_1 A0_2 c0_2 l0_2 a1_0 a1_1 Ao15 co15 t543 Ao16 co16 t546 _ _ l3 true _ ?side1 ?side2 ?side3 ?side4 ?side5 ?side6 ?side7 ?side8 ?side9 A7.out).mono ?_); (case side1 => exact zaa7); (case side2 => exact zaa8); (case side3 => exact HC0_2.out); (case side4 => exact zaa18); (case side5 => exact (Kd.R_reads' HO545.out).2.1); (case side6 => exact zaa17); (case side7 => exact (Kd.S_reads' HO548.out).2.1); (case side8 => exact zaa10); (case side9 => exact HC3.out); rintro e w17 ⟨rfl, hb⟩; have n0_ := Aside0.mk (Kd.R_below zaa16 hb); have n1_ := Aside0.mk (Kd.S_below zaa15 hb); have n2_ := Aside0.mk (blk_below (g := gb541) (o := .cells #[.int .i64 a0_0, .int .i64 a0_1, .slice A0_2 l0_2.length c0_2] 30 (0, 0)) zaa2 hb); have n3_ := Aside0.mk (blk_below (g := gb542) (o := .cells #[.int .i64 a1_0, .int .i64 a1_1] 32 (0, 0)) zaa5 hb); have n4_ := Aside0.mk (blk_below (g := gb549) (o := .cells #[.int .i64 a0_0, .int .i64 a0_1, .slice A0_2 l0_2.length c0_2, .int .i64 a1_0, .int .i64 a1_1, .slice Ao15 t543.length co15, .slice Ao16 t546.length co16] 84 (0, 0)) zaa7 hb); have n5_ := Aside0.mk (below_step zaa3 hb); clear HO545; clear HO548; clear BK541; clear BK542; clear BK549; clear HB; have HO545 := n0_; have HO548 := n1_; have BK541 := n2_; have BK542 := n3_; have BK549 := n4_; have HB := n5_; clear n0_ n1_ n2_ n3_ n4_ n5_; (try clear hb); (try clear hb2); (try clear hk); (try clear hi); (try clear hna_); (try clear hnb_)))
 go_loopg [31] k (fun kq v31 w' => ∃ (x31_1 : Int), v31 = .int .i64 x31_1 ∧ Aside0 (impl_apart.l0 kq l3 l2 (l2.length : Int) x31_1 a0_0 a0_1 l0_2 a1_0 a1_1 t543 t546 = some (r1, r2, r3)) ∧ Aside0 (kq ≤ k) ∧ Aside0 (Kd.R (Kd.int .i64) 3 w' w.heap.size (fun _ => True) (.slice Ao15 t543.length co15) t543) ∧ Aside0 (Kd.S (Kd.slice 3 (Kd.int .i64)) 22 w' w.heap.size (fun k_ => some k_ ≠ ((.slice Ao15 t543.length co15) : Value).ownBlock) (.slice Ao16 t546.length co16) t546) ∧ Aside0 (w'.heap[gb541]? = some (.cells #[.int .i64 a0_0, .int .i64 a0_1, (.slice A0_2 l0_2.length c0_2)] 30 (0, 0))) ∧ Aside0 (w'.heap[gb542]? = some (.cells #[.int .i64 a1_0, .int .i64 a1_1] 32 (0, 0))) ∧ Aside0 (w'.heap[gb549]? = some (.cells #[.int .i64 a0_0, .int .i64 a0_1, (.slice A0_2 l0_2.length c0_2), .int .i64 a1_0, .int .i64 a1_1, (.slice Ao15 t543.length co15), (.slice Ao16 t546.length co16)] 84 (0, 0))) ∧ Aside0 (Below w.heap.size w w'))
 case atStart => exact ⟨(0), (by first | rfl | (simp; done) | (simp [*]; done)), H', ⟨Nat.le_refl _⟩, ⟨zaa16⟩, ⟨zaa15⟩, ⟨zaa2⟩, ⟨zaa5⟩, ⟨zaa7⟩, ⟨zaa3⟩⟩
 case round =>
  clear H'
  try clear c1; try clear c2; try clear p2; try clear c3; try clear c4; try clear c5; try clear c6; try clear c8; try clear c11; try clear hcz12_0; try clear hcz12_1; try clear hcz12_2; try clear hcz13_0; try clear hcz13_1; try clear hfz12_0; try clear hfz12_1; try clear hfz12_2; try clear hfz13_0; try clear hfz13_1
  obtain ⟨x31_1, rfl, HA, HK1, HO_550005, HO_550006, BK541, BK542, BK549, HB⟩ := hrel
  cases gk with
  | zero => exact absurd HA.out (by simp [impl_apart.l0])
  | succ k1 =>
   have H := HA.out
   clear HA
   simp only [impl_apart.l0] at H
   by_cases c18 : x31_1 < (l2.length : Int)
   rotate_left
   ·rw [if_neg c18] at H
    have c18b0 : decide (x31_1 < (l2.length : Int)) = false := decide_eq_false c18
    clear c18
    simp only [Option.some.injEq, Prod.mk.injEq] at H
    obtain ⟨rfl, rfl, rfl⟩ := H
    go_wp2
    go_ret2
    exact ⟨_, _, _, zaa14, ⟨fun _ => ⟨_, rfl, zaa7, GW549.out⟩, (fun h_ => by cases h_)⟩, by first | exact HO_550005.out | ((with_reducible repeat (first | apply Kd.R_alloc | apply Kd.R_drewN | apply Kd.R_drew)); exact HO_550005.out), by first | exact HO_550006.out | ((with_reducible repeat (first | apply Kd.S_alloc | apply Kd.S_drewN | apply Kd.S_drew)); exact HO_550006.out), zaa3⟩
   rw [if_pos c18] at H
   have c18b0 : decide (x31_1 < (l2.length : Int)) = true := decide_eq_true c18
   clear c18
   by_cases c19 : 0 ≤ x31_1
   rotate_left
   ·rw [if_neg c19] at H
    exact absurd H (by simp)
   rw [if_pos c19] at H
   have c19b0 : decide (0 ≤ x31_1) = true := decide_eq_true c19
   clear c19
   by_cases c20 : x31_1 < (l2.length : Int)
   rotate_left
   ·rw [if_neg c20] at H
    exact absurd H (by simp)
   rw [if_pos c20] at H
   have c20b0 : decide (x31_1 < (l2.length : Int)) = true := decide_eq_true c20
   clear c20
   replace H := Option.bind_eq_some_iff.mp H
   obtain ⟨t554, A210, H⟩ := H
   replace H : (if t554 = true then (some (([] : List Int), ([] : List (List Int)), false)) else (impl_apart.l0 k1 l3 l2 (l2.length : Int) (wrap64 (x31_1 + 1)) a0_0 a0_1 l0_2 a1_0 a1_1 t543 t546)) = some (r1, r2, r3) := H
   have A21 := Aside0.mk A210
   clear A210
   by_cases c22 : t554 = true
   ·subst c22
    have H1 : (some (([] : List Int), ([] : List (List Int)), false)) = some (r1, r2, r3) := by rw [if_pos rfl] at H; exact H
    clear H
    have H := H1
    clear H1
    simp only [Option.some.injEq, Prod.mk.injEq] at H
    obtain ⟨rfl, rfl, rfl⟩ := H
    have p553 : 0 ≤ (x31_1 : Int) := of_decide_eq_true zaa19
    have q553 : x31_1 < (l2.length : Int) := of_decide_eq_true zaa19
    obtain ⟨ad553, e553, hx553_0⟩ := Kd.at_int HR2.out x31_1 p553 q553
    cases e553
    (first | replace hx553_0 := (HB.out.cell (World.block_lt_of_cell? w _ hx553_0)).trans hx553_0 | skip)
    replace p553 := eq_true p553
    replace q553 := eq_true q553
    go_wp2_with (first | ((with_reducible refine gate_callee (f := 82) rfl ?_); refine goesL_ (some 37) rfl rfl Try.func82 (by kernel_rfl) rfl #[.slice A3 l3.length c3, .int .i64 (rd l2 x31_1)] rfl zaa9 ?_; (with_reducible refine (slices_Contains_int_int.calls k1 _ _ l3 (rd l2 x31_1) true _ ?side1 ?side2 A21.out).mono ?_); (case side1 => exact zaa10); (case side2 => exact HC3.out); rintro e w' ⟨rfl, ⟨nd, rfl⟩⟩; refine ⟨_, rfl, ?_⟩))
    go_ret2
    exact ⟨_, _, _, zaa14, ⟨(fun h_ => by cases h_), fun _ => rfl⟩, zaa13, zaa12, zaa3⟩
   replace c22 := Bool.eq_false_iff.mpr c22
   subst c22
   have H1 : (impl_apart.l0 k1 l3 l2 (l2.length : Int) (wrap64 (x31_1 + 1)) a0_0 a0_1 l0_2 a1_0 a1_1 t543 t546) = some (r1, r2, r3) := by rw [if_neg (show ¬ (false = true) by decide)] at H; exact H
   clear H
   have H := H1
   clear H1
   have H' := Aside0.mk H
   clear H
   have p553 : 0 ≤ (x31_1 : Int) := of_decide_eq_true zaa19
   have q553 : x31_1 < (l2.length : Int) := of_decide_eq_true zaa19
   obtain ⟨ad553, e553, hx553_0⟩ := Kd.at_int HR2.out x31_1 p553 q553
   cases e553
   (first | replace hx553_0 := (HB.out.cell (World.block_lt_of_cell? w _ hx553_0)).trans hx553_0 | skip)
   replace p553 := eq_true p553
   replace q553 := eq_true q553
   go_wp2_with (first | ((with_reducible refine gate_callee (f := 82) rfl ?_); refine goesL_ (some 37) rfl rfl Try.func82 (by kernel_rfl) rfl #[.slice A3 l3.length c3, .int .i64 (rd l2 x31_1)] rfl zaa9 ?_; (with_reducible refine (slices_Contains_int_int.calls k1 _ _ l3 (rd l2 x31_1) false _ ?side1 ?side2 A21.out).mono ?_); (case side1 => exact zaa10); (case side2 => exact HC3.out); rintro e w' ⟨rfl, ⟨nd, rfl⟩⟩; refine ⟨_, rfl, ?_⟩))
   go_roundg k1
   case measure => have := HK1.out; omega
   case rel => exact ⟨(wrap64 (x31_1 + 1)), (by first | rfl | (simp; done) | (simp [*]; done)), H', ⟨by have := HK1.out; omega⟩, ⟨by first | exact HO_550005.out | ((with_reducible repeat (first | apply Kd.R_alloc | apply Kd.R_drewN | apply Kd.R_drew)); exact HO_550005.out)⟩, ⟨by first | exact HO_550006.out | ((with_reducible repeat (first | apply Kd.S_alloc | apply Kd.S_drewN | apply Kd.S_drew)); exact HO_550006.out)⟩, ⟨zaa2⟩, ⟨zaa5⟩, ⟨zaa7⟩, ⟨zaa3⟩⟩

end Go.Proofs.Ytbecdckdbeoomaa.Q

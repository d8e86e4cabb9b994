/- Written by a program of this session: functions of the translation as plain Lean functions, each with a proof that the call does what the plain function says; the conditions stand in each theorem. -/
import Derived.Test.YthoklbeenjppbaaQ0
import Derived.Test.YthoklbeenjppbaaQ1
import Derived.Test.YthoklbeenjppbaaQ4
import Derived.Test.YthoklbeenjppbaaQ28
namespace Go.Proofs.Ythoklbeenjppbaa.Q
open Go.RowKit Go.Proofs.YthoklbeenjppbaaW.PrintWords Go.Proofs.YthoklbeenjppbaaW.PrintLast Go.Proofs.YthoklbeenjppbaaW.PrintMore
attribute [local go_sem] max2_int min2_int max_two min_two max_three min_three max_four min_four   -- for this text's walks alone
set_option linter.unusedVariables false
set_option linter.unusedSimpArgs false

theorem zao1 {p : Prop} (h : p := by repeat (first | (with_reducible first | exact HB.out | apply below_alloc | apply pw_below_drewN | apply below_drew1 | refine below_set ?_ GE1065.out | refine below_set ?_ GE1066.out) | exact HB.out)) : p := h
theorem zao2 {p : Prop} (h : p := by repeat (first | (with_reducible first | exact HB.out | apply below_alloc | apply pw_below_drewN | apply below_drew1) | exact HB.out)) : p := h
theorem zao3 {p : Prop} (h : p := by (with_reducible repeat (first | refine blk_drewN ?_ _ | refine blk_drew ?_ | refine blk_alloc ?_ _)); exact BK1065.out) : p := h
theorem zao4 {p : Prop} (h : p := by repeat (first | (with_reducible first | exact HB.out | apply below_alloc | apply pw_below_drewN | apply below_drew1 | refine below_set ?_ GE1044.out) | exact HB.out)) : p := h
theorem zao5 {p : Prop} (h : p := by repeat (first | (with_reducible first | exact HB.out | apply below_alloc | apply pw_below_drewN | apply below_drew1 | refine below_set ?_ GE1065.out) | exact HB.out)) : p := h
theorem zao6 {p : Prop} (h : p := by repeat (first | exact (Kd.C_below HR0_2.out HB.out) | (with_reducible refine Kd.C_alloc ?_ _) | (with_reducible refine Kd.C_drewN ?_ _) | (with_reducible refine Kd.C_drew ?_))) : p := h
theorem zao7 {p : Prop} (h : p := by (with_reducible repeat (first | refine blk_drewN ?_ _ | refine blk_drew ?_ | refine blk_alloc ?_ _)); exact BK1044.out) : p := h
theorem zao8 {p : Prop} (h : p := by (with_reducible repeat (first | refine blk_drewN ?_ _ | refine blk_drew ?_ | refine blk_alloc ?_ _)); exact BK1066.out) : p := h
theorem zao9 {p : Prop} (h : p := by (with_reducible repeat (first | refine blk_drewN ?_ _ | refine blk_drew ?_ | refine blk_alloc ?_ _)); exact BK1040.out) : p := h
theorem zao10 {p : Prop} (h : p := by first | (with_reducible assumption) | assumption) : p := h
theorem zao11 {p : Prop} (h : p := by repeat (first | (with_reducible first | exact HB.out | apply below_alloc | apply pw_below_drewN | apply below_drew1 | refine below_set ?_ GE1040.out) | exact HB.out)) : p := h
theorem zao12 {p : Prop} (h : p := by repeat (first | (with_reducible first | exact HB.out | apply below_alloc | apply pw_below_drewN | apply below_drew1 | refine below_set ?_ GE1040.out | refine below_set ?_ GE1041.out) | exact HB.out)) : p := h
theorem zao13 {p : Prop} (h : p := by repeat (first | (with_reducible first | exact HB.out | apply below_alloc | apply pw_below_drewN | apply below_drew1 | refine below_set ?_ GE1065.out | refine below_set ?_ GE1066.out | refine below_set ?_ GE1073.out) | exact HB.out)) : p := h
theorem zao15 {p : Prop} (h : p := by (try simp only [List.map_toArray, List.map_cons, List.map_nil]); first | done | rfl | (simp only [List.length_drop, List.length_take]; rfl)) : p := h
theorem zao16 {p : Prop} (h : p := by (with_reducible repeat (first | refine blk_drewN ?_ _ | refine blk_drew ?_ | refine blk_alloc ?_ _)); exact BK1073.out) : p := h
theorem zao17 {p : Prop} (h : p := by first | rfl | (simp [errW_none, errW_some] <;> rfl) | (simp [*, errW_none, errW_some] <;> rfl)) : p := h
theorem zao18 {p : Prop} (h : p := by repeat (first | exact (Kd.C_below HR2.out HB.out) | (with_reducible refine Kd.C_alloc ?_ _) | (with_reducible refine Kd.C_drewN ?_ _) | (with_reducible refine Kd.C_drew ?_))) : p := h
theorem zao19 {p : Prop} (h : p := by (with_reducible repeat (first | refine blk_drewN ?_ _ | refine blk_drew ?_ | refine blk_alloc ?_ _)); exact BK1041.out) : p := h
theorem zao20 {p : Prop} (h : p := by (with_reducible repeat (first | apply Kd.S_alloc | apply Kd.S_drewN | apply Kd.S_drew)); exact HO1072.out) : p := h
theorem zao21 {p : Prop} (h : p := by (with_reducible repeat (first | apply Kd.R_alloc | apply Kd.R_drewN | apply Kd.R_drew)); exact HO1069.out) : p := h
theorem zao22 {p : Prop} (h : p := by (with_reducible repeat (first | apply Kd.R_alloc | apply Kd.R_drewN | apply Kd.R_drew)); exact HO1050.out) : p := h
theorem zao23 {p : Prop} (h : p := by (with_reducible repeat (first | apply Kd.R_alloc | apply Kd.R_drewN | apply Kd.R_drew)); exact HO1047.out) : p := h
theorem zao24 {p : Prop} (h : p := by simp only [putAll, Act.put, List.setIfInBounds_toArray, List.set_cons_zero, List.set_cons_succ]) : p := h
theorem zao25 {p : Prop} (h : p := by repeat (first | exact (Kd.S_reads' HO1072.out).2.2 | (with_reducible refine Kd.C_alloc ?_ _) | (with_reducible refine Kd.C_drewN ?_ _) | (with_reducible refine Kd.C_drew ?_))) : p := h
theorem zao26 {p : Prop} (h : p := by repeat (first | exact (Kd.R_reads' HO1069.out).2.2 | (with_reducible refine Kd.C_alloc ?_ _) | (with_reducible refine Kd.C_drewN ?_ _) | (with_reducible refine Kd.C_drew ?_))) : p := h
theorem zao27 {p : Prop} (h : p := by first | exact Kd.S_nil _ _ _ _ _ | exact Kd.N_nil _ _ _ _ _ | exact Kd.V_nil _ _ _ _ _ | exact Kd.Q_nil _ _ _ _ _ | exact Kd.R_nil _ _ _ _ _) : p := h
theorem zao28 {p : Prop} (h : p := by first | exact Kd.R_nil _ _ _ _ _ | exact Kd.N_nil _ _ _ _ _ | exact Kd.V_nil _ _ _ _ _ | exact Kd.Q_nil _ _ _ _ _ | exact Kd.S_nil _ _ _ _ _) : p := h
theorem zao29 {p : Prop} (h : p := by (with_reducible repeat (first | apply Kd.R_alloc | apply Kd.R_drewN | apply Kd.R_drew)); exact Kd.R_mono HO1050.out (fun _ hk => hk.2)) : p := h
theorem zao30 {p : Prop} (h : p := by (with_reducible repeat (first | apply Kd.R_alloc | apply Kd.R_drewN | apply Kd.R_drew)); exact Kd.R_mono HO1047.out (fun _ hk => hk.2)) : p := h
theorem zao31 {p : Prop} (h : p := by rw [hg]; exact (below_size zao2)) : p := h
theorem zao32 {p : Prop} (h : p := by rw [hg]; exact Nat.ne_of_lt (blk_lt (g := gb1065) (o := .cells #[.int .i64 a0_0, .int .i64 a0_1, .slice A0_2 l0_2.length c0_2] 30 (0, 0)) zao3)) : p := h
theorem zao33 {p : Prop} (h : p := by rw [hg]; exact Nat.ne_of_gt (blk_lt (g := gb1065) (o := .cells #[.int .i64 a0_0, .int .i64 a0_1, .slice A0_2 l0_2.length c0_2] 30 (0, 0)) zao3)) : p := h
theorem zao34 {p : Prop} (h : p := by rw [hg]; exact (below_size zao5)) : p := h
theorem zao35 {p : Prop} (h : p := by rw [hg]; exact Nat.ne_of_lt (blk_lt (g := gb1040) (o := .cells #[.int .i64 a0_0, .int .i64 a0_1, .slice A0_2 l0_2.length c0_2] 30 (0, 0)) zao9)) : p := h
theorem zao36 {p : Prop} (h : p := by rw [hg]; exact Nat.ne_of_gt (blk_lt (g := gb1040) (o := .cells #[.int .i64 a0_0, .int .i64 a0_1, .slice A0_2 l0_2.length c0_2] 30 (0, 0)) zao9)) : p := h
/-! ### spec_blWalk: function 78 -/
def spec_blWalk.f (k : Nat) (a0_0 : Int) (a0_1 : Int) (l0_2 : List Int) (a1_0 : Int) (a1_1 : Int) (l2 : List Int) : Option (Bool) := (spec_boTwo.f k a0_0 a0_1 l0_2 a1_0 a1_1).bind fun t1042 => (if t1042 = true then ((spec_toWalk.f k a0_0 a0_1 l0_2 a1_0 a1_1 l2).bind fun t1043 => (some t1043)) else (some false))
set_option maxHeartbeats 8000000 in
set_option maxRecDepth 100000 in
theorem spec_blWalk.calls (k : Nat) (a0_0 : Int) (a0_1 : Int) (A0_2 : Option Addr) (c0_2 : Nat) (l0_2 : List Int) (a1_0 : Int) (a1_1 : Int) (A2 : Option Addr) (c2 : Nat) (l2 : List Int) (r : Bool) (w : World) (hr0_2 : Kd.C (Kd.int .i64) w A0_2 l0_2.length l0_2) (hc0_2 : l0_2.length ≤ c0_2) (hr2 : Kd.C (Kd.int .i64) w A2 l2.length l2) (hc2 : l2.length ≤ c2) (h : spec_blWalk.f k a0_0 a0_1 l0_2 a1_0 a1_1 l2 = some r) :
  Calls Try.prog 78 #[.agg #[.int .i64 a0_0, .int .i64 a0_1, .slice A0_2 l0_2.length c0_2], .agg #[.int .i64 a1_0, .int .i64 a1_1], .slice A2 l2.length c2] w fun e w' => e = .returned (.bool r) ∧ Below w.heap.size w w' := by
 have hu30 := Try.underlying30
 have hu32 := Try.underlying32
 have HR0_2 := Aside0.mk hr0_2
 have HC0_2 := Aside0.mk hc0_2
 clear hr0_2 hc0_2
 have HR2 := Aside0.mk hr2
 have HC2 := Aside0.mk hc2
 clear hr2 hc2
 have HB := Aside0.mk (Below.refl w.heap.size w)
 have H : ((spec_boTwo.f k a0_0 a0_1 l0_2 a1_0 a1_1).bind fun t1042 => (if t1042 = true then ((spec_toWalk.f k a0_0 a0_1 l0_2 a1_0 a1_1 l2).bind fun t1043 => (some t1043)) else (some false))) = some r := h
 clear h
 replace H := Option.bind_eq_some_iff.mp H
 obtain ⟨t1042, A40, H⟩ := H
 replace H : (if t1042 = true then ((spec_toWalk.f k a0_0 a0_1 l0_2 a1_0 a1_1 l2).bind fun t1043 => (some t1043)) else (some false)) = some r := H
 have A4 := Aside0.mk A40
 clear A40
 by_cases c5 : t1042 = true
 rotate_left
 ·replace c5 := Bool.eq_false_iff.mpr c5
  subst c5
  have H1 : (some false) = some r := by rw [if_neg (show ¬ (false = true) by decide)] at H; exact H
  clear H
  have H := H1
  clear H1
  obtain rfl := Option.some.inj H
  go_enter Try.func78, Try.ntmps78
  go_wp2_with (first | ((with_reducible refine gate_dst (N := 3) rfl ?_); refine box_event ?hg (N := 3) ?hd (cs := #[.int .i64 a0_0, .int .i64 a0_1, .slice A0_2 l0_2.length c0_2]) (t := 30) ?hr ?_; (case hd => rfl); (case hg => rfl); (case hr => first | (go_simp; done) | (go_simp; rfl)); intro gb1040 hg w16 hbox hb; have n0_ := Aside0.mk (below_step zao2 hb); have n1_ := Aside0.mk (hbox); have n2_ := Aside0.mk ((zao31 : w.heap.size ≤ gb1040)); have n3_ := Aside0.mk ((zao31 : w.heap.size ≤ gb1040)); clear HB; have HB := n0_; have BK1040 := n1_; have GW1040 := n2_; have GE1040 := n3_; clear n0_ n1_ n2_ n3_; clear hb hbox hg) | ((with_reducible refine gate_dst (N := 4) rfl ?_); refine box_event ?hg (N := 4) ?hd (cs := #[.int .i64 a1_0, .int .i64 a1_1]) (t := 32) ?hr ?_; (case hd => rfl); (case hg => rfl); (case hr => first | (go_simp; done) | (go_simp; rfl)); intro gb1041 hg w17 hbox hb; have n0_ := Aside0.mk (blk_below (g := gb1040) (o := .cells #[.int .i64 a0_0, .int .i64 a0_1, .slice A0_2 l0_2.length c0_2] 30 (0, 0)) zao9 hb); have n1_ := Aside0.mk (below_step zao11 hb); have n2_ := Aside0.mk (hbox); have n3_ := Aside0.mk ((by rw [hg]; exact (below_size zao11) : w.heap.size ≤ gb1041)); have n4_ := Aside0.mk ((by rw [hg]; exact (below_size zao11) : w.heap.size ≤ gb1041)); have n5_ := Aside0.mk ((zao35 : gb1040 ≠ gb1041)); have n6_ := Aside0.mk ((zao36 : gb1041 ≠ gb1040)); clear BK1040; clear HB; have BK1040 := n0_; have HB := n1_; have BK1041 := n2_; have GW1041 := n3_; have GE1041 := n4_; have NB1040_1041 := n5_; have NB1041_1040 := n6_; clear n0_ n1_ n2_ n3_ n4_ n5_ n6_; clear hb hbox hg; have hnb18 := NB1040_1041.out; have hnc18 := NB1041_1040.out; have hcz19_0 : w17.cell? ⟨gb1040, 0, none⟩ = some (.int .i64 a0_0) := (blk_cell BK1040.out 0).trans rfl; have hcz19_1 : w17.cell? ⟨gb1040, 1, none⟩ = some (.int .i64 a0_1) := (blk_cell BK1040.out 1).trans rfl; have hcz19_2 : w17.cell? ⟨gb1040, 2, none⟩ = some (.slice A0_2 l0_2.length c0_2) := (blk_cell BK1040.out 2).trans rfl; have hfz19_0 := blk_frozen BK1040.out 0; have hfz19_1 := blk_frozen BK1040.out 1; have hfz19_2 := blk_frozen BK1040.out 2; have hcz20_0 : w17.cell? ⟨gb1041, 0, none⟩ = some (.int .i64 a1_0) := (blk_cell BK1041.out 0).trans rfl; have hcz20_1 : w17.cell? ⟨gb1041, 1, none⟩ = some (.int .i64 a1_1) := (blk_cell BK1041.out 1).trans rfl; have hfz20_0 := blk_frozen BK1041.out 0; have hfz20_1 := blk_frozen BK1041.out 1) | ((with_reducible refine gate_callee (f := 57) rfl ?_); refine goesL_ (some 9) rfl rfl Try.func57 (by kernel_rfl) rfl #[.agg #[.int .i64 a0_0, .int .i64 a0_1, .slice A0_2 l0_2.length c0_2], .agg #[.int .i64 a1_0, .int .i64 a1_1]] rfl zao15 ?_; (with_reducible refine (spec_boTwo.calls k a0_0 a0_1 _ _ l0_2 a1_0 a1_1 false _ ?side1 ?side2 A4.out).mono ?_); (case side1 => exact zao6); (case side2 => exact HC0_2.out); rintro e w21 ⟨rfl, hb⟩; refine ⟨_, rfl, ?_⟩; have n0_ := Aside0.mk (blk_below (g := gb1040) (o := .cells #[.int .i64 a0_0, .int .i64 a0_1, .slice A0_2 l0_2.length c0_2] 30 (0, 0)) zao9 hb); have n1_ := Aside0.mk (blk_below (g := gb1041) (o := .cells #[.int .i64 a1_0, .int .i64 a1_1] 32 (0, 0)) zao19 hb); have n2_ := Aside0.mk (below_step zao12 hb); clear BK1040; clear BK1041; clear HB; have BK1040 := n0_; have BK1041 := n1_; have HB := n2_; clear n0_ n1_ n2_; (try clear hb); (try clear hb2); (try clear hk); (try clear hi); (try clear hna_); (try clear hnb_)))
  go_ret
  exact ⟨zao17, zao12⟩
 subst c5
 have H1 : ((spec_toWalk.f k a0_0 a0_1 l0_2 a1_0 a1_1 l2).bind fun t1043 => (some t1043)) = some r := by rw [if_pos rfl] at H; exact H
 clear H
 have H := H1
 clear H1
 replace H := Option.bind_eq_some_iff.mp H
 obtain ⟨t1043, A60, H⟩ := H
 replace H : (some t1043) = some r := H
 have A6 := Aside0.mk A60
 clear A60
 obtain rfl := Option.some.inj H
 go_enter Try.func78, Try.ntmps78
 go_wp2_with (first | ((with_reducible refine gate_dst (N := 3) rfl ?_); refine box_event ?hg (N := 3) ?hd (cs := #[.int .i64 a0_0, .int .i64 a0_1, .slice A0_2 l0_2.length c0_2]) (t := 30) ?hr ?_; (case hd => rfl); (case hg => rfl); (case hr => first | (go_simp; done) | (go_simp; rfl)); intro gb1040 hg w7 hbox hb; have n0_ := Aside0.mk (below_step zao2 hb); have n1_ := Aside0.mk (hbox); have n2_ := Aside0.mk ((zao31 : w.heap.size ≤ gb1040)); have n3_ := Aside0.mk ((zao31 : w.heap.size ≤ gb1040)); clear HB; have HB := n0_; have BK1040 := n1_; have GW1040 := n2_; have GE1040 := n3_; clear n0_ n1_ n2_ n3_; clear hb hbox hg) | ((with_reducible refine gate_dst (N := 4) rfl ?_); refine box_event ?hg (N := 4) ?hd (cs := #[.int .i64 a1_0, .int .i64 a1_1]) (t := 32) ?hr ?_; (case hd => rfl); (case hg => rfl); (case hr => first | (go_simp; done) | (go_simp; rfl)); intro gb1041 hg w8 hbox hb; have n0_ := Aside0.mk (blk_below (g := gb1040) (o := .cells #[.int .i64 a0_0, .int .i64 a0_1, .slice A0_2 l0_2.length c0_2] 30 (0, 0)) zao9 hb); have n1_ := Aside0.mk (below_step zao11 hb); have n2_ := Aside0.mk (hbox); have n3_ := Aside0.mk ((by rw [hg]; exact (below_size zao11) : w.heap.size ≤ gb1041)); have n4_ := Aside0.mk ((by rw [hg]; exact (below_size zao11) : w.heap.size ≤ gb1041)); have n5_ := Aside0.mk ((zao35 : gb1040 ≠ gb1041)); have n6_ := Aside0.mk ((zao36 : gb1041 ≠ gb1040)); clear BK1040; clear HB; have BK1040 := n0_; have HB := n1_; have BK1041 := n2_; have GW1041 := n3_; have GE1041 := n4_; have NB1040_1041 := n5_; have NB1041_1040 := n6_; clear n0_ n1_ n2_ n3_ n4_ n5_ n6_; clear hb hbox hg; have hnb9 := NB1040_1041.out; have hnc9 := NB1041_1040.out; have hcz10_0 : w8.cell? ⟨gb1040, 0, none⟩ = some (.int .i64 a0_0) := (blk_cell BK1040.out 0).trans rfl; have hcz10_1 : w8.cell? ⟨gb1040, 1, none⟩ = some (.int .i64 a0_1) := (blk_cell BK1040.out 1).trans rfl; have hcz10_2 : w8.cell? ⟨gb1040, 2, none⟩ = some (.slice A0_2 l0_2.length c0_2) := (blk_cell BK1040.out 2).trans rfl; have hfz10_0 := blk_frozen BK1040.out 0; have hfz10_1 := blk_frozen BK1040.out 1; have hfz10_2 := blk_frozen BK1040.out 2; have hcz11_0 : w8.cell? ⟨gb1041, 0, none⟩ = some (.int .i64 a1_0) := (blk_cell BK1041.out 0).trans rfl; have hcz11_1 : w8.cell? ⟨gb1041, 1, none⟩ = some (.int .i64 a1_1) := (blk_cell BK1041.out 1).trans rfl; have hfz11_0 := blk_frozen BK1041.out 0; have hfz11_1 := blk_frozen BK1041.out 1) | ((with_reducible refine gate_callee (f := 57) rfl ?_); refine goesL_ (some 9) rfl rfl Try.func57 (by kernel_rfl) rfl #[.agg #[.int .i64 a0_0, .int .i64 a0_1, .slice A0_2 l0_2.length c0_2], .agg #[.int .i64 a1_0, .int .i64 a1_1]] rfl zao15 ?_; (with_reducible refine (spec_boTwo.calls k a0_0 a0_1 _ _ l0_2 a1_0 a1_1 true _ ?side1 ?side2 A4.out).mono ?_); (case side1 => exact zao6); (case side2 => exact HC0_2.out); rintro e w12 ⟨rfl, hb⟩; refine ⟨_, rfl, ?_⟩; have n0_ := Aside0.mk (blk_below (g := gb1040) (o := .cells #[.int .i64 a0_0, .int .i64 a0_1, .slice A0_2 l0_2.length c0_2] 30 (0, 0)) zao9 hb); have n1_ := Aside0.mk (blk_below (g := gb1041) (o := .cells #[.int .i64 a1_0, .int .i64 a1_1] 32 (0, 0)) zao19 hb); have n2_ := Aside0.mk (below_step zao12 hb); clear BK1040; clear BK1041; clear HB; have BK1040 := n0_; have BK1041 := n1_; have HB := n2_; clear n0_ n1_ n2_; (try clear hb); (try clear hb2); (try clear hk); (try clear hi); (try clear hna_); (try clear hnb_); have hcz13_0 : w12.cell? ⟨gb1040, 0, none⟩ = some (.int .i64 a0_0) := (blk_cell BK1040.out 0).trans rfl; have hcz13_1 : w12.cell? ⟨gb1040, 1, none⟩ = some (.int .i64 a0_1) := (blk_cell BK1040.out 1).trans rfl; have hcz13_2 : w12.cell? ⟨gb1040, 2, none⟩ = some (.slice A0_2 l0_2.length c0_2) := (blk_cell BK1040.out 2).trans rfl; have hfz13_0 := blk_frozen BK1040.out 0; have hfz13_1 := blk_frozen BK1040.out 1; have hfz13_2 := blk_frozen BK1040.out 2; have hcz14_0 : w12.cell? ⟨gb1041, 0, none⟩ = some (.int .i64 a1_0) := (blk_cell BK1041.out 0).trans rfl; have hcz14_1 : w12.cell? ⟨gb1041, 1, none⟩ = some (.int .i64 a1_1) := (blk_cell BK1041.out 1).trans rfl; have hfz14_0 := blk_frozen BK1041.out 0; have hfz14_1 := blk_frozen BK1041.out 1) | (go_at_call 69; (with_reducible refine (spec_toWalk.calls k a0_0 a0_1 _ _ l0_2 a1_0 a1_1 _ _ l2 t1043 _ ?side1 ?side2 ?side3 ?side4 A6.out).mono ?_); (case side1 => exact zao6); (case side2 => exact HC0_2.out); (case side3 => exact zao18); (case side4 => exact HC2.out); rintro e w15 ⟨rfl, hb⟩; have n0_ := Aside0.mk (blk_below (g := gb1040) (o := .cells #[.int .i64 a0_0, .int .i64 a0_1, .slice A0_2 l0_2.length c0_2] 30 (0, 0)) zao9 hb); have n1_ := Aside0.mk (blk_below (g := gb1041) (o := .cells #[.int .i64 a1_0, .int .i64 a1_1] 32 (0, 0)) zao19 hb); have n2_ := Aside0.mk (below_step zao12 hb); clear BK1040; clear BK1041; clear HB; have BK1040 := n0_; have BK1041 := n1_; have HB := n2_; clear n0_ n1_ n2_; (try clear hb); (try clear hb2); (try clear hk); (try clear hi); (try clear hna_); (try clear hnb_)))
 go_ret
 exact ⟨zao17, zao12⟩

/-! ### spec_blSums: function 79 -/
def spec_blSums.l0 : Nat → List Int → List Int → List Int → Int → Int → Int → Int → List Int → Option (List Int × List Int)
 | 0, _, _, _, _, _, _, _, _ => none
 | k + 1, x6, x7, x16, x17, x18, x1045000, x1045001, x1045002 => if x18 < x17 then (if 0 ≤ x18 then (if x18 < (x16.length : Int) then (if x1045000 = 0 then (none) else (if 0 ≤ (wrap64 (Int.tdiv (rd x16 x18) x1045000)) then (if (wrap64 (Int.tdiv (rd x16 x18) x1045000)) < (x6.length : Int) then (if 0 ≤ (Int.tmod (rd x16 x18) x1045000) then (if (Int.tmod (rd x16 x18) x1045000) < (x7.length : Int) then (spec_blSums.l0 k (x6.set ((wrap64 (Int.tdiv (rd x16 x18) x1045000)) : Int).toNat (wrap64 ((rd x6 (wrap64 (Int.tdiv (rd x16 x18) x1045000))) + (wrap64 (x18 + 1))))) (x7.set ((Int.tmod (rd x16 x18) x1045000) : Int).toNat (wrap64 ((rd x7 (Int.tmod (rd x16 x18) x1045000)) + (wrap64 (x18 + 1))))) x16 x17 (wrap64 (x18 + 1)) x1045000 x1045001 x1045002) else (none)) else (none)) else (none)) else (none))) else (none)) else (none)) else (some (x6, x7))
def spec_blSums.f (k : Nat) (a0_0 : Int) (a0_1 : Int) (l0_2 : List Int) (l1 : List Int) : Option (List Int × List Int) := if 0 ≤ a0_1 then (if (a0_1 : Int).toNat ≤ 35184372088832 then (if 0 ≤ a0_0 then (if (a0_0 : Int).toNat ≤ 35184372088832 then (spec_blSums.l0 k (List.replicate (a0_1 : Int).toNat 0) (List.replicate (a0_0 : Int).toNat 0) l1 (l1.length : Int) 0 a0_0 a0_1 l0_2) else (none)) else (none)) else (none)) else (none)
def spec_blSums.T1 : Bool × List (List Nat × List Nat) := (true, [([], []), ([0], [0]), ([1, 1], [1]), ([], []), ([3], [3]), ([4, 4], [4]), ([2, 0, 1, 2], [2]), ([5, 6, 0, 1, 2, 3, 4, 5, 6], [5])])
def spec_blSums.B1 : List Nat := [0, 1, 3, 0, 8, 24, 7, 127]
theorem spec_blSums.tab1 : rtab .any (opsOf Try.f79 1) = spec_blSums.T1 := by kernel_rfl
theorem spec_blSums.bits1 : waitsOk spec_blSums.T1.2 spec_blSums.B1 = true := by kernel_rfl
set_option maxHeartbeats 8000000 in
set_option maxRecDepth 100000 in
theorem spec_blSums.calls (k : Nat) (a0_0 : Int) (a0_1 : Int) (A0_2 : Option Addr) (c0_2 : Nat) (l0_2 : List Int) (A1 : Option Addr) (c1 : Nat) (l1 : List Int) (r1 : List Int) (r2 : List Int) (w : World) (hr0_2 : Kd.C (Kd.int .i64) w A0_2 l0_2.length l0_2) (hc0_2 : l0_2.length ≤ c0_2) (hr1 : Kd.C (Kd.int .i64) w A1 l1.length l1) (hc1 : l1.length ≤ c1) (h : spec_blSums.f k a0_0 a0_1 l0_2 l1 = some (r1, r2)) :
  Calls Try.prog 79 #[.agg #[.int .i64 a0_0, .int .i64 a0_1, .slice A0_2 l0_2.length c0_2], .slice A1 l1.length c1] w fun e w' => ∃ v0_ v1_ : Value, e = .returned (.tuple #[v0_, v1_]) ∧ Kd.R (Kd.int .i64) 3 w' w.heap.size (fun k_ => some k_ ≠ (v1_ : Value).ownBlock) v0_ r1 ∧ Kd.R (Kd.int .i64) 3 w' w.heap.size (fun k_ => some k_ ≠ (v0_ : Value).ownBlock) v1_ r2 ∧ Below w.heap.size w w' := by
 have hu30 := Try.underlying30
 have HR0_2 := Aside0.mk hr0_2
 have HC0_2 := Aside0.mk hc0_2
 clear hr0_2 hc0_2
 have HR1 := Aside0.mk hr1
 have HC1 := Aside0.mk hc1
 clear hr1 hc1
 have HB := Aside0.mk (Below.refl w.heap.size w)
 have H : (if 0 ≤ a0_1 then (if (a0_1 : Int).toNat ≤ 35184372088832 then (if 0 ≤ a0_0 then (if (a0_0 : Int).toNat ≤ 35184372088832 then (spec_blSums.l0 k (List.replicate (a0_1 : Int).toNat 0) (List.replicate (a0_0 : Int).toNat 0) l1 (l1.length : Int) 0 a0_0 a0_1 l0_2) else (none)) else (none)) else (none)) else (none)) = some (r1, r2) := h
 clear h
 by_cases c3 : 0 ≤ a0_1
 rotate_left
 ·rw [if_neg c3] at H
  exact absurd H (by simp)
 rw [if_pos c3] at H
 have c3b0 := eq_true c3
 have c3b1 : decide (0 ≤ a0_1) = true := decide_eq_true c3
 clear c3
 by_cases c4 : (a0_1 : Int).toNat ≤ 35184372088832
 rotate_left
 ·rw [if_neg c4] at H
  exact absurd H (by simp)
 rw [if_pos c4] at H
 have c4b0 := eq_true c4
 have c4b1 : decide ((a0_1 : Int).toNat ≤ 35184372088832) = true := decide_eq_true c4
 clear c4
 obtain ⟨y1045, hy1045⟩ : ∃ y_ : List Int, y_ = (List.replicate (a0_1 : Int).toNat 0) := ⟨_, rfl⟩
 replace H : (if 0 ≤ a0_0 then (if (a0_0 : Int).toNat ≤ 35184372088832 then (spec_blSums.l0 k y1045 (List.replicate (a0_0 : Int).toNat 0) l1 (l1.length : Int) 0 a0_0 a0_1 l0_2) else (none)) else (none)) = some (r1, r2) := by first | (rw [hy1045]; with_reducible exact H) | (have H2_ := (Option.bind_some _ _).symm.trans H; rw [hy1045]; with_reducible exact H2_) | (have H2_ := (Option.bind_some _ _).symm.trans H; with_reducible exact H2_) | with_reducible exact H | (rw [hy1045]; exact H) | exact H
 have Ny1045 := Aside0.mk hy1045
 clear hy1045
 by_cases c5 : 0 ≤ a0_0
 rotate_left
 ·rw [if_neg c5] at H
  exact absurd H (by simp)
 rw [if_pos c5] at H
 have c5b0 := eq_true c5
 have c5b1 : decide (0 ≤ a0_0) = true := decide_eq_true c5
 clear c5
 by_cases c6 : (a0_0 : Int).toNat ≤ 35184372088832
 rotate_left
 ·rw [if_neg c6] at H
  exact absurd H (by simp)
 rw [if_pos c6] at H
 have c6b0 := eq_true c6
 have c6b1 : decide ((a0_0 : Int).toNat ≤ 35184372088832) = true := decide_eq_true c6
 clear c6
 obtain ⟨y1048, hy1048⟩ : ∃ y_ : List Int, y_ = (List.replicate (a0_0 : Int).toNat 0) := ⟨_, rfl⟩
 replace H : (spec_blSums.l0 k y1045 y1048 l1 (l1.length : Int) 0 a0_0 a0_1 l0_2) = some (r1, r2) := by first | (rw [hy1048]; with_reducible exact H) | (have H2_ := (Option.bind_some _ _).symm.trans H; rw [hy1048]; with_reducible exact H2_) | (have H2_ := (Option.bind_some _ _).symm.trans H; with_reducible exact H2_) | with_reducible exact H | (rw [hy1048]; exact H) | exact H
 have Ny1048 := Aside0.mk hy1048
 clear hy1048
 have H' := Aside0.mk H
 clear H
 go_enter Try.func79, Try.ntmps79
 try go_wp2_with (first | ((with_reducible refine gate_dst (N := 2) rfl ?_); refine box_event ?hg (N := 2) ?hd (cs := #[.int .i64 a0_0, .int .i64 a0_1, .slice A0_2 l0_2.length c0_2]) (t := 30) ?hr ?_; (case hd => rfl); (case hg => rfl); (case hr => first | (go_simp; done) | (go_simp; rfl)); intro gb1044 hg w7 hbox hb; have n0_ := Aside0.mk (below_step zao2 hb); have n1_ := Aside0.mk (hbox); have n2_ := Aside0.mk ((zao31 : w.heap.size ≤ gb1044)); have n3_ := Aside0.mk ((zao31 : w.heap.size ≤ gb1044)); clear HB; have HB := n0_; have BK1044 := n1_; have GW1044 := n2_; have GE1044 := n3_; clear n0_ n1_ n2_ n3_; clear hb hbox hg))
 have n0_ := Aside0.mk (blk_drew BK1044.out)
 have n1_ := Aside0.mk (below_drew1 HB.out)
 clear BK1044
 clear HB
 have BK1044 := n0_
 have HB := n1_
 clear n0_ n1_
 refine start_ (n := 8) (S := fun w' => w'.cell? ⟨gb1044, 0, none⟩ = some (.int .i64 a0_0) ∧ w'.cell? ⟨gb1044, 1, none⟩ = some (.int .i64 a0_1) ∧ w'.cell? ⟨gb1044, 2, none⟩ = some (.slice A0_2 l0_2.length c0_2)) (ds := []) #[false, false, false, false, false, false, false, false] (by kernel_rfl) rfl rfl ⟨(blk_cell BK1044.out 0).trans rfl, (blk_cell BK1044.out 1).trans rfl, (blk_cell BK1044.out 2).trans rfl⟩ (fun hHeld => ?_); refine with_tabW spec_blSums.tab1 spec_blSums.bits1 (fun HT_ HW_ => ?_)
 generalize w7.drew = w8 at BK1044 HB hHeld ⊢
 refine pure_ (i := 0) (N := some 10) (v := ?_) (a' := ?_) #[true, false, false, false, false, false, false, false] rfl rfl (any_of HT_.out (by kernel_rfl)) (fun _ _ _ h => h) (Or.inl ⟨by rfl, ?_⟩) ?_ ?_
 rotate_left
 ·intro w'
  go_simp
  with_reducible rfl
 rotate_left
 ·simp only [Act.put, List.setIfInBounds_toArray, List.set_cons_zero, List.set_cons_succ, i64_w, i32_w]
  rfl
 refine pure_ (i := 3) (N := some 13) (v := ?_) (a' := ?_) #[true, false, false, true, false, false, false, false] rfl rfl (any_of HT_.out (by kernel_rfl)) (fun _ _ _ h => h) (Or.inl ⟨by rfl, ?_⟩) ?_ ?_
 rotate_left
 ·intro w'
  go_simp
  with_reducible rfl
 rotate_left
 ·simp only [Act.put, List.setIfInBounds_toArray, List.set_cons_zero, List.set_cons_succ, i64_w, i32_w]
  rfl
 refine take_ (i := 1) (N := some 11) (v := ?_) (a' := ?_) #[true, true, false, true, false, false, false, false] rfl rfl (take_ofW HT_.out HW_.out (by kernel_rfl)) (fun _ _ _ h => h) (Or.inl ⟨by rfl, ?_⟩) hHeld ?_ ?_
 rotate_left
 ·rintro w' ⟨s0, s1, s2⟩
  go_simp
  with_reducible rfl
 rotate_left
 ·simp only [Act.put, List.setIfInBounds_toArray, List.set_cons_zero, List.set_cons_succ, i64_w, i32_w]
  rfl
 refine take_ (i := 4) (N := some 14) (v := ?_) (a' := ?_) #[true, true, false, true, true, false, false, false] rfl rfl (take_ofW HT_.out HW_.out (by kernel_rfl)) (fun _ _ _ h => h) (Or.inl ⟨by rfl, ?_⟩) hHeld ?_ ?_
 rotate_left
 ·rintro w' ⟨s0, s1, s2⟩
  go_simp
  with_reducible rfl
 rotate_left
 ·simp only [Act.put, List.setIfInBounds_toArray, List.set_cons_zero, List.set_cons_succ, i64_w, i32_w]
  rfl
 refine join_ (σ := Value × Value) 1 #[true, true, true, true, true, true, true, false] (fun s_ => [(12, s_.1), (15, s_.2), (6, s_.1)]) (fun s_ w' => (w'.cell? ⟨gb1044, 0, none⟩ = some (.int .i64 a0_0) ∧ w'.cell? ⟨gb1044, 1, none⟩ = some (.int .i64 a0_1) ∧ w'.cell? ⟨gb1044, 2, none⟩ = some (.slice A0_2 l0_2.length c0_2)) ∧ (Kd.R (Kd.int .i64) 3 w' w.heap.size (fun k_ => some k_ ≠ (s_.2 : Value).ownBlock) s_.1 y1045) ∧ (Kd.R (Kd.int .i64) 3 w' w.heap.size (fun k_ => some k_ ≠ (s_.1 : Value).ownBlock) s_.2 y1048) ∧ (w'.heap[gb1044]? = some (.cells #[.int .i64 a0_0, .int .i64 a0_1, .slice A0_2 l0_2.length c0_2] 30 (0, 0))) ∧ (Below w.heap.size w w')) ?_ ?_
 rotate_left
 ·intro hCont
  refine two_ (i := 2) (j := 5) (Ni := some 12) (Nj := some 15) #[true, true, true, true, true, false, false, false] #[true, true, false, true, true, true, false, false] rfl rfl rfl rfl (two_of HT_.out (by kernel_rfl)) (by decide) (by decide) (fun K hK => ?_) (fun K hK => ?_)
  ·skip
   refine Kd.R_make_step (Kd.int .i64) _ 3 (by rfl) (N := 12) rfl 22 _ _ rfl a0_1 rfl rfl Try.underlying22 (.int .i64 0) 8 info3 rfl (by decide) (by omega) 0 (ok := fun _ => True) (okp := fun _ => True) rfl (fun _ hk => hk) trivial (of_decide_eq_true zao10) (Nat.le_trans (Nat.mul_le_mul_right _ (of_decide_eq_true zao10 : a0_1.toNat ≤ 35184372088832)) (by omega)) (Below.refl _ _) (Nat.le_refl _) ?_
   intro v1046 w9 ho10 hb hg_ hnew_
   clear hg_ hnew_
   (first | rw [← Ny1045.out] at ho10 | (simp only [Int.reduceToNat] at ho10; rw [← Ny1045.out] at ho10))
   have n0_ := Aside0.mk (Kd.R_lower ho10 (below_size zao4))
   have n1_ := Aside0.mk (blk_below (g := gb1044) (o := .cells #[.int .i64 a0_0, .int .i64 a0_1, .slice A0_2 l0_2.length c0_2] 30 (0, 0)) zao7 hb)
   have n2_ := Aside0.mk (below_step zao4 hb)
   clear BK1044
   clear HB
   have HO1047 := n0_
   have BK1044 := n1_
   have HB := n2_
   clear n0_ n1_ n2_
   clear hb ho10
   refine hK.out _ _ ⟨(blk_cell BK1044.out 0).trans rfl, (blk_cell BK1044.out 1).trans rfl, (blk_cell BK1044.out 2).trans rfl⟩ (fun hHeld => ?_)
   clear hK K
   refine norm_ (a' := ?_) ?_ ?_
   rotate_left
   ·show Act.put _ (some 12) _ = _
    simp only [Act.put, List.setIfInBounds_toArray, List.set_cons_zero, List.set_cons_succ, i64_w, i32_w]
    rfl
   refine pure_ (i := 6) (N := some 6) (v := ?_) (a' := ?_) #[true, true, true, true, true, false, true, false] rfl rfl (any_of HT_.out (by kernel_rfl)) (fun _ _ _ h => h) (Or.inl ⟨by rfl, ?_⟩) ?_ ?_
   rotate_left
   ·intro w'
    go_simp
    with_reducible rfl
   rotate_left
   ·simp only [Act.put, List.setIfInBounds_toArray, List.set_cons_zero, List.set_cons_succ, i64_w, i32_w]
    rfl
   refine one_ (i := 5) (N := some 15) #[true, true, true, true, true, true, true, false] rfl rfl (one_of HT_.out (by kernel_rfl)) (by decide) (fun K hK => ?_)
   refine Kd.R_make_step (Kd.int .i64) _ 3 (by rfl) (N := 15) rfl 22 _ _ rfl a0_0 rfl rfl Try.underlying22 (.int .i64 0) 8 info3 rfl (by decide) (by omega) 0 (ok := fun _ => True) (okp := fun _ => True) rfl (fun _ hk => hk) trivial (of_decide_eq_true zao10) (Nat.le_trans (Nat.mul_le_mul_right _ (of_decide_eq_true zao10 : a0_0.toNat ≤ 35184372088832)) (by omega)) (Below.refl _ _) (Nat.le_refl _) ?_
   intro v1049 w11 ho12 hb hg_ hnew_
   clear hg_ hnew_
   (first | rw [← Ny1048.out] at ho12 | (simp only [Int.reduceToNat] at ho12; rw [← Ny1048.out] at ho12))
   have n0_ := Aside0.mk (Kd.R_elder' zao23 (Kd.R_base ho12) hb)
   have n1_ := Aside0.mk (Kd.R_lower (Kd.R_new' ho12 (Kd.R_lt zao23)) (below_size zao4))
   have n2_ := Aside0.mk (blk_below (g := gb1044) (o := .cells #[.int .i64 a0_0, .int .i64 a0_1, .slice A0_2 l0_2.length c0_2] 30 (0, 0)) zao7 hb)
   have n3_ := Aside0.mk (below_step zao4 hb)
   clear HO1047
   clear BK1044
   clear HB
   have HO1047 := n0_
   have HO1050 := n1_
   have BK1044 := n2_
   have HB := n3_
   clear n0_ n1_ n2_ n3_
   clear hb ho12
   refine hK.out _ _ ⟨(blk_cell BK1044.out 0).trans rfl, (blk_cell BK1044.out 1).trans rfl, (blk_cell BK1044.out 2).trans rfl⟩ (fun hHeld => ?_)
   clear hK K
   refine norm_ (a' := ?_) ?_ ?_
   rotate_left
   ·show Act.put _ (some 15) _ = _
    simp only [Act.put, List.setIfInBounds_toArray, List.set_cons_zero, List.set_cons_succ, i64_w, i32_w]
    rfl
   exact norm_ zao24 (hCont (v1046, v1049) _ ⟨hHeld, zao30, zao29, zao7, zao4⟩)
  skip
  refine Kd.R_make_step (Kd.int .i64) _ 3 (by rfl) (N := 15) rfl 22 _ _ rfl a0_0 rfl rfl Try.underlying22 (.int .i64 0) 8 info3 rfl (by decide) (by omega) 0 (ok := fun _ => True) (okp := fun _ => True) rfl (fun _ hk => hk) trivial (of_decide_eq_true zao10) (Nat.le_trans (Nat.mul_le_mul_right _ (of_decide_eq_true zao10 : a0_0.toNat ≤ 35184372088832)) (by omega)) (Below.refl _ _) (Nat.le_refl _) ?_
  intro v1049 w9 ho10 hb hg_ hnew_
  clear hg_ hnew_
  (first | rw [← Ny1048.out] at ho10 | (simp only [Int.reduceToNat] at ho10; rw [← Ny1048.out] at ho10))
  have n0_ := Aside0.mk (Kd.R_lower ho10 (below_size zao4))
  have n1_ := Aside0.mk (blk_below (g := gb1044) (o := .cells #[.int .i64 a0_0, .int .i64 a0_1, .slice A0_2 l0_2.length c0_2] 30 (0, 0)) zao7 hb)
  have n2_ := Aside0.mk (below_step zao4 hb)
  clear BK1044
  clear HB
  have HO1050 := n0_
  have BK1044 := n1_
  have HB := n2_
  clear n0_ n1_ n2_
  clear hb ho10
  refine hK.out _ _ ⟨(blk_cell BK1044.out 0).trans rfl, (blk_cell BK1044.out 1).trans rfl, (blk_cell BK1044.out 2).trans rfl⟩ (fun hHeld => ?_)
  clear hK K
  refine norm_ (a' := ?_) ?_ ?_
  rotate_left
  ·show Act.put _ (some 15) _ = _
   simp only [Act.put, List.setIfInBounds_toArray, List.set_cons_zero, List.set_cons_succ, i64_w, i32_w]
   rfl
  refine one_ (i := 2) (N := some 12) #[true, true, true, true, true, true, false, false] rfl rfl (one_of HT_.out (by kernel_rfl)) (by decide) (fun K hK => ?_)
  refine Kd.R_make_step (Kd.int .i64) _ 3 (by rfl) (N := 12) rfl 22 _ _ rfl a0_1 rfl rfl Try.underlying22 (.int .i64 0) 8 info3 rfl (by decide) (by omega) 0 (ok := fun _ => True) (okp := fun _ => True) rfl (fun _ hk => hk) trivial (of_decide_eq_true zao10) (Nat.le_trans (Nat.mul_le_mul_right _ (of_decide_eq_true zao10 : a0_1.toNat ≤ 35184372088832)) (by omega)) (Below.refl _ _) (Nat.le_refl _) ?_
  intro v1046 w11 ho12 hb hg_ hnew_
  clear hg_ hnew_
  (first | rw [← Ny1045.out] at ho12 | (simp only [Int.reduceToNat] at ho12; rw [← Ny1045.out] at ho12))
  have n0_ := Aside0.mk (Kd.R_elder' zao22 (Kd.R_base ho12) hb)
  have n1_ := Aside0.mk (Kd.R_lower (Kd.R_new' ho12 (Kd.R_lt zao22)) (below_size zao4))
  have n2_ := Aside0.mk (blk_below (g := gb1044) (o := .cells #[.int .i64 a0_0, .int .i64 a0_1, .slice A0_2 l0_2.length c0_2] 30 (0, 0)) zao7 hb)
  have n3_ := Aside0.mk (below_step zao4 hb)
  clear HO1050
  clear BK1044
  clear HB
  have HO1050 := n0_
  have HO1047 := n1_
  have BK1044 := n2_
  have HB := n3_
  clear n0_ n1_ n2_ n3_
  clear hb ho12
  refine hK.out _ _ ⟨(blk_cell BK1044.out 0).trans rfl, (blk_cell BK1044.out 1).trans rfl, (blk_cell BK1044.out 2).trans rfl⟩ (fun hHeld => ?_)
  clear hK K
  refine norm_ (a' := ?_) ?_ ?_
  rotate_left
  ·show Act.put _ (some 12) _ = _
   simp only [Act.put, List.setIfInBounds_toArray, List.set_cons_zero, List.set_cons_succ, i64_w, i32_w]
   rfl
  refine pure_ (i := 6) (N := some 6) (v := ?_) (a' := ?_) #[true, true, true, true, true, true, true, false] rfl rfl (any_of HT_.out (by kernel_rfl)) (fun _ _ _ h => h) (Or.inl ⟨by rfl, ?_⟩) ?_ ?_
  rotate_left
  ·intro w'
   go_simp
   with_reducible rfl
  rotate_left
  ·simp only [Act.put, List.setIfInBounds_toArray, List.set_cons_zero, List.set_cons_succ, i64_w, i32_w]
   rfl
  exact norm_ zao24 (hCont (v1046, v1049) _ ⟨hHeld, zao30, zao29, zao7, zao4⟩)
 rintro ⟨v1046, v1049⟩ w13 ⟨hS_, h0_, h1_, h2_, h3_⟩
 have n0_ : Aside0 (Kd.R (Kd.int .i64) 3 w13 w.heap.size (fun k_ => some k_ ≠ (v1049 : Value).ownBlock) v1046 y1045) := ⟨h0_⟩
 have n1_ : Aside0 (Kd.R (Kd.int .i64) 3 w13 w.heap.size (fun k_ => some k_ ≠ (v1046 : Value).ownBlock) v1049 y1048) := ⟨h1_⟩
 have n2_ : Aside0 (w13.heap[gb1044]? = some (.cells #[.int .i64 a0_0, .int .i64 a0_1, .slice A0_2 l0_2.length c0_2] 30 (0, 0))) := ⟨h2_⟩
 have n3_ : Aside0 (Below w.heap.size w w13) := ⟨h3_⟩
 clear BK1044
 clear HB
 clear h0_ h1_ h2_ h3_
 have HO1047 := n0_
 have HO1050 := n1_
 have BK1044 := n2_
 have HB := n3_
 clear n0_ n1_ n2_ n3_
 have hHeld : w13.cell? ⟨gb1044, 0, none⟩ = some (.int .i64 a0_0) ∧ w13.cell? ⟨gb1044, 1, none⟩ = some (.int .i64 a0_1) ∧ w13.cell? ⟨gb1044, 2, none⟩ = some (.slice A0_2 l0_2.length c0_2) := hS_
 refine norm_ (a' := ?_) ?_ ?_
 rotate_left
 ·simp only [putAll, Act.put, List.setIfInBounds_toArray, List.set_cons_zero, List.set_cons_succ]
  rfl
 refine pure_ (i := 7) (N := some 7) (v := ?_) (a' := ?_) #[true, true, true, true, true, true, true, true] rfl rfl (any_of HT_.out (by kernel_rfl)) (fun _ _ _ h => h) (Or.inl ⟨by rfl, ?_⟩) ?_ ?_
 rotate_left
 ·intro w'
  go_simp
  with_reducible rfl
 rotate_left
 ·simp only [Act.put, List.setIfInBounds_toArray, List.set_cons_zero, List.set_cons_succ, i64_w, i32_w]
  rfl
 refine done_ (done_of HT_.out (by kernel_rfl)) ?_
 try go_wp2
 go_loopg [18] k (fun kq v18 w' => ∃ (x6_1 : List Int) (x7_1 : List Int) (x18_1 : Int), v18 = .int .i64 x18_1 ∧ Aside0 (spec_blSums.l0 kq x6_1 x7_1 l1 (l1.length : Int) x18_1 a0_0 a0_1 l0_2 = some (r1, r2)) ∧ Aside0 (kq ≤ k) ∧ Aside0 (Kd.R (Kd.int .i64) 3 w' w.heap.size (fun k_ => some k_ ≠ (v1049 : Value).ownBlock) v1046 x6_1) ∧ Aside0 (Kd.R (Kd.int .i64) 3 w' w.heap.size (fun k_ => some k_ ≠ (v1046 : Value).ownBlock) v1049 x7_1) ∧ Aside0 (w'.heap[gb1044]? = some (.cells #[.int .i64 a0_0, .int .i64 a0_1, (.slice A0_2 l0_2.length c0_2)] 30 (0, 0))) ∧ Aside0 (Below w.heap.size w w'))
 case atStart => exact ⟨(y1045), (y1048), (0), (by first | rfl | (simp; done) | (simp [*]; done)), H', ⟨Nat.le_refl _⟩, ⟨zao23⟩, ⟨zao22⟩, ⟨zao7⟩, ⟨zao4⟩⟩
 case round =>
  clear H'
  try clear c1; try clear p2; try clear c3; try clear c3b0; try clear c3b1; try clear c4; try clear c4b0; try clear c4b1; try clear c5; try clear c5b0; try clear c5b1; try clear c6; try clear c6b0; try clear c6b1; try clear c7
  obtain ⟨x6_1, x7_1, x18_1, rfl, HA, HK1, HO_6, HO_7, BK1044, HB⟩ := hrel
  cases gk with
  | zero => exact absurd HA.out (by simp [spec_blSums.l0])
  | succ k1 =>
   have H := HA.out
   clear HA
   simp only [spec_blSums.l0] at H
   by_cases c14 : x18_1 < (l1.length : Int)
   rotate_left
   ·rw [if_neg c14] at H
    have c14b0 : decide (x18_1 < (l1.length : Int)) = false := decide_eq_false c14
    clear c14
    simp only [Option.some.injEq, Prod.mk.injEq] at H
    obtain ⟨rfl, rfl⟩ := H
    go_wp2
    go_ret2
    exact ⟨_, _, zao17, by (with_reducible repeat (first | apply Kd.R_alloc | apply Kd.R_drewN | apply Kd.R_drew)); exact HO_6.out, by (with_reducible repeat (first | apply Kd.R_alloc | apply Kd.R_drewN | apply Kd.R_drew)); exact HO_7.out, zao4⟩
   rw [if_pos c14] at H
   have c14b0 : decide (x18_1 < (l1.length : Int)) = true := decide_eq_true c14
   clear c14
   by_cases c15 : 0 ≤ x18_1
   rotate_left
   ·rw [if_neg c15] at H
    exact absurd H (by simp)
   rw [if_pos c15] at H
   have c15b0 : decide (0 ≤ x18_1) = true := decide_eq_true c15
   clear c15
   by_cases c16 : x18_1 < (l1.length : Int)
   rotate_left
   ·rw [if_neg c16] at H
    exact absurd H (by simp)
   rw [if_pos c16] at H
   have c16b0 : decide (x18_1 < (l1.length : Int)) = true := decide_eq_true c16
   clear c16
   by_cases c17 : a0_0 = 0
   ·rw [if_pos c17] at H
    exact absurd H (by simp)
   rw [if_neg c17] at H
   have c17b0 : (a0_0 == 0) = false := beq_eq_false_iff_ne.mpr c17
   have c17b1 : (a0_0 != 0) = true := bne_iff_ne.mpr c17
   obtain ⟨ji18, hji18⟩ : ∃ j_ : Int, (wrap64 (Int.tdiv (rd l1 x18_1) a0_0)) = j_ := ⟨_, rfl⟩
   replace H : (if 0 ≤ (ji18) then (if (ji18) < (x6_1.length : Int) then (if 0 ≤ (Int.tmod (rd l1 x18_1) a0_0) then (if (Int.tmod (rd l1 x18_1) a0_0) < (x7_1.length : Int) then (spec_blSums.l0 k1 (x6_1.set ((ji18) : Int).toNat (wrap64 ((rd x6_1 (ji18)) + (wrap64 (x18_1 + 1))))) (x7_1.set ((Int.tmod (rd l1 x18_1) a0_0) : Int).toNat (wrap64 ((rd x7_1 (Int.tmod (rd l1 x18_1) a0_0)) + (wrap64 (x18_1 + 1))))) l1 (l1.length : Int) (wrap64 (x18_1 + 1)) a0_0 a0_1 l0_2) else (none)) else (none)) else (none)) else (none)) = some (r1, r2) := by first | (rw [hji18] at H; exact H) | (simp only [hji18] at H ⊢; exact H)
   have hji18w : (IntKind.i64.wrap (Int.tdiv (rd l1 x18_1) a0_0)) = ji18 := (i64_w _).trans hji18
   by_cases c19 : 0 ≤ (ji18)
   rotate_left
   ·rw [if_neg c19] at H
    exact absurd H (by simp)
   rw [if_pos c19] at H
   have c19b0 : decide (0 ≤ (ji18)) = true := decide_eq_true c19
   clear c19
   by_cases c20 : (ji18) < (x6_1.length : Int)
   rotate_left
   ·rw [if_neg c20] at H
    exact absurd H (by simp)
   rw [if_pos c20] at H
   have c20b0 : decide ((ji18) < (x6_1.length : Int)) = true := decide_eq_true c20
   clear c20
   obtain ⟨y1053, hy1053⟩ : ∃ y_ : List Int, y_ = (x6_1.set ((ji18) : Int).toNat (wrap64 ((rd x6_1 (ji18)) + (wrap64 (x18_1 + 1))))) := ⟨_, rfl⟩
   replace H : (if 0 ≤ (Int.tmod (rd l1 x18_1) a0_0) then (if (Int.tmod (rd l1 x18_1) a0_0) < (x7_1.length : Int) then (spec_blSums.l0 k1 y1053 (x7_1.set ((Int.tmod (rd l1 x18_1) a0_0) : Int).toNat (wrap64 ((rd x7_1 (Int.tmod (rd l1 x18_1) a0_0)) + (wrap64 (x18_1 + 1))))) l1 (l1.length : Int) (wrap64 (x18_1 + 1)) a0_0 a0_1 l0_2) else (none)) else (none)) = some (r1, r2) := by first | (rw [hy1053]; with_reducible exact H) | (have H2_ := (Option.bind_some _ _).symm.trans H; rw [hy1053]; with_reducible exact H2_) | (have H2_ := (Option.bind_some _ _).symm.trans H; with_reducible exact H2_) | with_reducible exact H | (rw [hy1053]; exact H) | exact H
   have Ny1053 := Aside0.mk hy1053
   clear hy1053
   obtain ⟨ji22, hji22⟩ : ∃ j_ : Int, (Int.tmod (rd l1 x18_1) a0_0) = j_ := ⟨_, rfl⟩
   replace H : (if 0 ≤ (ji22) then (if (ji22) < (x7_1.length : Int) then (spec_blSums.l0 k1 y1053 (x7_1.set ((ji22) : Int).toNat (wrap64 ((rd x7_1 (ji22)) + (wrap64 (x18_1 + 1))))) l1 (l1.length : Int) (wrap64 (x18_1 + 1)) a0_0 a0_1 l0_2) else (none)) else (none)) = some (r1, r2) := by first | (rw [hji22] at H; exact H) | (simp only [hji22] at H ⊢; exact H)
   by_cases c23 : 0 ≤ (ji22)
   rotate_left
   ·rw [if_neg c23] at H
    exact absurd H (by simp)
   rw [if_pos c23] at H
   have c23b0 : decide (0 ≤ (ji22)) = true := decide_eq_true c23
   clear c23
   by_cases c24 : (ji22) < (x7_1.length : Int)
   rotate_left
   ·rw [if_neg c24] at H
    exact absurd H (by simp)
   rw [if_pos c24] at H
   have c24b0 : decide ((ji22) < (x7_1.length : Int)) = true := decide_eq_true c24
   clear c24
   obtain ⟨y1055, hy1055⟩ : ∃ y_ : List Int, y_ = (x7_1.set ((ji22) : Int).toNat (wrap64 ((rd x7_1 (ji22)) + (wrap64 (x18_1 + 1))))) := ⟨_, rfl⟩
   replace H : (spec_blSums.l0 k1 y1053 y1055 l1 (l1.length : Int) (wrap64 (x18_1 + 1)) a0_0 a0_1 l0_2) = some (r1, r2) := by first | (rw [hy1055]; with_reducible exact H) | (have H2_ := (Option.bind_some _ _).symm.trans H; rw [hy1055]; with_reducible exact H2_) | (have H2_ := (Option.bind_some _ _).symm.trans H; with_reducible exact H2_) | with_reducible exact H | (rw [hy1055]; exact H) | exact H
   have Ny1055 := Aside0.mk hy1055
   clear hy1055
   have H' := Aside0.mk H
   clear H
   have p1051 : 0 ≤ (x18_1 : Int) := of_decide_eq_true zao10
   have q1051 : x18_1 < (l1.length : Int) := of_decide_eq_true zao10
   obtain ⟨ad1051, e1051, hx1051_0⟩ := Kd.at_int HR1.out x18_1 p1051 q1051
   cases e1051
   (first | replace hx1051_0 := (HB.out.cell (World.block_lt_of_cell? w _ hx1051_0)).trans hx1051_0 | skip)
   replace p1051 := eq_true p1051
   replace q1051 := eq_true q1051
   have hcz26_0 : wr.cell? ⟨gb1044, 0, none⟩ = some (.int .i64 a0_0) := (blk_cell BK1044.out 0).trans rfl
   have hcz26_1 : wr.cell? ⟨gb1044, 1, none⟩ = some (.int .i64 a0_1) := (blk_cell BK1044.out 1).trans rfl
   have hcz26_2 : wr.cell? ⟨gb1044, 2, none⟩ = some (.slice A0_2 l0_2.length c0_2) := (blk_cell BK1044.out 2).trans rfl
   have hfz26_0 := blk_frozen BK1044.out 0
   have hfz26_1 := blk_frozen BK1044.out 1
   have hfz26_2 := blk_frozen BK1044.out 2
   obtain ⟨Ao27, co27, eo27⟩ := Kd.R_slice HO_6.out
   subst eo27
   have p1052 : 0 ≤ ((ji18) : Int) := of_decide_eq_true zao10
   have q1052 : (ji18) < (x6_1.length : Int) := of_decide_eq_true zao10
   obtain ⟨ad1052, e1052, hx1052_0⟩ := Kd.at_int (Kd.R_reads' HO_6.out).2.2 (ji18) p1052 q1052
   cases e1052
   replace p1052 := eq_true p1052
   replace q1052 := eq_true q1052
   have p21 : 0 ≤ ((ji18) : Int) := of_decide_eq_true zao10
   have q21 : ((ji18) : Int) < ((x6_1.length : Int) : Int) := of_decide_eq_true zao10
   obtain ⟨go21, co21, eo21, gb21, gl21, cl21, HG21⟩ := Kd.R_form HO_6.out (by omega)
   (first | cases eo21 | (injection eo21 with ea_ en_ ec_; (first | subst ea_ | (injection ea_ with ea_; subst ea_)); subst ec_; clear en_))
   have GB21 := Aside0.mk gb21
   have GG21 := Aside0.mk HG21
   clear gb21 gl21 HG21
   (try simp only [add_plain] at *)
   (first | simp only [add_plain] at hx1052_0 | skip)
   obtain ⟨hx21_0, hf21_0⟩ := Kd.R_celln 0 HO_6.out ((ji18) : Int) p21 q21
   replace p21 := eq_true p21
   replace q21 := eq_true q21
   have HP28 := Kd.R_putg HO_6.out ((ji18) : Int) (wrap64 ((rd x6_1 (ji18)) + (wrap64 (x18_1 + 1))))
   go_wp2_with (first | ((with_reducible refine gate_store (t := 3) (p := 33) rfl ?_); refine store_event (t := 3) (p := 33) (v := ?vo_w29) (w1 := (wr.setCell ⟨go21, ((ji18) : Int).toNat, none⟩ (.int .i64 (wrap64 ((rd x6_1 (ji18)) + (wrap64 (x18_1 + 1))))))) ?hg ?ho ?hn ?hr ?_; (case ho => rfl); (case hg => rfl); (case hn => rfl); (case hr => first | (go_simp; done) | (go_simp; rfl)); intro w29 hw; have hg : wr.grownBy w29 (some go21) := (by rw [hw]; exact HP28.2); have hp_ : Kd.R (Kd.int .i64) 3 w29 w.heap.size (fun k_ => some k_ ≠ (v1049 : Value).ownBlock) (.slice (some ⟨go21, 0, none⟩) x6_1.length co27) y1053 := (by rw [hw, Ny1053.out]; exact HP28.1); clear HP28; have n0_ := Aside0.mk (hp_); have n1_ := Aside0.mk (Kd.R_after (v := (.slice (some ⟨go21, 0, none⟩) x6_1.length co27)) (v1 := (.slice (some ⟨go21, 0, none⟩) x6_1.length co27)) (ok := (fun _ => True)) (by (with_reducible repeat (first | apply Kd.R_alloc | apply Kd.R_drewN | apply Kd.R_drew)); exact Kd.R_mono HO_7.out (fun _ hk => ⟨trivial, hk⟩)) hg (.inl rfl)); have n2_ := Aside0.mk (blk_grown (g := gb1044) (o := .cells #[.int .i64 a0_0, .int .i64 a0_1, .slice A0_2 l0_2.length c0_2] 30 (0, 0)) zao7 hg (Kd.R_ne HO_6.out BK1044.out (by decide))); have n3_ := Aside0.mk ((by rw [hw]; exact below_set (HB.out) GB21.out : Below w.heap.size w w29)); clear HO_6; clear HO_7; clear BK1044; clear HB; have HO_6 := n0_; have HO_7 := n1_; have BK1044 := n2_; have HB := n3_; clear n0_ n1_ n2_ n3_; clear hg hw hp_; have hcz30_0 : w29.cell? ⟨gb1044, 0, none⟩ = some (.int .i64 a0_0) := (blk_cell BK1044.out 0).trans rfl; have hcz30_1 : w29.cell? ⟨gb1044, 1, none⟩ = some (.int .i64 a0_1) := (blk_cell BK1044.out 1).trans rfl; have hcz30_2 : w29.cell? ⟨gb1044, 2, none⟩ = some (.slice A0_2 l0_2.length c0_2) := (blk_cell BK1044.out 2).trans rfl; have hfz30_0 := blk_frozen BK1044.out 0; have hfz30_1 := blk_frozen BK1044.out 1; have hfz30_2 := blk_frozen BK1044.out 2; obtain ⟨Ao31, co31, eo31⟩ := Kd.R_slice HO_7.out; subst eo31; have p1054 : 0 ≤ ((ji22) : Int) := of_decide_eq_true zao10; have q1054 : (ji22) < (x7_1.length : Int) := of_decide_eq_true zao10; obtain ⟨ad1054, e1054, hx1054_0⟩ := Kd.at_int (Kd.R_reads' HO_7.out).2.2 (ji22) p1054 q1054; cases e1054; replace p1054 := eq_true p1054; replace q1054 := eq_true q1054; have p25 : 0 ≤ ((ji22) : Int) := of_decide_eq_true zao10; have q25 : ((ji22) : Int) < ((x7_1.length : Int) : Int) := of_decide_eq_true zao10; obtain ⟨go25, co25, eo25, gb25, gl25, cl25, HG25⟩ := Kd.R_form HO_7.out (by omega); (first | cases eo25 | (injection eo25 with ea_ en_ ec_; (first | subst ea_ | (injection ea_ with ea_; subst ea_)); subst ec_; clear en_)); have GB25 := Aside0.mk gb25; have GG25 := Aside0.mk HG25; clear gb25 gl25 HG25; (try simp only [add_plain] at *); (first | simp only [add_plain] at hx1054_0 | skip); obtain ⟨hx25_0, hf25_0⟩ := Kd.R_celln 0 HO_7.out ((ji22) : Int) p25 q25; replace p25 := eq_true p25; replace q25 := eq_true q25; have n_ := Aside0.mk (Kd.R_mono (ok' := (fun k_ => some k_ ≠ (.slice (some ⟨go21, 0, none⟩) x6_1.length co27 : Value).ownBlock)) HO_7.out (fun k_ hk => hk.2)); clear HO_7; have HO_7 := n_; clear n_; obtain ⟨hy32_, hz32_⟩ := Kd.R_celln 0 HO_7.out ((ji22) : Int) (of_decide_eq_true zao10) (of_decide_eq_true zao10); have HP32 := Kd.R_putg HO_7.out ((ji22) : Int) (wrap64 ((rd x7_1 (ji22)) + (wrap64 (x18_1 + 1))))) | ((with_reducible refine gate_store (t := 3) (p := 44) rfl ?_); refine store_event (t := 3) (p := 44) (v := ?vo_w33) (w1 := (w29.setCell ⟨go25, ((ji22) : Int).toNat, none⟩ (.int .i64 (wrap64 ((rd x7_1 (ji22)) + (wrap64 (x18_1 + 1))))))) ?hg ?ho ?hn ?hr ?_; (case ho => rfl); (case hg => rfl); (case hn => rfl); (case hr => first | (go_simp; done) | (go_simp; rfl)); intro w33 hw; have hg : w29.grownBy w33 (some go25) := (by rw [hw]; exact HP32.2); have hp_ : Kd.R (Kd.int .i64) 3 w33 w.heap.size (fun k_ => some k_ ≠ (.slice (some ⟨go21, 0, none⟩) x6_1.length co27 : Value).ownBlock) (.slice (some ⟨go25, 0, none⟩) x7_1.length co31) y1055 := (by rw [hw, Ny1055.out]; exact HP32.1); clear HP32; have n0_ := Aside0.mk (Kd.R_after (v := (.slice (some ⟨go25, 0, none⟩) x7_1.length co31)) (v1 := (.slice (some ⟨go25, 0, none⟩) x7_1.length co31)) (ok := (fun _ => True)) (by (with_reducible repeat (first | apply Kd.R_alloc | apply Kd.R_drewN | apply Kd.R_drew)); exact Kd.R_mono HO_6.out (fun _ hk => ⟨trivial, hk⟩)) hg (.inl rfl)); have n1_ := Aside0.mk (hp_); have n2_ := Aside0.mk (blk_grown (g := gb1044) (o := .cells #[.int .i64 a0_0, .int .i64 a0_1, .slice A0_2 l0_2.length c0_2] 30 (0, 0)) zao7 hg (Kd.R_ne HO_7.out BK1044.out (by decide))); have n3_ := Aside0.mk ((by rw [hw]; exact below_set (HB.out) GB25.out : Below w.heap.size w w33)); clear HO_6; clear HO_7; clear BK1044; clear HB; have HO_6 := n0_; have HO_7 := n1_; have BK1044 := n2_; have HB := n3_; clear n0_ n1_ n2_ n3_; clear hg hw hp_))
   go_roundg k1
   case measure => have := HK1.out; omega
   case rel => exact ⟨(y1053), (y1055), (wrap64 (x18_1 + 1)), (by first | rfl | (simp; done) | (simp [*]; done)), H', ⟨by have := HK1.out; omega⟩, ⟨by (with_reducible repeat (first | apply Kd.R_alloc | apply Kd.R_drewN | apply Kd.R_drew)); exact Kd.R_mono HO_6.out (fun _ hk => hk.2)⟩, ⟨by (with_reducible repeat (first | apply Kd.R_alloc | apply Kd.R_drewN | apply Kd.R_drew)); exact HO_7.out⟩, ⟨zao7⟩, ⟨zao4⟩⟩

/-! ### impl_walkGraph: function 80 -/
def impl_walkGraph.f (k : Nat) (a0_0 : Int) (a0_1 : Int) (l0_2 : List Int) (a1_0 : Int) (a1_1 : Int) (l2 : List Int) : Option (List Int × (List (List Int)) × Bool) := (impl_graphOf.f k a0_0 a0_1 l0_2 a1_0 a1_1).bind fun bt1067 => (if bt1067.2.2 = true then ((impl_graph_isWalk.f k a0_0 a0_1 l0_2 a1_0 a1_1 bt1067.1 bt1067.2.1 l2).bind fun t1076 => (if t1076 = true then (some (bt1067.1, bt1067.2.1, true)) else (some (([] : List Int), ([] : List (List Int)), false)))) else (some (([] : List Int), ([] : List (List Int)), false)))
set_option maxHeartbeats 8000000 in
set_option maxRecDepth 100000 in
theorem impl_walkGraph.calls (k : Nat) (a0_0 : Int) (a0_1 : Int) (A0_2 : Option Addr) (c0_2 : Nat) (l0_2 : List Int) (a1_0 : Int) (a1_1 : Int) (A2 : Option Addr) (c2 : Nat) (l2 : List Int) (r1 : List Int) (r2 : List (List Int)) (r3 : Bool) (w : World) (hr0_2 : Kd.C (Kd.int .i64) w A0_2 l0_2.length l0_2) (hc0_2 : l0_2.length ≤ c0_2) (hr2 : Kd.C (Kd.int .i64) w A2 l2.length l2) (hc2 : l2.length ≤ c2) (h : impl_walkGraph.f k a0_0 a0_1 l0_2 a1_0 a1_1 l2 = some (r1, r2, r3)) :
  Calls Try.prog 80 #[.agg #[.int .i64 a0_0, .int .i64 a0_1, .slice A0_2 l0_2.length c0_2], .agg #[.int .i64 a1_0, .int .i64 a1_1], .slice A2 l2.length c2] w fun e w' => ∃ v0_ v1_ : Value, ∃ pv_ : Value, e = .returned (.tuple #[pv_, .bool r3]) ∧ GPT r3 pv_ w w' #[.int .i64 a0_0, .int .i64 a0_1, .slice A0_2 l0_2.length c0_2, .int .i64 a1_0, .int .i64 a1_1, v0_, v1_] ∧ Kd.R (Kd.int .i64) 3 w' w.heap.size (fun _ => True) v0_ r1 ∧ Kd.S (Kd.slice 3 (Kd.int .i64)) 22 w' w.heap.size (fun k_ => some k_ ≠ (v0_ : Value).ownBlock) v1_ r2 ∧ Below w.heap.size w w' := by
 have hu30 := Try.underlying30
 have hu32 := Try.underlying32
 have HR0_2 := Aside0.mk hr0_2
 have HC0_2 := Aside0.mk hc0_2
 clear hr0_2 hc0_2
 have HR2 := Aside0.mk hr2
 have HC2 := Aside0.mk hc2
 clear hr2 hc2
 have HB := Aside0.mk (Below.refl w.heap.size w)
 have H : ((impl_graphOf.f k a0_0 a0_1 l0_2 a1_0 a1_1).bind fun bt1067 => (if bt1067.2.2 = true then ((impl_graph_isWalk.f k a0_0 a0_1 l0_2 a1_0 a1_1 bt1067.1 bt1067.2.1 l2).bind fun t1076 => (if t1076 = true then (some (bt1067.1, bt1067.2.1, true)) else (some (([] : List Int), ([] : List (List Int)), false)))) else (some (([] : List Int), ([] : List (List Int)), false)))) = some (r1, r2, r3) := h
 clear h
 replace H := Option.bind_eq_some_iff.mp H
 obtain ⟨⟨t1067, t1070, t1075⟩, A40, H⟩ := H
 replace H : (if t1075 = true then ((impl_graph_isWalk.f k a0_0 a0_1 l0_2 a1_0 a1_1 t1067 t1070 l2).bind fun t1076 => (if t1076 = true then (some (t1067, t1070, true)) else (some (([] : List Int), ([] : List (List Int)), false)))) else (some (([] : List Int), ([] : List (List Int)), false))) = some (r1, r2, r3) := H
 have A4 := Aside0.mk A40
 clear A40
 by_cases c5 : t1075 = true
 rotate_left
 ·replace c5 := Bool.eq_false_iff.mpr c5
  subst c5
  have H1 : (some (([] : List Int), ([] : List (List Int)), false)) = some (r1, r2, r3) := by rw [if_neg (show ¬ (false = true) by decide)] at H; exact H
  clear H
  have H := H1
  clear H1
  simp only [Option.some.injEq, Prod.mk.injEq] at H
  obtain ⟨rfl, rfl, rfl⟩ := H
  go_enter Try.func80, Try.ntmps80
  go_wp2_with (first | ((with_reducible refine gate_dst (N := 3) rfl ?_); refine box_event ?hg (N := 3) ?hd (cs := #[.int .i64 a0_0, .int .i64 a0_1, .slice A0_2 l0_2.length c0_2]) (t := 30) ?hr ?_; (case hd => rfl); (case hg => rfl); (case hr => first | (go_simp; done) | (go_simp; rfl)); intro gb1065 hg w26 hbox hb; have n0_ := Aside0.mk (below_step zao2 hb); have n1_ := Aside0.mk (hbox); have n2_ := Aside0.mk ((zao31 : w.heap.size ≤ gb1065)); have n3_ := Aside0.mk ((zao31 : w.heap.size ≤ gb1065)); clear HB; have HB := n0_; have BK1065 := n1_; have GW1065 := n2_; have GE1065 := n3_; clear n0_ n1_ n2_ n3_; clear hb hbox hg) | ((with_reducible refine gate_dst (N := 4) rfl ?_); refine box_event ?hg (N := 4) ?hd (cs := #[.int .i64 a1_0, .int .i64 a1_1]) (t := 32) ?hr ?_; (case hd => rfl); (case hg => rfl); (case hr => first | (go_simp; done) | (go_simp; rfl)); intro gb1066 hg w27 hbox hb; have n0_ := Aside0.mk (blk_below (g := gb1065) (o := .cells #[.int .i64 a0_0, .int .i64 a0_1, .slice A0_2 l0_2.length c0_2] 30 (0, 0)) zao3 hb); have n1_ := Aside0.mk (below_step zao5 hb); have n2_ := Aside0.mk (hbox); have n3_ := Aside0.mk ((zao34 : w.heap.size ≤ gb1066)); have n4_ := Aside0.mk ((zao34 : w.heap.size ≤ gb1066)); have n5_ := Aside0.mk ((zao32 : gb1065 ≠ gb1066)); have n6_ := Aside0.mk ((zao33 : gb1066 ≠ gb1065)); clear BK1065; clear HB; have BK1065 := n0_; have HB := n1_; have BK1066 := n2_; have GW1066 := n3_; have GE1066 := n4_; have NB1065_1066 := n5_; have NB1066_1065 := n6_; clear n0_ n1_ n2_ n3_ n4_ n5_ n6_; clear hb hbox hg; have hnb28 := NB1065_1066.out; have hnc28 := NB1066_1065.out; have hcz29_0 : w27.cell? ⟨gb1065, 0, none⟩ = some (.int .i64 a0_0) := (blk_cell BK1065.out 0).trans rfl; have hcz29_1 : w27.cell? ⟨gb1065, 1, none⟩ = some (.int .i64 a0_1) := (blk_cell BK1065.out 1).trans rfl; have hcz29_2 : w27.cell? ⟨gb1065, 2, none⟩ = some (.slice A0_2 l0_2.length c0_2) := (blk_cell BK1065.out 2).trans rfl; have hfz29_0 := blk_frozen BK1065.out 0; have hfz29_1 := blk_frozen BK1065.out 1; have hfz29_2 := blk_frozen BK1065.out 2; have hcz30_0 : w27.cell? ⟨gb1066, 0, none⟩ = some (.int .i64 a1_0) := (blk_cell BK1066.out 0).trans rfl; have hcz30_1 : w27.cell? ⟨gb1066, 1, none⟩ = some (.int .i64 a1_1) := (blk_cell BK1066.out 1).trans rfl; have hfz30_0 := blk_frozen BK1066.out 0; have hfz30_1 := blk_frozen BK1066.out 1) | ((with_reducible refine gate_callee (f := 60) rfl ?_); refine goesL_ (some 13) rfl rfl Try.func60 (by kernel_rfl) rfl #[.agg #[.int .i64 a0_0, .int .i64 a0_1, .slice A0_2 l0_2.length c0_2], .agg #[.int .i64 a1_0, .int .i64 a1_1]] rfl zao15 ?_; (with_reducible refine (impl_graphOf.calls k a0_0 a0_1 _ _ l0_2 a1_0 a1_1 t1067 t1070 false _ ?side1 ?side2 A4.out).mono ?_); (case side1 => exact zao6); (case side2 => exact HC0_2.out); rintro e w31 ⟨v1068, v1071, pv1074, rfl, hgp, ho0, ho1, hb⟩; refine ⟨_, rfl, ?_⟩; obtain rfl := hgp.2 rfl; have n0_ := Aside0.mk (Kd.R_lower ho0 (below_size zao1)); have n1_ := Aside0.mk (Kd.S_lower ho1 (below_size zao1)); have n2_ := Aside0.mk (blk_below (g := gb1065) (o := .cells #[.int .i64 a0_0, .int .i64 a0_1, .slice A0_2 l0_2.length c0_2] 30 (0, 0)) zao3 hb); have n3_ := Aside0.mk (blk_below (g := gb1066) (o := .cells #[.int .i64 a1_0, .int .i64 a1_1] 32 (0, 0)) zao8 hb); have n4_ := Aside0.mk (below_step zao1 hb); clear BK1065; clear BK1066; clear HB; have HO1069 := n0_; have HO1072 := n1_; have BK1065 := n2_; have BK1066 := n3_; have HB := n4_; clear n0_ n1_ n2_ n3_ n4_; (try clear hb); (try clear hb2); (try clear hk); (try clear hi); (try clear ho0); (try clear ho1); (try clear hgp); (try clear hbox); (try clear hge); (try clear hna_); (try clear hnb_)))
  go_ret2
  exact ⟨_, _, _, zao17, ⟨(fun h_ => by cases h_), fun _ => rfl⟩, zao28, zao27, zao1⟩
 subst c5
 have H1 : ((impl_graph_isWalk.f k a0_0 a0_1 l0_2 a1_0 a1_1 t1067 t1070 l2).bind fun t1076 => (if t1076 = true then (some (t1067, t1070, true)) else (some (([] : List Int), ([] : List (List Int)), false)))) = some (r1, r2, r3) := by rw [if_pos rfl] at H; exact H
 clear H
 have H := H1
 clear H1
 replace H := Option.bind_eq_some_iff.mp H
 obtain ⟨t1076, A60, H⟩ := H
 replace H : (if t1076 = true then (some (t1067, t1070, true)) else (some (([] : List Int), ([] : List (List Int)), false))) = some (r1, r2, r3) := H
 have A6 := Aside0.mk A60
 clear A60
 by_cases c7 : t1076 = true
 ·subst c7
  have H1 : (some (t1067, t1070, true)) = some (r1, r2, r3) := by rw [if_pos rfl] at H; exact H
  clear H
  have H := H1
  clear H1
  simp only [Option.some.injEq, Prod.mk.injEq] at H
  obtain ⟨rfl, rfl, rfl⟩ := H
  go_enter Try.func80, Try.ntmps80
  go_wp2_with (first | ((with_reducible refine gate_dst (N := 3) rfl ?_); refine box_event ?hg (N := 3) ?hd (cs := #[.int .i64 a0_0, .int .i64 a0_1, .slice A0_2 l0_2.length c0_2]) (t := 30) ?hr ?_; (case hd => rfl); (case hg => rfl); (case hr => first | (go_simp; done) | (go_simp; rfl)); intro gb1065 hg w8 hbox hb; have n0_ := Aside0.mk (below_step zao2 hb); have n1_ := Aside0.mk (hbox); have n2_ := Aside0.mk ((zao31 : w.heap.size ≤ gb1065)); have n3_ := Aside0.mk ((zao31 : w.heap.size ≤ gb1065)); clear HB; have HB := n0_; have BK1065 := n1_; have GW1065 := n2_; have GE1065 := n3_; clear n0_ n1_ n2_ n3_; clear hb hbox hg) | ((with_reducible refine gate_dst (N := 4) rfl ?_); refine box_event ?hg (N := 4) ?hd (cs := #[.int .i64 a1_0, .int .i64 a1_1]) (t := 32) ?hr ?_; (case hd => rfl); (case hg => rfl); (case hr => first | (go_simp; done) | (go_simp; rfl)); intro gb1066 hg w9 hbox hb; have n0_ := Aside0.mk (blk_below (g := gb1065) (o := .cells #[.int .i64 a0_0, .int .i64 a0_1, .slice A0_2 l0_2.length c0_2] 30 (0, 0)) zao3 hb); have n1_ := Aside0.mk (below_step zao5 hb); have n2_ := Aside0.mk (hbox); have n3_ := Aside0.mk ((zao34 : w.heap.size ≤ gb1066)); have n4_ := Aside0.mk ((zao34 : w.heap.size ≤ gb1066)); have n5_ := Aside0.mk ((zao32 : gb1065 ≠ gb1066)); have n6_ := Aside0.mk ((zao33 : gb1066 ≠ gb1065)); clear BK1065; clear HB; have BK1065 := n0_; have HB := n1_; have BK1066 := n2_; have GW1066 := n3_; have GE1066 := n4_; have NB1065_1066 := n5_; have NB1066_1065 := n6_; clear n0_ n1_ n2_ n3_ n4_ n5_ n6_; clear hb hbox hg; have hnb10 := NB1065_1066.out; have hnc10 := NB1066_1065.out; have hcz11_0 : w9.cell? ⟨gb1065, 0, none⟩ = some (.int .i64 a0_0) := (blk_cell BK1065.out 0).trans rfl; have hcz11_1 : w9.cell? ⟨gb1065, 1, none⟩ = some (.int .i64 a0_1) := (blk_cell BK1065.out 1).trans rfl; have hcz11_2 : w9.cell? ⟨gb1065, 2, none⟩ = some (.slice A0_2 l0_2.length c0_2) := (blk_cell BK1065.out 2).trans rfl; have hfz11_0 := blk_frozen BK1065.out 0; have hfz11_1 := blk_frozen BK1065.out 1; have hfz11_2 := blk_frozen BK1065.out 2; have hcz12_0 : w9.cell? ⟨gb1066, 0, none⟩ = some (.int .i64 a1_0) := (blk_cell BK1066.out 0).trans rfl; have hcz12_1 : w9.cell? ⟨gb1066, 1, none⟩ = some (.int .i64 a1_1) := (blk_cell BK1066.out 1).trans rfl; have hfz12_0 := blk_frozen BK1066.out 0; have hfz12_1 := blk_frozen BK1066.out 1) | ((with_reducible refine gate_callee (f := 60) rfl ?_); refine goesL_ (some 13) rfl rfl Try.func60 (by kernel_rfl) rfl #[.agg #[.int .i64 a0_0, .int .i64 a0_1, .slice A0_2 l0_2.length c0_2], .agg #[.int .i64 a1_0, .int .i64 a1_1]] rfl zao15 ?_; (with_reducible refine (impl_graphOf.calls k a0_0 a0_1 _ _ l0_2 a1_0 a1_1 t1067 t1070 true _ ?side1 ?side2 A4.out).mono ?_); (case side1 => exact zao6); (case side2 => exact HC0_2.out); rintro e w13 ⟨v1068, v1071, pv1074, rfl, hgp, ho0, ho1, hb⟩; refine ⟨_, rfl, ?_⟩; obtain ⟨gb1073, rfl, hbox, hge⟩ := hgp.1 rfl; have n0_ := Aside0.mk (Kd.R_lower ho0 (below_size zao1)); have n1_ := Aside0.mk (Kd.S_lower ho1 (below_size zao1)); have n2_ := Aside0.mk (blk_below (g := gb1065) (o := .cells #[.int .i64 a0_0, .int .i64 a0_1, .slice A0_2 l0_2.length c0_2] 30 (0, 0)) zao3 hb); have n3_ := Aside0.mk (blk_below (g := gb1066) (o := .cells #[.int .i64 a1_0, .int .i64 a1_1] 32 (0, 0)) zao8 hb); have n4_ := Aside0.mk (hbox); have n5_ := Aside0.mk ((Nat.le_trans (by exact (below_size zao1)) hge : w.heap.size ≤ gb1073)); have n6_ := Aside0.mk ((Nat.le_trans (by exact (below_size zao1)) hge : w.heap.size ≤ gb1073)); have n7_ := Aside0.mk ((Nat.ne_of_lt (Nat.lt_of_lt_of_le (blk_lt (g := gb1065) (o := .cells #[.int .i64 a0_0, .int .i64 a0_1, .slice A0_2 l0_2.length c0_2] 30 (0, 0)) zao3) hge) : gb1065 ≠ gb1073)); have n8_ := Aside0.mk ((Nat.ne_of_gt (Nat.lt_of_lt_of_le (blk_lt (g := gb1065) (o := .cells #[.int .i64 a0_0, .int .i64 a0_1, .slice A0_2 l0_2.length c0_2] 30 (0, 0)) zao3) hge) : gb1073 ≠ gb1065)); have n9_ := Aside0.mk ((Nat.ne_of_lt (Nat.lt_of_lt_of_le (blk_lt (g := gb1066) (o := .cells #[.int .i64 a1_0, .int .i64 a1_1] 32 (0, 0)) zao8) hge) : gb1066 ≠ gb1073)); have n10_ := Aside0.mk ((Nat.ne_of_gt (Nat.lt_of_lt_of_le (blk_lt (g := gb1066) (o := .cells #[.int .i64 a1_0, .int .i64 a1_1] 32 (0, 0)) zao8) hge) : gb1073 ≠ gb1066)); have n11_ := Aside0.mk (below_step zao1 hb); clear BK1065; clear BK1066; clear HB; have HO1069 := n0_; have HO1072 := n1_; have BK1065 := n2_; have BK1066 := n3_; have BK1073 := n4_; have GW1073 := n5_; have GE1073 := n6_; have NB1065_1073 := n7_; have NB1073_1065 := n8_; have NB1066_1073 := n9_; have NB1073_1066 := n10_; have HB := n11_; clear n0_ n1_ n2_ n3_ n4_ n5_ n6_ n7_ n8_ n9_ n10_ n11_; (try clear hb); (try clear hb2); (try clear hk); (try clear hi); (try clear ho0); (try clear ho1); (try clear hgp); (try clear hbox); (try clear hge); (try clear hna_); (try clear hnb_); obtain ⟨Ao14, co14, eo14⟩ := Kd.R_slice HO1069.out; subst eo14; obtain ⟨Ao15, co15, eo15⟩ := Kd.S_slice HO1072.out; subst eo15) | (go_at_call 70; (with_reducible refine (impl_graph_isWalk.calls k gb1073 a0_0 a0_1 A0_2 c0_2 l0_2 a1_0 a1_1 Ao14 co14 t1067 Ao15 co15 t1070 _ _ l2 true _ ?side1 ?side2 ?side3 ?side4 ?side5 ?side6 ?side7 ?side8 ?side9 A6.out).mono ?_); (case side1 => exact zao16); (case side2 => exact zao6); (case side3 => exact HC0_2.out); (case side4 => exact zao26); (case side5 => exact (Kd.R_reads' HO1069.out).2.1); (case side6 => exact zao25); (case side7 => exact (Kd.S_reads' HO1072.out).2.1); (case side8 => exact zao18); (case side9 => exact HC2.out); rintro e w16 ⟨rfl, hb⟩; have n0_ := Aside0.mk (Kd.R_below zao21 hb); have n1_ := Aside0.mk (Kd.S_below zao20 hb); have n2_ := Aside0.mk (blk_below (g := gb1065) (o := .cells #[.int .i64 a0_0, .int .i64 a0_1, .slice A0_2 l0_2.length c0_2] 30 (0, 0)) zao3 hb); have n3_ := Aside0.mk (blk_below (g := gb1066) (o := .cells #[.int .i64 a1_0, .int .i64 a1_1] 32 (0, 0)) zao8 hb); have n4_ := Aside0.mk (blk_below (g := gb1073) (o := .cells #[.int .i64 a0_0, .int .i64 a0_1, .slice A0_2 l0_2.length c0_2, .int .i64 a1_0, .int .i64 a1_1, .slice Ao14 t1067.length co14, .slice Ao15 t1070.length co15] 60 (0, 0)) zao16 hb); have n5_ := Aside0.mk (below_step zao13 hb); clear HO1069; clear HO1072; clear BK1065; clear BK1066; clear BK1073; clear HB; have HO1069 := n0_; have HO1072 := n1_; have BK1065 := n2_; have BK1066 := n3_; have BK1073 := n4_; have HB := n5_; clear n0_ n1_ n2_ n3_ n4_ n5_; (try clear hb); (try clear hb2); (try clear hk); (try clear hi); (try clear hna_); (try clear hnb_)))
  go_ret2
  exact ⟨_, _, _, zao17, ⟨fun _ => ⟨_, rfl, zao16, GW1073.out⟩, (fun h_ => by cases h_)⟩, zao21, zao20, zao13⟩
 replace c7 := Bool.eq_false_iff.mpr c7
 subst c7
 have H1 : (some (([] : List Int), ([] : List (List Int)), false)) = some (r1, r2, r3) := by rw [if_neg (show ¬ (false = true) by decide)] at H; exact H
 clear H
 have H := H1
 clear H1
 simp only [Option.some.injEq, Prod.mk.injEq] at H
 obtain ⟨rfl, rfl, rfl⟩ := H
 go_enter Try.func80, Try.ntmps80
 go_wp2_with (first | ((with_reducible refine gate_dst (N := 3) rfl ?_); refine box_event ?hg (N := 3) ?hd (cs := #[.int .i64 a0_0, .int .i64 a0_1, .slice A0_2 l0_2.length c0_2]) (t := 30) ?hr ?_; (case hd => rfl); (case hg => rfl); (case hr => first | (go_simp; done) | (go_simp; rfl)); intro gb1065 hg w17 hbox hb; have n0_ := Aside0.mk (below_step zao2 hb); have n1_ := Aside0.mk (hbox); have n2_ := Aside0.mk ((zao31 : w.heap.size ≤ gb1065)); have n3_ := Aside0.mk ((zao31 : w.heap.size ≤ gb1065)); clear HB; have HB := n0_; have BK1065 := n1_; have GW1065 := n2_; have GE1065 := n3_; clear n0_ n1_ n2_ n3_; clear hb hbox hg) | ((with_reducible refine gate_dst (N := 4) rfl ?_); refine box_event ?hg (N := 4) ?hd (cs := #[.int .i64 a1_0, .int .i64 a1_1]) (t := 32) ?hr ?_; (case hd => rfl); (case hg => rfl); (case hr => first | (go_simp; done) | (go_simp; rfl)); intro gb1066 hg w18 hbox hb; have n0_ := Aside0.mk (blk_below (g := gb1065) (o := .cells #[.int .i64 a0_0, .int .i64 a0_1, .slice A0_2 l0_2.length c0_2] 30 (0, 0)) zao3 hb); have n1_ := Aside0.mk (below_step zao5 hb); have n2_ := Aside0.mk (hbox); have n3_ := Aside0.mk ((zao34 : w.heap.size ≤ gb1066)); have n4_ := Aside0.mk ((zao34 : w.heap.size ≤ gb1066)); have n5_ := Aside0.mk ((zao32 : gb1065 ≠ gb1066)); have n6_ := Aside0.mk ((zao33 : gb1066 ≠ gb1065)); clear BK1065; clear HB; have BK1065 := n0_; have HB := n1_; have BK1066 := n2_; have GW1066 := n3_; have GE1066 := n4_; have NB1065_1066 := n5_; have NB1066_1065 := n6_; clear n0_ n1_ n2_ n3_ n4_ n5_ n6_; clear hb hbox hg; have hnb19 := NB1065_1066.out; have hnc19 := NB1066_1065.out; have hcz20_0 : w18.cell? ⟨gb1065, 0, none⟩ = some (.int .i64 a0_0) := (blk_cell BK1065.out 0).trans rfl; have hcz20_1 : w18.cell? ⟨gb1065, 1, none⟩ = some (.int .i64 a0_1) := (blk_cell BK1065.out 1).trans rfl; have hcz20_2 : w18.cell? ⟨gb1065, 2, none⟩ = some (.slice A0_2 l0_2.length c0_2) := (blk_cell BK1065.out 2).trans rfl; have hfz20_0 := blk_frozen BK1065.out 0; have hfz20_1 := blk_frozen BK1065.out 1; have hfz20_2 := blk_frozen BK1065.out 2; have hcz21_0 : w18.cell? ⟨gb1066, 0, none⟩ = some (.int .i64 a1_0) := (blk_cell BK1066.out 0).trans rfl; have hcz21_1 : w18.cell? ⟨gb1066, 1, none⟩ = some (.int .i64 a1_1) := (blk_cell BK1066.out 1).trans rfl; have hfz21_0 := blk_frozen BK1066.out 0; have hfz21_1 := blk_frozen BK1066.out 1) | ((with_reducible refine gate_callee (f := 60) rfl ?_); refine goesL_ (some 13) rfl rfl Try.func60 (by kernel_rfl) rfl #[.agg #[.int .i64 a0_0, .int .i64 a0_1, .slice A0_2 l0_2.length c0_2], .agg #[.int .i64 a1_0, .int .i64 a1_1]] rfl zao15 ?_; (with_reducible refine (impl_graphOf.calls k a0_0 a0_1 _ _ l0_2 a1_0 a1_1 t1067 t1070 true _ ?side1 ?side2 A4.out).mono ?_); (case side1 => exact zao6); (case side2 => exact HC0_2.out); rintro e w22 ⟨v1068, v1071, pv1074, rfl, hgp, ho0, ho1, hb⟩; refine ⟨_, rfl, ?_⟩; obtain ⟨gb1073, rfl, hbox, hge⟩ := hgp.1 rfl; have n0_ := Aside0.mk (Kd.R_lower ho0 (below_size zao1)); have n1_ := Aside0.mk (Kd.S_lower ho1 (below_size zao1)); have n2_ := Aside0.mk (blk_below (g := gb1065) (o := .cells #[.int .i64 a0_0, .int .i64 a0_1, .slice A0_2 l0_2.length c0_2] 30 (0, 0)) zao3 hb); have n3_ := Aside0.mk (blk_below (g := gb1066) (o := .cells #[.int .i64 a1_0, .int .i64 a1_1] 32 (0, 0)) zao8 hb); have n4_ := Aside0.mk (hbox); have n5_ := Aside0.mk ((Nat.le_trans (by exact (below_size zao1)) hge : w.heap.size ≤ gb1073)); have n6_ := Aside0.mk ((Nat.le_trans (by exact (below_size zao1)) hge : w.heap.size ≤ gb1073)); have n7_ := Aside0.mk ((Nat.ne_of_lt (Nat.lt_of_lt_of_le (blk_lt (g := gb1065) (o := .cells #[.int .i64 a0_0, .int .i64 a0_1, .slice A0_2 l0_2.length c0_2] 30 (0, 0)) zao3) hge) : gb1065 ≠ gb1073)); have n8_ := Aside0.mk ((Nat.ne_of_gt (Nat.lt_of_lt_of_le (blk_lt (g := gb1065) (o := .cells #[.int .i64 a0_0, .int .i64 a0_1, .slice A0_2 l0_2.length c0_2] 30 (0, 0)) zao3) hge) : gb1073 ≠ gb1065)); have n9_ := Aside0.mk ((Nat.ne_of_lt (Nat.lt_of_lt_of_le (blk_lt (g := gb1066) (o := .cells #[.int .i64 a1_0, .int .i64 a1_1] 32 (0, 0)) zao8) hge) : gb1066 ≠ gb1073)); have n10_ := Aside0.mk ((Nat.ne_of_gt (Nat.lt_of_lt_of_le (blk_lt (g := gb1066) (o := .cells #[.int .i64 a1_0, .int .i64 a1_1] 32 (0, 0)) zao8) hge) : gb1073 ≠ gb1066)); have n11_ := Aside0.mk (below_step zao1 hb); clear BK1065; clear BK1066; clear HB; have HO1069 := n0_; have HO1072 := n1_; have BK1065 := n2_; have BK1066 := n3_; have BK1073 := n4_; have GW1073 := n5_; have GE1073 := n6_; have NB1065_1073 := n7_; have NB1073_1065 := n8_; have NB1066_1073 := n9_; have NB1073_1066 := n10_; have HB := n11_; clear n0_ n1_ n2_ n3_ n4_ n5_ n6_ n7_ n8_ n9_ n10_ n11_; (try clear hb); (try clear hb2); (try clear hk); (try clear hi); (try clear ho0); (try clear ho1); (try clear hgp); (try clear hbox); (try clear hge); (try clear hna_); (try clear hnb_); obtain ⟨Ao23, co23, eo23⟩ := Kd.R_slice HO1069.out; subst eo23; obtain ⟨Ao24, co24, eo24⟩ := Kd.S_slice HO1072.out; subst eo24) | (go_at_call 70; (with_reducible refine (impl_graph_isWalk.calls k gb1073 a0_0 a0_1 A0_2 c0_2 l0_2 a1_0 a1_1 Ao23 co23 t1067 Ao24 co24 t1070 _ _ l2 false _ ?side1 ?side2 ?side3 ?side4 ?side5 ?side6 ?side7 ?side8 ?side9 A6.out).mono ?_); (case side1 => exact zao16); (case side2 => exact zao6); (case side3 => exact HC0_2.out); (case side4 => exact zao26); (case side5 => exact (Kd.R_reads' HO1069.out).2.1); (case side6 => exact zao25); (case side7 => exact (Kd.S_reads' HO1072.out).2.1); (case side8 => exact zao18); (case side9 => exact HC2.out); rintro e w25 ⟨rfl, hb⟩; have n0_ := Aside0.mk (Kd.R_below zao21 hb); have n1_ := Aside0.mk (Kd.S_below zao20 hb); have n2_ := Aside0.mk (blk_below (g := gb1065) (o := .cells #[.int .i64 a0_0, .int .i64 a0_1, .slice A0_2 l0_2.length c0_2] 30 (0, 0)) zao3 hb); have n3_ := Aside0.mk (blk_below (g := gb1066) (o := .cells #[.int .i64 a1_0, .int .i64 a1_1] 32 (0, 0)) zao8 hb); have n4_ := Aside0.mk (blk_below (g := gb1073) (o := .cells #[.int .i64 a0_0, .int .i64 a0_1, .slice A0_2 l0_2.length c0_2, .int .i64 a1_0, .int .i64 a1_1, .slice Ao23 t1067.length co23, .slice Ao24 t1070.length co24] 60 (0, 0)) zao16 hb); have n5_ := Aside0.mk (below_step zao13 hb); clear HO1069; clear HO1072; clear BK1065; clear BK1066; clear BK1073; clear HB; have HO1069 := n0_; have HO1072 := n1_; have BK1065 := n2_; have BK1066 := n3_; have BK1073 := n4_; have HB := n5_; clear n0_ n1_ n2_ n3_ n4_ n5_; (try clear hb); (try clear hb2); (try clear hk); (try clear hi); (try clear hna_); (try clear hnb_)))
 go_ret2
 exact ⟨_, _, _, zao17, ⟨(fun h_ => by cases h_), fun _ => rfl⟩, zao28, zao27, zao13⟩

end Go.Proofs.Ythoklbeenjppbaa.Q

/- Written by a program of this session: functions of the translation as plain Lean functions, each with a proof that the call does what the plain function says; the conditions stand in each theorem. -/
import Derived.Test.YtjeongckkfkehaaQ0
import Derived.Test.YtjeongckkfkehaaQ12
import Derived.Test.YtjeongckkfkehaaQ18
namespace Go.Proofs.Ytjeongckkfkehaa.Q
open Go.RowKit Go.Proofs.YtjeongckkfkehaaW.PrintWords Go.Proofs.YtjeongckkfkehaaW.PrintLast Go.Proofs.YtjeongckkfkehaaW.PrintMore
attribute [local go_sem] max2_int min2_int max_two min_two max_three min_three max_four min_four   -- for this text's walks alone
set_option linter.unusedVariables false
set_option linter.unusedSimpArgs false

theorem zam1 {p : Prop} (h : p := by repeat (first | (with_reducible first | exact HB.out | apply below_alloc | apply pw_below_drewN | apply below_drew1 | refine below_set ?_ GE1105.out | refine below_set ?_ GE1106.out) | exact HB.out)) : p := h
theorem zam2 {p : Prop} (h : p := by (with_reducible repeat (first | refine blk_drewN ?_ _ | refine blk_drew ?_ | refine blk_alloc ?_ _)); exact BK1105.out) : p := h
theorem zam3 {p : Prop} (h : p := by repeat (first | (with_reducible first | exact HB.out | apply below_alloc | apply pw_below_drewN | apply below_drew1 | refine below_set ?_ GE1105.out) | exact HB.out)) : p := h
theorem zam4 {p : Prop} (h : p := by repeat (first | (with_reducible first | exact HB.out | apply below_alloc | apply pw_below_drewN | apply below_drew1) | exact HB.out)) : p := h
theorem zam5 {p : Prop} (h : p := by repeat (first | (with_reducible first | exact HB.out | apply below_alloc | apply pw_below_drewN | apply below_drew1 | refine below_set ?_ GE0.out) | exact HB.out)) : p := h
theorem zam6 {p : Prop} (h : p := by (try simp only [List.map_toArray, List.map_cons, List.map_nil]); first | done | rfl | (simp only [List.length_drop, List.length_take]; rfl)) : p := h
theorem zam7 {p : Prop} (h : p := by (with_reducible repeat (first | refine blk_drewN ?_ _ | refine blk_drew ?_ | refine blk_alloc ?_ _)); exact BK0.out) : p := h
theorem zam8 {p : Prop} (h : p := by repeat (first | exact (Kd.C_below HR0_2.out HB.out) | (with_reducible refine Kd.C_alloc ?_ _) | (with_reducible refine Kd.C_drewN ?_ _) | (with_reducible refine Kd.C_drew ?_))) : p := h
theorem zam9 {p : Prop} (h : p := by first | rfl | (simp [errW_none, errW_some] <;> rfl) | (simp [*, errW_none, errW_some] <;> rfl)) : p := h
theorem zam10 {p : Prop} (h : p := by (with_reducible repeat (first | refine blk_drewN ?_ _ | refine blk_drew ?_ | refine blk_alloc ?_ _)); exact BK1106.out) : p := h
theorem zam11 {p : Prop} (h : p := by repeat (first | exact (Kd.C_below HR2.out HB.out) | (with_reducible refine Kd.C_alloc ?_ _) | (with_reducible refine Kd.C_drewN ?_ _) | (with_reducible refine Kd.C_drew ?_))) : p := h
theorem zam12 {p : Prop} (h : p := by repeat (first | exact HR0_6.out | (with_reducible refine Kd.C_alloc ?_ _) | (with_reducible refine Kd.C_drewN ?_ _) | (with_reducible refine Kd.C_drew ?_))) : p := h
theorem zam13 {p : Prop} (h : p := by repeat (first | exact HR0_5.out | (with_reducible refine Kd.C_alloc ?_ _) | (with_reducible refine Kd.C_drewN ?_ _) | (with_reducible refine Kd.C_drew ?_))) : p := h
theorem zam14 {p : Prop} (h : p := by repeat (first | exact HR0_2.out | (with_reducible refine Kd.C_alloc ?_ _) | (with_reducible refine Kd.C_drewN ?_ _) | (with_reducible refine Kd.C_drew ?_))) : p := h
theorem zam15 {p : Prop} (h : p := by repeat (first | exact HR1.out | (with_reducible refine Kd.C_alloc ?_ _) | (with_reducible refine Kd.C_drewN ?_ _) | (with_reducible refine Kd.C_drew ?_))) : p := h
theorem zam16 {p : Prop} (h : p := by rw [hg]; exact Nat.ne_of_lt (blk_lt (g := gb1105) (o := .cells #[.int .i64 a0_0, .int .i64 a0_1, .slice A0_2 l0_2.length c0_2] 30 (0, 0)) zam2)) : p := h
theorem zam17 {p : Prop} (h : p := by rw [hg]; exact Nat.ne_of_gt (blk_lt (g := gb1105) (o := .cells #[.int .i64 a0_0, .int .i64 a0_1, .slice A0_2 l0_2.length c0_2] 30 (0, 0)) zam2)) : p := h
/-! ### spec_toTour: function 79 -/
def spec_toTour.f (k : Nat) (a0_0 : Int) (a0_1 : Int) (l0_2 : List Int) (a1_0 : Int) (a1_1 : Int) (l2 : List Int) : Option (Bool) := (spec_toWalk.f k a0_0 a0_1 l0_2 a1_0 a1_1 l2).bind fun t1107 => (if t1107 = true then ((spec_boCells.f k a0_0 a0_1 l0_2).bind fun t1108 => (some ((l2.length : Int) == (t1108.length : Int)))) else (some false))
set_option maxHeartbeats 8000000 in
set_option maxRecDepth 100000 in
theorem spec_toTour.calls (k : Nat) (a0_0 : Int) (a0_1 : Int) (A0_2 : Option Addr) (c0_2 : Nat) (l0_2 : List Int) (a1_0 : Int) (a1_1 : Int) (A2 : Option Addr) (c2 : Nat) (l2 : List Int) (r : Bool) (w : World) (hr0_2 : Kd.C (Kd.int .i64) w A0_2 l0_2.length l0_2) (hc0_2 : l0_2.length ≤ c0_2) (hr2 : Kd.C (Kd.int .i64) w A2 l2.length l2) (hc2 : l2.length ≤ c2) (h : spec_toTour.f k a0_0 a0_1 l0_2 a1_0 a1_1 l2 = some r) :
  Calls Try.prog 79 #[.agg #[.int .i64 a0_0, .int .i64 a0_1, .slice A0_2 l0_2.length c0_2], .agg #[.int .i64 a1_0, .int .i64 a1_1], .slice A2 l2.length c2] w fun e w' => e = .returned (.bool r) ∧ Below w.heap.size w w' := by
 have hu30 := Try.underlying30
 have hu32 := Try.underlying32
 have HR0_2 := Aside0.mk hr0_2
 have HC0_2 := Aside0.mk hc0_2
 clear hr0_2 hc0_2
 have HR2 := Aside0.mk hr2
 have HC2 := Aside0.mk hc2
 clear hr2 hc2
 have HB := Aside0.mk (Below.refl w.heap.size w)
 have H : ((spec_toWalk.f k a0_0 a0_1 l0_2 a1_0 a1_1 l2).bind fun t1107 => (if t1107 = true then ((spec_boCells.f k a0_0 a0_1 l0_2).bind fun t1108 => (some ((l2.length : Int) == (t1108.length : Int)))) else (some false))) = some r := h
 clear h
 replace H := Option.bind_eq_some_iff.mp H
 obtain ⟨t1107, A40, H⟩ := H
 replace H : (if t1107 = true then ((spec_boCells.f k a0_0 a0_1 l0_2).bind fun t1108 => (some ((l2.length : Int) == (t1108.length : Int)))) else (some false)) = some r := H
 have A4 := Aside0.mk A40
 clear A40
 by_cases c5 : t1107 = true
 rotate_left
 ·replace c5 := Bool.eq_false_iff.mpr c5
  subst c5
  have H1 : (some false) = some r := by rw [if_neg (show ¬ (false = true) by decide)] at H; exact H
  clear H
  have H := H1
  clear H1
  obtain rfl := Option.some.inj H
  go_enter Try.func79, Try.ntmps79
  go_wp2_with (first | ((with_reducible refine gate_dst (N := 3) rfl ?_); (try (refine gate_guard (by rfl) ?_; dsimp only)); refine box_event ?hg (N := 3) ?hd (cs := #[.int .i64 a0_0, .int .i64 a0_1, .slice A0_2 l0_2.length c0_2]) (t := 30) ?hr ?_; (case hd => rfl); (case hg => rfl); (case hr => first | (go_simp; done) | (go_simp; rfl)); intro gb1105 hg w16 hbox hb; have n0_ := Aside0.mk (below_step zam4 hb); have n1_ := Aside0.mk (hbox); have n2_ := Aside0.mk ((by rw [hg]; exact (below_size zam4) : w.heap.size ≤ gb1105)); have n3_ := Aside0.mk ((by rw [hg]; exact (below_size zam4) : w.heap.size ≤ gb1105)); clear HB; have HB := n0_; have BK1105 := n1_; have GW1105 := n2_; have GE1105 := n3_; clear n0_ n1_ n2_ n3_; clear hb hbox hg) | ((with_reducible refine gate_dst (N := 4) rfl ?_); (try (refine gate_guard (by rfl) ?_; dsimp only)); refine box_event ?hg (N := 4) ?hd (cs := #[.int .i64 a1_0, .int .i64 a1_1]) (t := 32) ?hr ?_; (case hd => rfl); (case hg => rfl); (case hr => first | (go_simp; done) | (go_simp; rfl)); intro gb1106 hg w17 hbox hb; have n0_ := Aside0.mk (blk_below (g := gb1105) (o := .cells #[.int .i64 a0_0, .int .i64 a0_1, .slice A0_2 l0_2.length c0_2] 30 (0, 0)) zam2 hb); have n1_ := Aside0.mk (below_step zam3 hb); have n2_ := Aside0.mk (hbox); have n3_ := Aside0.mk ((by rw [hg]; exact (below_size zam3) : w.heap.size ≤ gb1106)); have n4_ := Aside0.mk ((by rw [hg]; exact (below_size zam3) : w.heap.size ≤ gb1106)); have n5_ := Aside0.mk ((zam16 : gb1105 ≠ gb1106)); have n6_ := Aside0.mk ((zam17 : gb1106 ≠ gb1105)); clear BK1105; clear HB; have BK1105 := n0_; have HB := n1_; have BK1106 := n2_; have GW1106 := n3_; have GE1106 := n4_; have NB1105_1106 := n5_; have NB1106_1105 := n6_; clear n0_ n1_ n2_ n3_ n4_ n5_ n6_; clear hb hbox hg; have hnb18 := NB1105_1106.out; have hnc18 := NB1106_1105.out; have hcz19_0 : w17.cell? ⟨gb1105, 0, none⟩ = some (.int .i64 a0_0) := (blk_cell BK1105.out 0).trans rfl; have hcz19_1 : w17.cell? ⟨gb1105, 1, none⟩ = some (.int .i64 a0_1) := (blk_cell BK1105.out 1).trans rfl; have hcz19_2 : w17.cell? ⟨gb1105, 2, none⟩ = some (.slice A0_2 l0_2.length c0_2) := (blk_cell BK1105.out 2).trans rfl; have hfz19_0 := blk_frozen BK1105.out 0; have hfz19_1 := blk_frozen BK1105.out 1; have hfz19_2 := blk_frozen BK1105.out 2; have hcz20_0 : w17.cell? ⟨gb1106, 0, none⟩ = some (.int .i64 a1_0) := (blk_cell BK1106.out 0).trans rfl; have hcz20_1 : w17.cell? ⟨gb1106, 1, none⟩ = some (.int .i64 a1_1) := (blk_cell BK1106.out 1).trans rfl; have hfz20_0 := blk_frozen BK1106.out 0; have hfz20_1 := blk_frozen BK1106.out 1) | ((with_reducible refine gate_callee (f := 71) rfl ?_); refine goesL_ (some 10) rfl rfl Try.func71 (by kernel_rfl) rfl #[.agg #[.int .i64 a0_0, .int .i64 a0_1, .slice A0_2 l0_2.length c0_2], .agg #[.int .i64 a1_0, .int .i64 a1_1], .slice A2 l2.length c2] rfl zam6 ?_; (with_reducible refine (spec_toWalk.calls k a0_0 a0_1 _ _ l0_2 a1_0 a1_1 _ _ l2 false _ ?side1 ?side2 ?side3 ?side4 A4.out).mono ?_); (case side1 => exact zam8); (case side2 => exact HC0_2.out); (case side3 => exact zam11); (case side4 => exact HC2.out); rintro e w21 ⟨rfl, hb⟩; refine ⟨_, rfl, ?_⟩; have n0_ := Aside0.mk (blk_below (g := gb1105) (o := .cells #[.int .i64 a0_0, .int .i64 a0_1, .slice A0_2 l0_2.length c0_2] 30 (0, 0)) zam2 hb); have n1_ := Aside0.mk (blk_below (g := gb1106) (o := .cells #[.int .i64 a1_0, .int .i64 a1_1] 32 (0, 0)) zam10 hb); have n2_ := Aside0.mk (below_step zam1 hb); clear BK1105; clear BK1106; clear HB; have BK1105 := n0_; have BK1106 := n1_; have HB := n2_; clear n0_ n1_ n2_; (try clear hb); (try clear hb2); (try clear hk); (try clear hi); (try clear hna_); (try clear hnb_)))
  go_ret
  exact ⟨zam9, zam1⟩
 subst c5
 have H1 : ((spec_boCells.f k a0_0 a0_1 l0_2).bind fun t1108 => (some ((l2.length : Int) == (t1108.length : Int)))) = some r := by rw [if_pos rfl] at H; exact H
 clear H
 have H := H1
 clear H1
 replace H := Option.bind_eq_some_iff.mp H
 obtain ⟨t1108, A60, H⟩ := H
 replace H : (some ((l2.length : Int) == (t1108.length : Int))) = some r := H
 have A6 := Aside0.mk A60
 clear A60
 obtain rfl := Option.some.inj H
 go_enter Try.func79, Try.ntmps79
 go_wp2_with (first | ((with_reducible refine gate_dst (N := 3) rfl ?_); (try (refine gate_guard (by rfl) ?_; dsimp only)); refine box_event ?hg (N := 3) ?hd (cs := #[.int .i64 a0_0, .int .i64 a0_1, .slice A0_2 l0_2.length c0_2]) (t := 30) ?hr ?_; (case hd => rfl); (case hg => rfl); (case hr => first | (go_simp; done) | (go_simp; rfl)); intro gb1105 hg w7 hbox hb; have n0_ := Aside0.mk (below_step zam4 hb); have n1_ := Aside0.mk (hbox); have n2_ := Aside0.mk ((by rw [hg]; exact (below_size zam4) : w.heap.size ≤ gb1105)); have n3_ := Aside0.mk ((by rw [hg]; exact (below_size zam4) : w.heap.size ≤ gb1105)); clear HB; have HB := n0_; have BK1105 := n1_; have GW1105 := n2_; have GE1105 := n3_; clear n0_ n1_ n2_ n3_; clear hb hbox hg) | ((with_reducible refine gate_dst (N := 4) rfl ?_); (try (refine gate_guard (by rfl) ?_; dsimp only)); refine box_event ?hg (N := 4) ?hd (cs := #[.int .i64 a1_0, .int .i64 a1_1]) (t := 32) ?hr ?_; (case hd => rfl); (case hg => rfl); (case hr => first | (go_simp; done) | (go_simp; rfl)); intro gb1106 hg w8 hbox hb; have n0_ := Aside0.mk (blk_below (g := gb1105) (o := .cells #[.int .i64 a0_0, .int .i64 a0_1, .slice A0_2 l0_2.length c0_2] 30 (0, 0)) zam2 hb); have n1_ := Aside0.mk (below_step zam3 hb); have n2_ := Aside0.mk (hbox); have n3_ := Aside0.mk ((by rw [hg]; exact (below_size zam3) : w.heap.size ≤ gb1106)); have n4_ := Aside0.mk ((by rw [hg]; exact (below_size zam3) : w.heap.size ≤ gb1106)); have n5_ := Aside0.mk ((zam16 : gb1105 ≠ gb1106)); have n6_ := Aside0.mk ((zam17 : gb1106 ≠ gb1105)); clear BK1105; clear HB; have BK1105 := n0_; have HB := n1_; have BK1106 := n2_; have GW1106 := n3_; have GE1106 := n4_; have NB1105_1106 := n5_; have NB1106_1105 := n6_; clear n0_ n1_ n2_ n3_ n4_ n5_ n6_; clear hb hbox hg; have hnb9 := NB1105_1106.out; have hnc9 := NB1106_1105.out; have hcz10_0 : w8.cell? ⟨gb1105, 0, none⟩ = some (.int .i64 a0_0) := (blk_cell BK1105.out 0).trans rfl; have hcz10_1 : w8.cell? ⟨gb1105, 1, none⟩ = some (.int .i64 a0_1) := (blk_cell BK1105.out 1).trans rfl; have hcz10_2 : w8.cell? ⟨gb1105, 2, none⟩ = some (.slice A0_2 l0_2.length c0_2) := (blk_cell BK1105.out 2).trans rfl; have hfz10_0 := blk_frozen BK1105.out 0; have hfz10_1 := blk_frozen BK1105.out 1; have hfz10_2 := blk_frozen BK1105.out 2; have hcz11_0 : w8.cell? ⟨gb1106, 0, none⟩ = some (.int .i64 a1_0) := (blk_cell BK1106.out 0).trans rfl; have hcz11_1 : w8.cell? ⟨gb1106, 1, none⟩ = some (.int .i64 a1_1) := (blk_cell BK1106.out 1).trans rfl; have hfz11_0 := blk_frozen BK1106.out 0; have hfz11_1 := blk_frozen BK1106.out 1) | ((with_reducible refine gate_callee (f := 71) rfl ?_); refine goesL_ (some 10) rfl rfl Try.func71 (by kernel_rfl) rfl #[.agg #[.int .i64 a0_0, .int .i64 a0_1, .slice A0_2 l0_2.length c0_2], .agg #[.int .i64 a1_0, .int .i64 a1_1], .slice A2 l2.length c2] rfl zam6 ?_; (with_reducible refine (spec_toWalk.calls k a0_0 a0_1 _ _ l0_2 a1_0 a1_1 _ _ l2 true _ ?side1 ?side2 ?side3 ?side4 A4.out).mono ?_); (case side1 => exact zam8); (case side2 => exact HC0_2.out); (case side3 => exact zam11); (case side4 => exact HC2.out); rintro e w12 ⟨rfl, hb⟩; refine ⟨_, rfl, ?_⟩; have n0_ := Aside0.mk (blk_below (g := gb1105) (o := .cells #[.int .i64 a0_0, .int .i64 a0_1, .slice A0_2 l0_2.length c0_2] 30 (0, 0)) zam2 hb); have n1_ := Aside0.mk (blk_below (g := gb1106) (o := .cells #[.int .i64 a1_0, .int .i64 a1_1] 32 (0, 0)) zam10 hb); have n2_ := Aside0.mk (below_step zam1 hb); clear BK1105; clear BK1106; clear HB; have BK1105 := n0_; have BK1106 := n1_; have HB := n2_; clear n0_ n1_ n2_; (try clear hb); (try clear hb2); (try clear hk); (try clear hi); (try clear hna_); (try clear hnb_); have hcz13_0 : w12.cell? ⟨gb1105, 0, none⟩ = some (.int .i64 a0_0) := (blk_cell BK1105.out 0).trans rfl; have hcz13_1 : w12.cell? ⟨gb1105, 1, none⟩ = some (.int .i64 a0_1) := (blk_cell BK1105.out 1).trans rfl; have hcz13_2 : w12.cell? ⟨gb1105, 2, none⟩ = some (.slice A0_2 l0_2.length c0_2) := (blk_cell BK1105.out 2).trans rfl; have hfz13_0 := blk_frozen BK1105.out 0; have hfz13_1 := blk_frozen BK1105.out 1; have hfz13_2 := blk_frozen BK1105.out 2) | (go_at_call 74; (with_reducible refine (spec_boCells.calls k a0_0 a0_1 _ _ l0_2 t1108 _ ?side1 ?side2 A6.out).mono ?_); (case side1 => exact zam8); (case side2 => exact HC0_2.out); rintro e w14 ⟨v1109, rfl, ho0, hb⟩; have n0_ := Aside0.mk (Kd.R_lower ho0 (below_size zam1)); have n1_ := Aside0.mk (blk_below (g := gb1105) (o := .cells #[.int .i64 a0_0, .int .i64 a0_1, .slice A0_2 l0_2.length c0_2] 30 (0, 0)) zam2 hb); have n2_ := Aside0.mk (blk_below (g := gb1106) (o := .cells #[.int .i64 a1_0, .int .i64 a1_1] 32 (0, 0)) zam10 hb); have n3_ := Aside0.mk (below_step zam1 hb); clear BK1105; clear BK1106; clear HB; have HO1110 := n0_; have BK1105 := n1_; have BK1106 := n2_; have HB := n3_; clear n0_ n1_ n2_ n3_; (try clear hb); (try clear hb2); (try clear hk); (try clear hi); (try clear ho0); (try clear hna_); (try clear hnb_); obtain ⟨Ao15, co15, eo15⟩ := Kd.R_slice HO1110.out; subst eo15))
 go_ret
 exact ⟨zam9, zam1⟩

/-! ### impl_graph_isTour: function 82 -/
def impl_graph_isTour.f (k : Nat) (a0_0 : Int) (a0_1 : Int) (l0_2 : List Int) (a0_3 : Int) (a0_4 : Int) (l0_5 : List Int) (l0_6 : List (List Int)) (l1 : List Int) : Option (Bool) := (impl_graph_isWalk.f k a0_0 a0_1 l0_2 a0_3 a0_4 l0_5 l0_6 l1).bind fun t1151 => (if t1151 = true then (some ((l1.length : Int) == (l0_5.length : Int))) else (some false))
set_option maxHeartbeats 8000000 in
set_option maxRecDepth 100000 in
theorem impl_graph_isTour.calls (k : Nat) (gb0 : Nat) (a0_0 : Int) (a0_1 : Int) (A0_2 : Option Addr) (c0_2 : Nat) (l0_2 : List Int) (a0_3 : Int) (a0_4 : Int) (A0_5 : Option Addr) (c0_5 : Nat) (l0_5 : List Int) (A0_6 : Option Addr) (c0_6 : Nat) (l0_6 : List (List Int)) (A1 : Option Addr) (c1 : Nat) (l1 : List Int) (r : Bool) (w : World) (hg0 : w.heap[gb0]? = some (.cells #[.int .i64 a0_0, .int .i64 a0_1, .slice A0_2 l0_2.length c0_2, .int .i64 a0_3, .int .i64 a0_4, .slice A0_5 l0_5.length c0_5, .slice A0_6 l0_6.length c0_6] 82 (0, 0))) (hr0_2 : Kd.C (Kd.int .i64) w A0_2 l0_2.length l0_2) (hc0_2 : l0_2.length ≤ c0_2) (hr0_5 : Kd.C (Kd.int .i64) w A0_5 l0_5.length l0_5) (hc0_5 : l0_5.length ≤ c0_5) (hr0_6 : Kd.C (Kd.slice 3 (Kd.int .i64)) w A0_6 l0_6.length l0_6) (hc0_6 : l0_6.length ≤ c0_6) (hr1 : Kd.C (Kd.int .i64) w A1 l1.length l1) (hc1 : l1.length ≤ c1) (h : impl_graph_isTour.f k a0_0 a0_1 l0_2 a0_3 a0_4 l0_5 l0_6 l1 = some r) :
  Calls Try.prog 82 #[.pointer (some ⟨gb0, 0, none⟩), .slice A1 l1.length c1] w fun e w' => e = .returned (.bool r) ∧ Below w.heap.size w w' := by
 have HR0_2 := Aside0.mk hr0_2
 have HC0_2 := Aside0.mk hc0_2
 clear hr0_2 hc0_2
 have HR0_5 := Aside0.mk hr0_5
 have HC0_5 := Aside0.mk hc0_5
 clear hr0_5 hc0_5
 have HR0_6 := Aside0.mk hr0_6
 have HC0_6 := Aside0.mk hc0_6
 clear hr0_6 hc0_6
 have HR1 := Aside0.mk hr1
 have HC1 := Aside0.mk hc1
 clear hr1 hc1
 have BK0 := Aside0.mk hg0
 clear hg0
 have HB := Aside0.mk (Below.refl w.heap.size w)
 have H : ((impl_graph_isWalk.f k a0_0 a0_1 l0_2 a0_3 a0_4 l0_5 l0_6 l1).bind fun t1151 => (if t1151 = true then (some ((l1.length : Int) == (l0_5.length : Int))) else (some false))) = some r := h
 clear h
 replace H := Option.bind_eq_some_iff.mp H
 obtain ⟨t1151, A30, H⟩ := H
 replace H : (if t1151 = true then (some ((l1.length : Int) == (l0_5.length : Int))) else (some false)) = some r := H
 have A3 := Aside0.mk A30
 clear A30
 by_cases c4 : t1151 = true
 ·subst c4
  have H1 : (some ((l1.length : Int) == (l0_5.length : Int))) = some r := by rw [if_pos rfl] at H; exact H
  clear H
  have H := H1
  clear H1
  obtain rfl := Option.some.inj H
  go_enter Try.func82, Try.ntmps82
  go_wp2_with (first | ((with_reducible refine gate_callee (f := 72) rfl ?_); refine goesL_ (some 7) rfl rfl Try.func72 (by kernel_rfl) rfl #[.pointer (some ⟨gb0, 0, none⟩), .slice A1 l1.length c1] rfl zam6 ?_; (with_reducible refine (impl_graph_isWalk.calls k gb0 a0_0 a0_1 A0_2 c0_2 l0_2 a0_3 a0_4 A0_5 c0_5 l0_5 A0_6 c0_6 l0_6 _ _ l1 true _ ?side1 ?side2 ?side3 ?side4 ?side5 ?side6 ?side7 ?side8 ?side9 A3.out).mono ?_); (case side1 => exact zam7); (case side2 => exact zam14); (case side3 => exact HC0_2.out); (case side4 => exact zam13); (case side5 => exact HC0_5.out); (case side6 => exact zam12); (case side7 => exact HC0_6.out); (case side8 => exact zam15); (case side9 => exact HC1.out); rintro e w5 ⟨rfl, hb⟩; refine ⟨_, rfl, ?_⟩; have n0_ := Aside0.mk (blk_below (g := gb0) (o := .cells #[.int .i64 a0_0, .int .i64 a0_1, .slice A0_2 l0_2.length c0_2, .int .i64 a0_3, .int .i64 a0_4, .slice A0_5 l0_5.length c0_5, .slice A0_6 l0_6.length c0_6] 82 (0, 0)) zam7 hb); have n1_ := Aside0.mk (below_step zam5 hb); clear BK0; clear HB; have BK0 := n0_; have HB := n1_; clear n0_ n1_; (try clear hb); (try clear hb2); (try clear hk); (try clear hi); (try clear hna_); (try clear hnb_); have hcz6_0 : w5.cell? ⟨gb0, 0, none⟩ = some (.int .i64 a0_0) := (blk_cell BK0.out 0).trans rfl; have hcz6_1 : w5.cell? ⟨gb0, 1, none⟩ = some (.int .i64 a0_1) := (blk_cell BK0.out 1).trans rfl; have hcz6_2 : w5.cell? ⟨gb0, 2, none⟩ = some (.slice A0_2 l0_2.length c0_2) := (blk_cell BK0.out 2).trans rfl; have hcz6_3 : w5.cell? ⟨gb0, 3, none⟩ = some (.int .i64 a0_3) := (blk_cell BK0.out 3).trans rfl; have hcz6_4 : w5.cell? ⟨gb0, 4, none⟩ = some (.int .i64 a0_4) := (blk_cell BK0.out 4).trans rfl; have hcz6_5 : w5.cell? ⟨gb0, 5, none⟩ = some (.slice A0_5 l0_5.length c0_5) := (blk_cell BK0.out 5).trans rfl; have hcz6_6 : w5.cell? ⟨gb0, 6, none⟩ = some (.slice A0_6 l0_6.length c0_6) := (blk_cell BK0.out 6).trans rfl; have hfz6_0 := blk_frozen BK0.out 0; have hfz6_1 := blk_frozen BK0.out 1; have hfz6_2 := blk_frozen BK0.out 2; have hfz6_3 := blk_frozen BK0.out 3; have hfz6_4 := blk_frozen BK0.out 4; have hfz6_5 := blk_frozen BK0.out 5; have hfz6_6 := blk_frozen BK0.out 6))
  go_ret
  exact ⟨zam9, zam5⟩
 replace c4 := Bool.eq_false_iff.mpr c4
 subst c4
 have H1 : (some false) = some r := by rw [if_neg (show ¬ (false = true) by decide)] at H; exact H
 clear H
 have H := H1
 clear H1
 obtain rfl := Option.some.inj H
 go_enter Try.func82, Try.ntmps82
 go_wp2_with (first | ((with_reducible refine gate_callee (f := 72) rfl ?_); refine goesL_ (some 7) rfl rfl Try.func72 (by kernel_rfl) rfl #[.pointer (some ⟨gb0, 0, none⟩), .slice A1 l1.length c1] rfl zam6 ?_; (with_reducible refine (impl_graph_isWalk.calls k gb0 a0_0 a0_1 A0_2 c0_2 l0_2 a0_3 a0_4 A0_5 c0_5 l0_5 A0_6 c0_6 l0_6 _ _ l1 false _ ?side1 ?side2 ?side3 ?side4 ?side5 ?side6 ?side7 ?side8 ?side9 A3.out).mono ?_); (case side1 => exact zam7); (case side2 => exact zam14); (case side3 => exact HC0_2.out); (case side4 => exact zam13); (case side5 => exact HC0_5.out); (case side6 => exact zam12); (case side7 => exact HC0_6.out); (case side8 => exact zam15); (case side9 => exact HC1.out); rintro e w7 ⟨rfl, hb⟩; refine ⟨_, rfl, ?_⟩; have n0_ := Aside0.mk (blk_below (g := gb0) (o := .cells #[.int .i64 a0_0, .int .i64 a0_1, .slice A0_2 l0_2.length c0_2, .int .i64 a0_3, .int .i64 a0_4, .slice A0_5 l0_5.length c0_5, .slice A0_6 l0_6.length c0_6] 82 (0, 0)) zam7 hb); have n1_ := Aside0.mk (below_step zam5 hb); clear BK0; clear HB; have BK0 := n0_; have HB := n1_; clear n0_ n1_; (try clear hb); (try clear hb2); (try clear hk); (try clear hi); (try clear hna_); (try clear hnb_)))
 go_ret
 exact ⟨zam9, zam5⟩

end Go.Proofs.Ytjeongckkfkehaa.Q

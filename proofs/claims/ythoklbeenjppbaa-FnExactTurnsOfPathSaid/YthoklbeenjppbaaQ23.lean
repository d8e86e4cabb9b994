/- Written by a program of this session: functions of the translation as plain Lean functions, each with a proof that the call does what the plain function says; the conditions stand in each theorem. -/
import Derived.Test.YthoklbeenjppbaaQ0
import Derived.Test.YthoklbeenjppbaaQ1
import Derived.Test.YthoklbeenjppbaaQ21
namespace Go.Proofs.Ythoklbeenjppbaa.Q
open Go.RowKit Go.Proofs.YthoklbeenjppbaaW.PrintWords Go.Proofs.YthoklbeenjppbaaW.PrintLast Go.Proofs.YthoklbeenjppbaaW.PrintMore
attribute [local go_sem] max2_int min2_int max_two min_two max_three min_three max_four min_four   -- for this text's walks alone
set_option linter.unusedVariables false
set_option linter.unusedSimpArgs false

theorem zx1 {p : Prop} (h : p := by repeat (first | (with_reducible first | exact HB.out | apply below_alloc | apply pw_below_drewN | apply below_drew1) | exact HB.out)) : p := h
theorem zx2 {p : Prop} (h : p := by (with_reducible repeat (first | refine blk_drewN ?_ _ | refine blk_drew ?_ | refine blk_alloc ?_ _)); exact BK538.out) : p := h
theorem zx3 {p : Prop} (h : p := by repeat (first | (with_reducible first | exact HB.out | apply below_alloc | apply pw_below_drewN | apply below_drew1 | refine below_set ?_ GE538.out) | exact HB.out)) : p := h
theorem zx4 {p : Prop} (h : p := by repeat (first | (with_reducible first | exact HB.out | apply below_alloc | apply pw_below_drewN | apply below_drew1 | refine below_set ?_ GE538.out | refine below_set ?_ GE539.out) | exact HB.out)) : p := h
theorem zx5 {p : Prop} (h : p := by repeat (first | exact (Kd.C_below HR0_2.out HB.out) | (with_reducible refine Kd.C_alloc ?_ _) | (with_reducible refine Kd.C_drewN ?_ _) | (with_reducible refine Kd.C_drew ?_))) : p := h
theorem zx6 {p : Prop} (h : p := by (with_reducible repeat (first | refine blk_drewN ?_ _ | refine blk_drew ?_ | refine blk_alloc ?_ _)); exact BK539.out) : p := h
theorem zx7 {p : Prop} (h : p := by first | rfl | (simp [errW_none, errW_some] <;> rfl) | (simp [*, errW_none, errW_some] <;> rfl)) : p := h
theorem zx8 {p : Prop} (h : p := by (try simp only [List.map_toArray, List.map_cons, List.map_nil]); first | done | rfl | (simp only [List.length_drop, List.length_take]; rfl)) : p := h
theorem zx9 {p : Prop} (h : p := by rw [hg]; exact (below_size zx1)) : p := h
theorem zx10 {p : Prop} (h : p := by rw [hg]; exact Nat.ne_of_lt (blk_lt (g := gb538) (o := .cells #[.int .i64 a0_0, .int .i64 a0_1, .slice A0_2 l0_2.length c0_2] 30 (0, 0)) zx2)) : p := h
theorem zx11 {p : Prop} (h : p := by rw [hg]; exact Nat.ne_of_gt (blk_lt (g := gb538) (o := .cells #[.int .i64 a0_0, .int .i64 a0_1, .slice A0_2 l0_2.length c0_2] 30 (0, 0)) zx2)) : p := h
/-! ### spec_crPath: function 62 -/
def spec_crPath.f (k : Nat) (a0_0 : Int) (a0_1 : Int) (l0_2 : List Int) (a1_0 : Int) (a1_1 : Int) (l2 : List Int) : Option (Bool) := (spec_boTwo.f k a0_0 a0_1 l0_2 a1_0 a1_1).bind fun t540 => (if t540 = true then ((spec_boPath.f k a0_0 a0_1 l0_2 a1_0 a1_1 l2).bind fun t541 => (some t541)) else (some false))
set_option maxHeartbeats 8000000 in
set_option maxRecDepth 100000 in
theorem spec_crPath.calls (k : Nat) (a0_0 : Int) (a0_1 : Int) (A0_2 : Option Addr) (c0_2 : Nat) (l0_2 : List Int) (a1_0 : Int) (a1_1 : Int) (A2 : Option Addr) (c2 : Nat) (l2 : List Int) (r : Bool) (w : World) (hr0_2 : Kd.C (Kd.int .i64) w A0_2 l0_2.length l0_2) (hc0_2 : l0_2.length ≤ c0_2) (hr2 : Kd.C (Kd.int .i64) w A2 l2.length l2) (hc2 : l2.length ≤ c2) (h : spec_crPath.f k a0_0 a0_1 l0_2 a1_0 a1_1 l2 = some r) :
  Calls Try.prog 62 #[.agg #[.int .i64 a0_0, .int .i64 a0_1, .slice A0_2 l0_2.length c0_2], .agg #[.int .i64 a1_0, .int .i64 a1_1], .slice A2 l2.length c2] w fun e w' => e = .returned (.bool r) ∧ Below w.heap.size w w' := by
 have hu30 := Try.underlying30
 have hu32 := Try.underlying32
 have HR0_2 := Aside0.mk hr0_2
 have HC0_2 := Aside0.mk hc0_2
 clear hr0_2 hc0_2
 have HR2 := Aside0.mk hr2
 have HC2 := Aside0.mk hc2
 clear hr2 hc2
 have HB := Aside0.mk (Below.refl w.heap.size w)
 have H : ((spec_boTwo.f k a0_0 a0_1 l0_2 a1_0 a1_1).bind fun t540 => (if t540 = true then ((spec_boPath.f k a0_0 a0_1 l0_2 a1_0 a1_1 l2).bind fun t541 => (some t541)) else (some false))) = some r := h
 clear h
 replace H := Option.bind_eq_some_iff.mp H
 obtain ⟨t540, A40, H⟩ := H
 replace H : (if t540 = true then ((spec_boPath.f k a0_0 a0_1 l0_2 a1_0 a1_1 l2).bind fun t541 => (some t541)) else (some false)) = some r := H
 have A4 := Aside0.mk A40
 clear A40
 by_cases c5 : t540 = true
 rotate_left
 ·replace c5 := Bool.eq_false_iff.mpr c5
  subst c5
  have H1 : (some false) = some r := by rw [if_neg (show ¬ (false = true) by decide)] at H; exact H
  clear H
  have H := H1
  clear H1
  obtain rfl := Option.some.inj H
  go_enter Try.func62, Try.ntmps62
  go_wp2_with (first | ((with_reducible refine gate_dst (N := 3) rfl ?_); refine box_event ?hg (N := 3) ?hd (cs := #[.int .i64 a0_0, .int .i64 a0_1, .slice A0_2 l0_2.length c0_2]) (t := 30) ?hr ?_; (case hd => rfl); (case hg => rfl); (case hr => first | (go_simp; done) | (go_simp; rfl)); intro gb538 hg w16 hbox hb; have n0_ := Aside0.mk (below_step zx1 hb); have n1_ := Aside0.mk (hbox); have n2_ := Aside0.mk ((zx9 : w.heap.size ≤ gb538)); have n3_ := Aside0.mk ((zx9 : w.heap.size ≤ gb538)); clear HB; have HB := n0_; have BK538 := n1_; have GW538 := n2_; have GE538 := n3_; clear n0_ n1_ n2_ n3_; clear hb hbox hg) | ((with_reducible refine gate_dst (N := 4) rfl ?_); refine box_event ?hg (N := 4) ?hd (cs := #[.int .i64 a1_0, .int .i64 a1_1]) (t := 32) ?hr ?_; (case hd => rfl); (case hg => rfl); (case hr => first | (go_simp; done) | (go_simp; rfl)); intro gb539 hg w17 hbox hb; have n0_ := Aside0.mk (blk_below (g := gb538) (o := .cells #[.int .i64 a0_0, .int .i64 a0_1, .slice A0_2 l0_2.length c0_2] 30 (0, 0)) zx2 hb); have n1_ := Aside0.mk (below_step zx3 hb); have n2_ := Aside0.mk (hbox); have n3_ := Aside0.mk ((by rw [hg]; exact (below_size zx3) : w.heap.size ≤ gb539)); have n4_ := Aside0.mk ((by rw [hg]; exact (below_size zx3) : w.heap.size ≤ gb539)); have n5_ := Aside0.mk ((zx10 : gb538 ≠ gb539)); have n6_ := Aside0.mk ((zx11 : gb539 ≠ gb538)); clear BK538; clear HB; have BK538 := n0_; have HB := n1_; have BK539 := n2_; have GW539 := n3_; have GE539 := n4_; have NB538_539 := n5_; have NB539_538 := n6_; clear n0_ n1_ n2_ n3_ n4_ n5_ n6_; clear hb hbox hg; have hnb18 := NB538_539.out; have hnc18 := NB539_538.out; have hcz19_0 : w17.cell? ⟨gb538, 0, none⟩ = some (.int .i64 a0_0) := (blk_cell BK538.out 0).trans rfl; have hcz19_1 : w17.cell? ⟨gb538, 1, none⟩ = some (.int .i64 a0_1) := (blk_cell BK538.out 1).trans rfl; have hcz19_2 : w17.cell? ⟨gb538, 2, none⟩ = some (.slice A0_2 l0_2.length c0_2) := (blk_cell BK538.out 2).trans rfl; have hfz19_0 := blk_frozen BK538.out 0; have hfz19_1 := blk_frozen BK538.out 1; have hfz19_2 := blk_frozen BK538.out 2; have hcz20_0 : w17.cell? ⟨gb539, 0, none⟩ = some (.int .i64 a1_0) := (blk_cell BK539.out 0).trans rfl; have hcz20_1 : w17.cell? ⟨gb539, 1, none⟩ = some (.int .i64 a1_1) := (blk_cell BK539.out 1).trans rfl; have hfz20_0 := blk_frozen BK539.out 0; have hfz20_1 := blk_frozen BK539.out 1) | ((with_reducible refine gate_callee (f := 57) rfl ?_); refine goesL_ (some 9) rfl rfl Try.func57 (by kernel_rfl) rfl #[.agg #[.int .i64 a0_0, .int .i64 a0_1, .slice A0_2 l0_2.length c0_2], .agg #[.int .i64 a1_0, .int .i64 a1_1]] rfl zx8 ?_; (with_reducible refine (spec_boTwo.calls k a0_0 a0_1 _ _ l0_2 a1_0 a1_1 false _ ?side1 ?side2 A4.out).mono ?_); (case side1 => exact zx5); (case side2 => exact HC0_2.out); rintro e w21 ⟨rfl, hb⟩; refine ⟨_, rfl, ?_⟩; have n0_ := Aside0.mk (blk_below (g := gb538) (o := .cells #[.int .i64 a0_0, .int .i64 a0_1, .slice A0_2 l0_2.length c0_2] 30 (0, 0)) zx2 hb); have n1_ := Aside0.mk (blk_below (g := gb539) (o := .cells #[.int .i64 a1_0, .int .i64 a1_1] 32 (0, 0)) zx6 hb); have n2_ := Aside0.mk (below_step zx4 hb); clear BK538; clear BK539; clear HB; have BK538 := n0_; have BK539 := n1_; have HB := n2_; clear n0_ n1_ n2_; (try clear hb); (try clear hb2); (try clear hk); (try clear hi); (try clear hna_); (try clear hnb_)))
  go_ret
  exact ⟨zx7, zx4⟩
 subst c5
 have H1 : ((spec_boPath.f k a0_0 a0_1 l0_2 a1_0 a1_1 l2).bind fun t541 => (some t541)) = some r := by rw [if_pos rfl] at H; exact H
 clear H
 have H := H1
 clear H1
 replace H := Option.bind_eq_some_iff.mp H
 obtain ⟨t541, A60, H⟩ := H
 replace H : (some t541) = some r := H
 have A6 := Aside0.mk A60
 clear A60
 obtain rfl := Option.some.inj H
 go_enter Try.func62, Try.ntmps62
 go_wp2_with (first | ((with_reducible refine gate_dst (N := 3) rfl ?_); refine box_event ?hg (N := 3) ?hd (cs := #[.int .i64 a0_0, .int .i64 a0_1, .slice A0_2 l0_2.length c0_2]) (t := 30) ?hr ?_; (case hd => rfl); (case hg => rfl); (case hr => first | (go_simp; done) | (go_simp; rfl)); intro gb538 hg w7 hbox hb; have n0_ := Aside0.mk (below_step zx1 hb); have n1_ := Aside0.mk (hbox); have n2_ := Aside0.mk ((zx9 : w.heap.size ≤ gb538)); have n3_ := Aside0.mk ((zx9 : w.heap.size ≤ gb538)); clear HB; have HB := n0_; have BK538 := n1_; have GW538 := n2_; have GE538 := n3_; clear n0_ n1_ n2_ n3_; clear hb hbox hg) | ((with_reducible refine gate_dst (N := 4) rfl ?_); refine box_event ?hg (N := 4) ?hd (cs := #[.int .i64 a1_0, .int .i64 a1_1]) (t := 32) ?hr ?_; (case hd => rfl); (case hg => rfl); (case hr => first | (go_simp; done) | (go_simp; rfl)); intro gb539 hg w8 hbox hb; have n0_ := Aside0.mk (blk_below (g := gb538) (o := .cells #[.int .i64 a0_0, .int .i64 a0_1, .slice A0_2 l0_2.length c0_2] 30 (0, 0)) zx2 hb); have n1_ := Aside0.mk (below_step zx3 hb); have n2_ := Aside0.mk (hbox); have n3_ := Aside0.mk ((by rw [hg]; exact (below_size zx3) : w.heap.size ≤ gb539)); have n4_ := Aside0.mk ((by rw [hg]; exact (below_size zx3) : w.heap.size ≤ gb539)); have n5_ := Aside0.mk ((zx10 : gb538 ≠ gb539)); have n6_ := Aside0.mk ((zx11 : gb539 ≠ gb538)); clear BK538; clear HB; have BK538 := n0_; have HB := n1_; have BK539 := n2_; have GW539 := n3_; have GE539 := n4_; have NB538_539 := n5_; have NB539_538 := n6_; clear n0_ n1_ n2_ n3_ n4_ n5_ n6_; clear hb hbox hg; have hnb9 := NB538_539.out; have hnc9 := NB539_538.out; have hcz10_0 : w8.cell? ⟨gb538, 0, none⟩ = some (.int .i64 a0_0) := (blk_cell BK538.out 0).trans rfl; have hcz10_1 : w8.cell? ⟨gb538, 1, none⟩ = some (.int .i64 a0_1) := (blk_cell BK538.out 1).trans rfl; have hcz10_2 : w8.cell? ⟨gb538, 2, none⟩ = some (.slice A0_2 l0_2.length c0_2) := (blk_cell BK538.out 2).trans rfl; have hfz10_0 := blk_frozen BK538.out 0; have hfz10_1 := blk_frozen BK538.out 1; have hfz10_2 := blk_frozen BK538.out 2; have hcz11_0 : w8.cell? ⟨gb539, 0, none⟩ = some (.int .i64 a1_0) := (blk_cell BK539.out 0).trans rfl; have hcz11_1 : w8.cell? ⟨gb539, 1, none⟩ = some (.int .i64 a1_1) := (blk_cell BK539.out 1).trans rfl; have hfz11_0 := blk_frozen BK539.out 0; have hfz11_1 := blk_frozen BK539.out 1) | ((with_reducible refine gate_callee (f := 57) rfl ?_); refine goesL_ (some 9) rfl rfl Try.func57 (by kernel_rfl) rfl #[.agg #[.int .i64 a0_0, .int .i64 a0_1, .slice A0_2 l0_2.length c0_2], .agg #[.int .i64 a1_0, .int .i64 a1_1]] rfl zx8 ?_; (with_reducible refine (spec_boTwo.calls k a0_0 a0_1 _ _ l0_2 a1_0 a1_1 true _ ?side1 ?side2 A4.out).mono ?_); (case side1 => exact zx5); (case side2 => exact HC0_2.out); rintro e w12 ⟨rfl, hb⟩; refine ⟨_, rfl, ?_⟩; have n0_ := Aside0.mk (blk_below (g := gb538) (o := .cells #[.int .i64 a0_0, .int .i64 a0_1, .slice A0_2 l0_2.length c0_2] 30 (0, 0)) zx2 hb); have n1_ := Aside0.mk (blk_below (g := gb539) (o := .cells #[.int .i64 a1_0, .int .i64 a1_1] 32 (0, 0)) zx6 hb); have n2_ := Aside0.mk (below_step zx4 hb); clear BK538; clear BK539; clear HB; have BK538 := n0_; have BK539 := n1_; have HB := n2_; clear n0_ n1_ n2_; (try clear hb); (try clear hb2); (try clear hk); (try clear hi); (try clear hna_); (try clear hnb_); have hcz13_0 : w12.cell? ⟨gb538, 0, none⟩ = some (.int .i64 a0_0) := (blk_cell BK538.out 0).trans rfl; have hcz13_1 : w12.cell? ⟨gb538, 1, none⟩ = some (.int .i64 a0_1) := (blk_cell BK538.out 1).trans rfl; have hcz13_2 : w12.cell? ⟨gb538, 2, none⟩ = some (.slice A0_2 l0_2.length c0_2) := (blk_cell BK538.out 2).trans rfl; have hfz13_0 := blk_frozen BK538.out 0; have hfz13_1 := blk_frozen BK538.out 1; have hfz13_2 := blk_frozen BK538.out 2; have hcz14_0 : w12.cell? ⟨gb539, 0, none⟩ = some (.int .i64 a1_0) := (blk_cell BK539.out 0).trans rfl; have hcz14_1 : w12.cell? ⟨gb539, 1, none⟩ = some (.int .i64 a1_1) := (blk_cell BK539.out 1).trans rfl; have hfz14_0 := blk_frozen BK539.out 0; have hfz14_1 := blk_frozen BK539.out 1) | (go_at_call 98; (with_reducible refine (spec_boPath.calls k a0_0 a0_1 _ _ l0_2 a1_0 a1_1 _ _ l2 t541 _ ?side1 ?side2 ?side3 ?side4 A6.out).mono ?_); (case side1 => exact zx5); (case side2 => exact HC0_2.out); (case side3 => repeat (first | exact (Kd.C_below HR2.out HB.out) | (with_reducible refine Kd.C_alloc ?_ _) | (with_reducible refine Kd.C_drewN ?_ _) | (with_reducible refine Kd.C_drew ?_))); (case side4 => exact HC2.out); rintro e w15 ⟨rfl, hb⟩; have n0_ := Aside0.mk (blk_below (g := gb538) (o := .cells #[.int .i64 a0_0, .int .i64 a0_1, .slice A0_2 l0_2.length c0_2] 30 (0, 0)) zx2 hb); have n1_ := Aside0.mk (blk_below (g := gb539) (o := .cells #[.int .i64 a1_0, .int .i64 a1_1] 32 (0, 0)) zx6 hb); have n2_ := Aside0.mk (below_step zx4 hb); clear BK538; clear BK539; clear HB; have BK538 := n0_; have BK539 := n1_; have HB := n2_; clear n0_ n1_ n2_; (try clear hb); (try clear hb2); (try clear hk); (try clear hi); (try clear hna_); (try clear hnb_)))
 go_ret
 exact ⟨zx7, zx4⟩

/-! ### spec_l1Sign: function 63 -/
def spec_l1Sign.f (a0 : Int) : Option (Int) := if a0 > 0 then (some 1) else (if a0 < 0 then (some (-1)) else (some 0))
set_option maxHeartbeats 8000000 in
set_option maxRecDepth 100000 in
theorem spec_l1Sign.calls (a0 : Int) (r : Int) (w : World) (h : spec_l1Sign.f a0 = some r) :
  Calls Try.prog 63 #[.int .i64 a0] w fun e w' => e = .returned (.int .i64 r) ∧ Drawn0 w w' := by
 have H : (if a0 > 0 then (some 1) else (if a0 < 0 then (some (-1)) else (some 0))) = some r := h
 clear h
 by_cases c2 : a0 > 0
 ·rw [if_pos c2] at H
  have c2b0 : decide (0 < a0) = true := decide_eq_true c2
  clear c2
  obtain rfl := Option.some.inj H
  go_enter Try.func63, Try.ntmps63
  go_wp2
  go_ret
  exact ⟨by first | rfl | (simp; done) | (simp [*]; done), by repeat (first | exact Drawn0.refl _ | apply Drawn0.step)⟩
 rw [if_neg c2] at H
 have c2b0 : decide (0 < a0) = false := decide_eq_false c2
 clear c2
 by_cases c3 : a0 < 0
 ·rw [if_pos c3] at H
  have c3b0 : decide (a0 < 0) = true := decide_eq_true c3
  clear c3
  obtain rfl := Option.some.inj H
  go_enter Try.func63, Try.ntmps63
  go_wp2
  go_ret
  exact ⟨by first | rfl | (simp; done) | (simp [*]; done), by repeat (first | exact Drawn0.refl _ | apply Drawn0.step)⟩
 rw [if_neg c3] at H
 have c3b0 : decide (a0 < 0) = false := decide_eq_false c3
 clear c3
 obtain rfl := Option.some.inj H
 go_enter Try.func63, Try.ntmps63
 go_wp2
 go_ret
 exact ⟨by first | rfl | (simp; done) | (simp [*]; done), by repeat (first | exact Drawn0.refl _ | apply Drawn0.step)⟩

/-! ### spec_crCross: function 64 -/
def spec_crCross.f (a0_0 : Int) (a0_1 : Int) (l0_2 : List Int) (a1 : Int) (a2 : Int) (a3 : Int) : Option (Int) := if a0_0 = 0 then (none) else (some (wrap64 ((wrap64 ((wrap64 ((Int.tmod a2 a0_0) - (Int.tmod a1 a0_0))) * (wrap64 ((wrap64 (Int.tdiv a3 a0_0)) - (wrap64 (Int.tdiv a1 a0_0)))))) - (wrap64 ((wrap64 ((wrap64 (Int.tdiv a2 a0_0)) - (wrap64 (Int.tdiv a1 a0_0)))) * (wrap64 ((Int.tmod a3 a0_0) - (Int.tmod a1 a0_0))))))))
set_option maxHeartbeats 8000000 in
set_option maxRecDepth 100000 in
theorem spec_crCross.calls (a0_0 : Int) (a0_1 : Int) (A0_2 : Option Addr) (c0_2 : Nat) (l0_2 : List Int) (a1 : Int) (a2 : Int) (a3 : Int) (r : Int) (w : World) (hr0_2 : Kd.C (Kd.int .i64) w A0_2 l0_2.length l0_2) (hc0_2 : l0_2.length ≤ c0_2) (h : spec_crCross.f a0_0 a0_1 l0_2 a1 a2 a3 = some r) :
  Calls Try.prog 64 #[.agg #[.int .i64 a0_0, .int .i64 a0_1, .slice A0_2 l0_2.length c0_2], .int .i64 a1, .int .i64 a2, .int .i64 a3] w fun e w' => e = .returned (.int .i64 r) ∧ Below w.heap.size w w' := by
 have hu30 := Try.underlying30
 have HR0_2 := Aside0.mk hr0_2
 have HC0_2 := Aside0.mk hc0_2
 clear hr0_2 hc0_2
 have HB := Aside0.mk (Below.refl w.heap.size w)
 have H : (if a0_0 = 0 then (none) else (some (wrap64 ((wrap64 ((wrap64 ((Int.tmod a2 a0_0) - (Int.tmod a1 a0_0))) * (wrap64 ((wrap64 (Int.tdiv a3 a0_0)) - (wrap64 (Int.tdiv a1 a0_0)))))) - (wrap64 ((wrap64 ((wrap64 (Int.tdiv a2 a0_0)) - (wrap64 (Int.tdiv a1 a0_0)))) * (wrap64 ((Int.tmod a3 a0_0) - (Int.tmod a1 a0_0))))))))) = some r := h
 clear h
 by_cases c5 : a0_0 = 0
 ·rw [if_pos c5] at H
  exact absurd H (by simp)
 rw [if_neg c5] at H
 have c5b0 : (a0_0 == 0) = false := beq_eq_false_iff_ne.mpr c5
 have c5b1 : (a0_0 != 0) = true := bne_iff_ne.mpr c5
 obtain rfl := Option.some.inj H
 go_enter Try.func64, Try.ntmps64
 go_wp2_with (first | ((with_reducible refine gate_dst (N := 4) rfl ?_); refine box_event ?hg (N := 4) ?hd (cs := #[.int .i64 a0_0, .int .i64 a0_1, .slice A0_2 l0_2.length c0_2]) (t := 30) ?hr ?_; (case hd => rfl); (case hg => rfl); (case hr => first | (go_simp; done) | (go_simp; rfl)); intro gb542 hg w6 hbox hb; have n0_ := Aside0.mk (below_step zx1 hb); have n1_ := Aside0.mk (hbox); have n2_ := Aside0.mk ((zx9 : w.heap.size ≤ gb542)); have n3_ := Aside0.mk ((zx9 : w.heap.size ≤ gb542)); clear HB; have HB := n0_; have BK542 := n1_; have GW542 := n2_; have GE542 := n3_; clear n0_ n1_ n2_ n3_; clear hb hbox hg; have hcz7_0 : w6.cell? ⟨gb542, 0, none⟩ = some (.int .i64 a0_0) := (blk_cell BK542.out 0).trans rfl; have hcz7_1 : w6.cell? ⟨gb542, 1, none⟩ = some (.int .i64 a0_1) := (blk_cell BK542.out 1).trans rfl; have hcz7_2 : w6.cell? ⟨gb542, 2, none⟩ = some (.slice A0_2 l0_2.length c0_2) := (blk_cell BK542.out 2).trans rfl; have hfz7_0 := blk_frozen BK542.out 0; have hfz7_1 := blk_frozen BK542.out 1; have hfz7_2 := blk_frozen BK542.out 2))
 repeat ((first | go_quiet (fail) | (refine wp_region_quiet_lit (by kernel_rfl) (by kernel_rfl) ?_; (repeat (any_goals (first | go_big_quiet_step (fail) | quiet_step (fail)))); all_goals (refine wpQuiet_nil ?_; intro _ hw2_; obtain ⟨nq, hw3_⟩ := hw2_; subst hw3_))); try go_wp2_with (first | ((with_reducible refine gate_dst (N := 4) rfl ?_); refine box_event ?hg (N := 4) ?hd (cs := #[.int .i64 a0_0, .int .i64 a0_1, .slice A0_2 l0_2.length c0_2]) (t := 30) ?hr ?_; (case hd => rfl); (case hg => rfl); (case hr => first | (go_simp; done) | (go_simp; rfl)); intro gb542 hg w6 hbox hb; have n0_ := Aside0.mk (below_step zx1 hb); have n1_ := Aside0.mk (hbox); have n2_ := Aside0.mk ((zx9 : w.heap.size ≤ gb542)); have n3_ := Aside0.mk ((zx9 : w.heap.size ≤ gb542)); clear HB; have HB := n0_; have BK542 := n1_; have GW542 := n2_; have GE542 := n3_; clear n0_ n1_ n2_ n3_; clear hb hbox hg; have hcz7_0 : w6.cell? ⟨gb542, 0, none⟩ = some (.int .i64 a0_0) := (blk_cell BK542.out 0).trans rfl; have hcz7_1 : w6.cell? ⟨gb542, 1, none⟩ = some (.int .i64 a0_1) := (blk_cell BK542.out 1).trans rfl; have hcz7_2 : w6.cell? ⟨gb542, 2, none⟩ = some (.slice A0_2 l0_2.length c0_2) := (blk_cell BK542.out 2).trans rfl; have hfz7_0 := blk_frozen BK542.out 0; have hfz7_1 := blk_frozen BK542.out 1; have hfz7_2 := blk_frozen BK542.out 2)))
 go_ret
 exact ⟨zx7, by repeat (first | (with_reducible first | exact HB.out | apply below_alloc | apply pw_below_drewN | apply below_drew1 | refine below_set ?_ GE542.out) | exact HB.out)⟩

end Go.Proofs.Ythoklbeenjppbaa.Q

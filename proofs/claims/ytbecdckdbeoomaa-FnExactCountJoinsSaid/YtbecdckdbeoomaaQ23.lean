/- Written by a program of this session: functions of the translation as plain Lean functions, each with a proof that the call does what the plain function says; the conditions stand in each theorem. -/
import Derived.Test.YtbecdckdbeoomaaQ0
import Derived.Test.YtbecdckdbeoomaaQ13
import Derived.Test.YtbecdckdbeoomaaQ21
import Derived.Test.YtbecdckdbeoomaaQ22
namespace Go.Proofs.Ytbecdckdbeoomaa.Q
open Go.RowKit Go.Proofs.YtbecdckdbeoomaaW.PrintWords Go.Proofs.YtbecdckdbeoomaaW.PrintLast Go.Proofs.YtbecdckdbeoomaaW.PrintMore
attribute [local go_sem] max2_int min2_int max_two min_two max_three min_three max_four min_four   -- for this text's walks alone
set_option linter.unusedVariables false
set_option linter.unusedSimpArgs false

theorem zx1 {p : Prop} (h : p := by repeat (first | exact HR0_6.out | (with_reducible refine Kd.C_alloc ?_ _) | (with_reducible refine Kd.C_drewN ?_ _) | (with_reducible refine Kd.C_drew ?_))) : p := h
theorem zx2 {p : Prop} (h : p := by repeat (first | exact HR0_5.out | (with_reducible refine Kd.C_alloc ?_ _) | (with_reducible refine Kd.C_drewN ?_ _) | (with_reducible refine Kd.C_drew ?_))) : p := h
theorem zx3 {p : Prop} (h : p := by repeat (first | exact HR0_2.out | (with_reducible refine Kd.C_alloc ?_ _) | (with_reducible refine Kd.C_drewN ?_ _) | (with_reducible refine Kd.C_drew ?_))) : p := h
theorem zx4 {p : Prop} (h : p := by first | exact BK0.out | ((with_reducible repeat (first | refine blk_drewN ?_ _ | refine blk_drew ?_ | refine blk_alloc ?_ _)); exact BK0.out)) : p := h
theorem zx5 {p : Prop} (h : p := by repeat (first | (with_reducible first | exact HB.out | apply below_alloc | apply pw_below_drewN | apply below_drew1 | refine below_set ?_ GE537.out | refine below_set ?_ GE538.out) | exact HB.out)) : p := h
theorem zx6 {p : Prop} (h : p := by first | exact BK537.out | ((with_reducible repeat (first | refine blk_drewN ?_ _ | refine blk_drew ?_ | refine blk_alloc ?_ _)); exact BK537.out)) : p := h
theorem zx7 {p : Prop} (h : p := by first | (with_reducible assumption) | assumption) : p := h
theorem zx8 {p : Prop} (h : p := by first | exact BK538.out | ((with_reducible repeat (first | refine blk_drewN ?_ _ | refine blk_drew ?_ | refine blk_alloc ?_ _)); exact BK538.out)) : p := h
theorem zx9 {p : Prop} (h : p := by repeat (first | (with_reducible first | exact HB.out | apply below_alloc | apply pw_below_drewN | apply below_drew1 | refine below_set ?_ GE537.out) | exact HB.out)) : p := h
theorem zx10 {p : Prop} (h : p := by repeat (first | (with_reducible first | exact HB.out | apply below_alloc | apply pw_below_drewN | apply below_drew1) | exact HB.out)) : p := h
theorem zx11 {p : Prop} (h : p := by first | rfl | (simp; done) | (simp [*]; done)) : p := h
theorem zx12 {p : Prop} (h : p := by repeat (first | exact (Kd.C_below HR0_2.out HB.out) | (with_reducible refine Kd.C_alloc ?_ _) | (with_reducible refine Kd.C_drewN ?_ _) | (with_reducible refine Kd.C_drew ?_))) : p := h
theorem zx13 {p : Prop} (h : p := by repeat (first | exact (Kd.C_below HR3.out HB.out) | (with_reducible refine Kd.C_alloc ?_ _) | (with_reducible refine Kd.C_drewN ?_ _) | (with_reducible refine Kd.C_drew ?_))) : p := h
theorem zx14 {p : Prop} (h : p := by repeat (first | exact (Kd.C_below HR2.out HB.out) | (with_reducible refine Kd.C_alloc ?_ _) | (with_reducible refine Kd.C_drewN ?_ _) | (with_reducible refine Kd.C_drew ?_))) : p := h
theorem zx15 {p : Prop} (h : p := by (try simp only [List.map_toArray, List.map_cons, List.map_nil]); first | done | rfl | (simp only [List.length_drop, List.length_take]; rfl)) : p := h
theorem zx16 {p : Prop} (h : p := by repeat (first | exact Drawn0.refl _ | apply Drawn0.step)) : p := h
theorem zx17 {p : Prop} (h : p := by rw [hg]; exact Nat.ne_of_lt (blk_lt (g := gb537) (o := .cells #[.int .i64 a0_0, .int .i64 a0_1, .slice A0_2 l0_2.length c0_2] 30 (0, 0)) zx6)) : p := h
theorem zx18 {p : Prop} (h : p := by rw [hg]; exact Nat.ne_of_gt (blk_lt (g := gb537) (o := .cells #[.int .i64 a0_0, .int .i64 a0_1, .slice A0_2 l0_2.length c0_2] 30 (0, 0)) zx6)) : p := h
/-! ### spec_CountJoins: function 25 -/
mutual
def spec_CountJoins.l0 : Nat → List Int → List Int → Int → Int → Int → Int → Int → List Int → Int → Int → Option (Int × Bool)
 | 0, _, _, _, _, _, _, _, _, _, _ => none
 | k + 1, x2, x3, x10, x21, x22, x538000, x538001, x538002, x539000, x539001 => if x22 < x21 then (spec_CountJoins.l1 k x2 x3 x10 x22 x21 x22 (x3.length : Int) 0 x538000 x538001 x538002 x539000 x539001) else (some (x10, true))
def spec_CountJoins.l1 : Nat → List Int → List Int → Int → Int → Int → Int → Int → Int → Int → Int → List Int → Int → Int → Option (Int × Bool)
 | 0, _, _, _, _, _, _, _, _, _, _, _, _, _ => none
 | k + 1, x2, x3, x10, x11, x21, x22, x26, x27, x538000, x538001, x538002, x539000, x539001 => if x27 < x26 then (spec_CountJoins.l2 k x2 x3 x10 x11 x27 0 x21 x22 x26 x27 x538000 x538001 x538002 x539000 x539001) else (spec_CountJoins.l0 k x2 x3 x10 x21 (wrap64 (x22 + 1)) x538000 x538001 x538002 x539000 x539001)
def spec_CountJoins.l2 : Nat → List Int → List Int → Int → Int → Int → Int → Int → Int → Int → Int → Int → Int → List Int → Int → Int → Option (Int × Bool)
 | 0, _, _, _, _, _, _, _, _, _, _, _, _, _, _, _ => none
 | k + 1, x2, x3, x10, x11, x12, x13, x21, x22, x26, x27, x538000, x538001, x538002, x539000, x539001 => if x13 < 2 then ((spec_blJoin.f x538000 x538001 x538002 x539000 x539001 x2 x3 x11 x12 (x13 == 1)).bind fun t540 => (if t540 = true then (spec_CountJoins.l2 k x2 x3 (wrap64 (x10 + 1)) x11 x12 (wrap64 (x13 + 1)) x21 x22 x26 x27 x538000 x538001 x538002 x539000 x539001) else (spec_CountJoins.l2 k x2 x3 x10 x11 x12 (wrap64 (x13 + 1)) x21 x22 x26 x27 x538000 x538001 x538002 x539000 x539001))) else (spec_CountJoins.l1 k x2 x3 x10 x11 x21 x22 x26 (wrap64 (x27 + 1)) x538000 x538001 x538002 x539000 x539001)
end
def spec_CountJoins.f (k : Nat) (a0_0 : Int) (a0_1 : Int) (l0_2 : List Int) (a1_0 : Int) (a1_1 : Int) (l2 : List Int) (l3 : List Int) : Option (Int × Bool) := (spec_blTwo.f k a0_0 a0_1 l0_2 a1_0 a1_1 l2 l3).bind fun t539 => (if t539 = true then (spec_CountJoins.l0 k l2 l3 0 (l2.length : Int) 0 a0_0 a0_1 l0_2 a1_0 a1_1) else (some (0, false)))
set_option maxHeartbeats 8000000 in
set_option maxRecDepth 100000 in
theorem spec_CountJoins.calls (k : Nat) (a0_0 : Int) (a0_1 : Int) (A0_2 : Option Addr) (c0_2 : Nat) (l0_2 : List Int) (a1_0 : Int) (a1_1 : Int) (A2 : Option Addr) (c2 : Nat) (l2 : List Int) (A3 : Option Addr) (c3 : Nat) (l3 : List Int) (r1 : Int) (r2 : Bool) (w : World) (hr0_2 : Kd.C (Kd.int .i64) w A0_2 l0_2.length l0_2) (hc0_2 : l0_2.length ≤ c0_2) (hr2 : Kd.C (Kd.int .i64) w A2 l2.length l2) (hc2 : l2.length ≤ c2) (hr3 : Kd.C (Kd.int .i64) w A3 l3.length l3) (hc3 : l3.length ≤ c3) (h : spec_CountJoins.f k a0_0 a0_1 l0_2 a1_0 a1_1 l2 l3 = some (r1, r2)) :
  Calls Try.prog 25 #[.agg #[.int .i64 a0_0, .int .i64 a0_1, .slice A0_2 l0_2.length c0_2], .agg #[.int .i64 a1_0, .int .i64 a1_1], .slice A2 l2.length c2, .slice A3 l3.length c3] w fun e w' => e = .returned (.tuple #[.int .i64 r1, .bool r2]) ∧ Below w.heap.size w w' := by
 have hu30 := Try.underlying30
 have hu32 := Try.underlying32
 have HR0_2 := Aside0.mk hr0_2
 have HC0_2 := Aside0.mk hc0_2
 clear hr0_2 hc0_2
 have HR2 := Aside0.mk hr2
 have HC2 := Aside0.mk hc2
 clear hr2 hc2
 have HR3 := Aside0.mk hr3
 have HC3 := Aside0.mk hc3
 clear hr3 hc3
 have HB := Aside0.mk (Below.refl w.heap.size w)
 have H : ((spec_blTwo.f k a0_0 a0_1 l0_2 a1_0 a1_1 l2 l3).bind fun t539 => (if t539 = true then (spec_CountJoins.l0 k l2 l3 0 (l2.length : Int) 0 a0_0 a0_1 l0_2 a1_0 a1_1) else (some (0, false)))) = some (r1, r2) := h
 clear h
 replace H := Option.bind_eq_some_iff.mp H
 obtain ⟨t539, A50, H⟩ := H
 replace H : (if t539 = true then (spec_CountJoins.l0 k l2 l3 0 (l2.length : Int) 0 a0_0 a0_1 l0_2 a1_0 a1_1) else (some (0, false))) = some (r1, r2) := H
 have A5 := Aside0.mk A50
 clear A50
 by_cases c6 : t539 = true
 rotate_left
 ·replace c6 := Bool.eq_false_iff.mpr c6
  subst c6
  have H1 : (some (0, false)) = some (r1, r2) := by rw [if_neg (show ¬ (false = true) by decide)] at H; exact H
  clear H
  have H := H1
  clear H1
  simp only [Option.some.injEq, Prod.mk.injEq] at H
  obtain ⟨rfl, rfl⟩ := H
  go_enter Try.func25, Try.ntmps25
  go_wp2_with (first | ((with_reducible refine gate_dst (N := 4) rfl ?_); refine box_event ?hg (N := 4) ?hd (cs := #[.int .i64 a0_0, .int .i64 a0_1, .slice A0_2 l0_2.length c0_2]) (t := 30) ?hr ?_; (case hd => rfl); (case hg => rfl); (case hr => first | (go_simp; done) | (go_simp; rfl)); intro gb537 hg w26 hbox hb; have n0_ := Aside0.mk (below_step zx10 hb); have n1_ := Aside0.mk (hbox); have n2_ := Aside0.mk ((by rw [hg]; exact (below_size zx10) : w.heap.size ≤ gb537)); have n3_ := Aside0.mk ((by rw [hg]; exact (below_size zx10) : w.heap.size ≤ gb537)); clear HB; have HB := n0_; have BK537 := n1_; have GW537 := n2_; have GE537 := n3_; clear n0_ n1_ n2_ n3_; clear hb hbox hg) | ((with_reducible refine gate_dst (N := 5) rfl ?_); refine box_event ?hg (N := 5) ?hd (cs := #[.int .i64 a1_0, .int .i64 a1_1]) (t := 32) ?hr ?_; (case hd => rfl); (case hg => rfl); (case hr => first | (go_simp; done) | (go_simp; rfl)); intro gb538 hg w27 hbox hb; have n0_ := Aside0.mk (blk_below (g := gb537) (o := .cells #[.int .i64 a0_0, .int .i64 a0_1, .slice A0_2 l0_2.length c0_2] 30 (0, 0)) zx6 hb); have n1_ := Aside0.mk (below_step zx9 hb); have n2_ := Aside0.mk (hbox); have n3_ := Aside0.mk ((by rw [hg]; exact (below_size zx9) : w.heap.size ≤ gb538)); have n4_ := Aside0.mk ((by rw [hg]; exact (below_size zx9) : w.heap.size ≤ gb538)); have n5_ := Aside0.mk ((zx17 : gb537 ≠ gb538)); have n6_ := Aside0.mk ((zx18 : gb538 ≠ gb537)); clear BK537; clear HB; have BK537 := n0_; have HB := n1_; have BK538 := n2_; have GW538 := n3_; have GE538 := n4_; have NB537_538 := n5_; have NB538_537 := n6_; clear n0_ n1_ n2_ n3_ n4_ n5_ n6_; clear hb hbox hg; have hnb28 := NB537_538.out; have hnc28 := NB538_537.out; have hcz29_0 : w27.cell? ⟨gb537, 0, none⟩ = some (.int .i64 a0_0) := (blk_cell BK537.out 0).trans rfl; have hcz29_1 : w27.cell? ⟨gb537, 1, none⟩ = some (.int .i64 a0_1) := (blk_cell BK537.out 1).trans rfl; have hcz29_2 : w27.cell? ⟨gb537, 2, none⟩ = some (.slice A0_2 l0_2.length c0_2) := (blk_cell BK537.out 2).trans rfl; have hfz29_0 := blk_frozen BK537.out 0; have hfz29_1 := blk_frozen BK537.out 1; have hfz29_2 := blk_frozen BK537.out 2; have hcz30_0 : w27.cell? ⟨gb538, 0, none⟩ = some (.int .i64 a1_0) := (blk_cell BK538.out 0).trans rfl; have hcz30_1 : w27.cell? ⟨gb538, 1, none⟩ = some (.int .i64 a1_1) := (blk_cell BK538.out 1).trans rfl; have hfz30_0 := blk_frozen BK538.out 0; have hfz30_1 := blk_frozen BK538.out 1) | ((with_reducible refine gate_callee (f := 49) rfl ?_); refine goesL_ (some 18) rfl rfl Try.func49 (by kernel_rfl) rfl #[.agg #[.int .i64 a0_0, .int .i64 a0_1, .slice A0_2 l0_2.length c0_2], .agg #[.int .i64 a1_0, .int .i64 a1_1], .slice A2 l2.length c2, .slice A3 l3.length c3] rfl zx15 ?_; (with_reducible refine (spec_blTwo.calls k a0_0 a0_1 _ _ l0_2 a1_0 a1_1 _ _ l2 _ _ l3 false _ ?side1 ?side2 ?side3 ?side4 ?side5 ?side6 A5.out).mono ?_); (case side1 => exact zx12); (case side2 => exact HC0_2.out); (case side3 => exact zx14); (case side4 => exact HC2.out); (case side5 => exact zx13); (case side6 => exact HC3.out); rintro e w31 ⟨rfl, hb⟩; refine ⟨_, rfl, ?_⟩; have n0_ := Aside0.mk (blk_below (g := gb537) (o := .cells #[.int .i64 a0_0, .int .i64 a0_1, .slice A0_2 l0_2.length c0_2] 30 (0, 0)) zx6 hb); have n1_ := Aside0.mk (blk_below (g := gb538) (o := .cells #[.int .i64 a1_0, .int .i64 a1_1] 32 (0, 0)) zx8 hb); have n2_ := Aside0.mk (below_step zx5 hb); clear BK537; clear BK538; clear HB; have BK537 := n0_; have BK538 := n1_; have HB := n2_; clear n0_ n1_ n2_; (try clear hb); (try clear hb2); (try clear hk); (try clear hi); (try clear hna_); (try clear hnb_)))
  go_ret2
  exact ⟨by first | rfl | (simp [errW_none, errW_some] <;> rfl) | (simp [*, errW_none, errW_some] <;> rfl), zx5⟩
 subst c6
 have H1 : (spec_CountJoins.l0 k l2 l3 0 (l2.length : Int) 0 a0_0 a0_1 l0_2 a1_0 a1_1) = some (r1, r2) := by rw [if_pos rfl] at H; exact H
 clear H
 have H := H1
 clear H1
 have H' := Aside0.mk H
 clear H
 go_enter Try.func25, Try.ntmps25
 go_wp2_with (first | ((with_reducible refine gate_dst (N := 4) rfl ?_); refine box_event ?hg (N := 4) ?hd (cs := #[.int .i64 a0_0, .int .i64 a0_1, .slice A0_2 l0_2.length c0_2]) (t := 30) ?hr ?_; (case hd => rfl); (case hg => rfl); (case hr => first | (go_simp; done) | (go_simp; rfl)); intro gb537 hg w7 hbox hb; have n0_ := Aside0.mk (below_step zx10 hb); have n1_ := Aside0.mk (hbox); have n2_ := Aside0.mk ((by rw [hg]; exact (below_size zx10) : w.heap.size ≤ gb537)); have n3_ := Aside0.mk ((by rw [hg]; exact (below_size zx10) : w.heap.size ≤ gb537)); clear HB; have HB := n0_; have BK537 := n1_; have GW537 := n2_; have GE537 := n3_; clear n0_ n1_ n2_ n3_; clear hb hbox hg) | ((with_reducible refine gate_dst (N := 5) rfl ?_); refine box_event ?hg (N := 5) ?hd (cs := #[.int .i64 a1_0, .int .i64 a1_1]) (t := 32) ?hr ?_; (case hd => rfl); (case hg => rfl); (case hr => first | (go_simp; done) | (go_simp; rfl)); intro gb538 hg w8 hbox hb; have n0_ := Aside0.mk (blk_below (g := gb537) (o := .cells #[.int .i64 a0_0, .int .i64 a0_1, .slice A0_2 l0_2.length c0_2] 30 (0, 0)) zx6 hb); have n1_ := Aside0.mk (below_step zx9 hb); have n2_ := Aside0.mk (hbox); have n3_ := Aside0.mk ((by rw [hg]; exact (below_size zx9) : w.heap.size ≤ gb538)); have n4_ := Aside0.mk ((by rw [hg]; exact (below_size zx9) : w.heap.size ≤ gb538)); have n5_ := Aside0.mk ((zx17 : gb537 ≠ gb538)); have n6_ := Aside0.mk ((zx18 : gb538 ≠ gb537)); clear BK537; clear HB; have BK537 := n0_; have HB := n1_; have BK538 := n2_; have GW538 := n3_; have GE538 := n4_; have NB537_538 := n5_; have NB538_537 := n6_; clear n0_ n1_ n2_ n3_ n4_ n5_ n6_; clear hb hbox hg; have hnb9 := NB537_538.out; have hnc9 := NB538_537.out; have hcz10_0 : w8.cell? ⟨gb537, 0, none⟩ = some (.int .i64 a0_0) := (blk_cell BK537.out 0).trans rfl; have hcz10_1 : w8.cell? ⟨gb537, 1, none⟩ = some (.int .i64 a0_1) := (blk_cell BK537.out 1).trans rfl; have hcz10_2 : w8.cell? ⟨gb537, 2, none⟩ = some (.slice A0_2 l0_2.length c0_2) := (blk_cell BK537.out 2).trans rfl; have hfz10_0 := blk_frozen BK537.out 0; have hfz10_1 := blk_frozen BK537.out 1; have hfz10_2 := blk_frozen BK537.out 2; have hcz11_0 : w8.cell? ⟨gb538, 0, none⟩ = some (.int .i64 a1_0) := (blk_cell BK538.out 0).trans rfl; have hcz11_1 : w8.cell? ⟨gb538, 1, none⟩ = some (.int .i64 a1_1) := (blk_cell BK538.out 1).trans rfl; have hfz11_0 := blk_frozen BK538.out 0; have hfz11_1 := blk_frozen BK538.out 1) | ((with_reducible refine gate_callee (f := 49) rfl ?_); refine goesL_ (some 18) rfl rfl Try.func49 (by kernel_rfl) rfl #[.agg #[.int .i64 a0_0, .int .i64 a0_1, .slice A0_2 l0_2.length c0_2], .agg #[.int .i64 a1_0, .int .i64 a1_1], .slice A2 l2.length c2, .slice A3 l3.length c3] rfl zx15 ?_; (with_reducible refine (spec_blTwo.calls k a0_0 a0_1 _ _ l0_2 a1_0 a1_1 _ _ l2 _ _ l3 true _ ?side1 ?side2 ?side3 ?side4 ?side5 ?side6 A5.out).mono ?_); (case side1 => exact zx12); (case side2 => exact HC0_2.out); (case side3 => exact zx14); (case side4 => exact HC2.out); (case side5 => exact zx13); (case side6 => exact HC3.out); rintro e w12 ⟨rfl, hb⟩; refine ⟨_, rfl, ?_⟩; have n0_ := Aside0.mk (blk_below (g := gb537) (o := .cells #[.int .i64 a0_0, .int .i64 a0_1, .slice A0_2 l0_2.length c0_2] 30 (0, 0)) zx6 hb); have n1_ := Aside0.mk (blk_below (g := gb538) (o := .cells #[.int .i64 a1_0, .int .i64 a1_1] 32 (0, 0)) zx8 hb); have n2_ := Aside0.mk (below_step zx5 hb); clear BK537; clear BK538; clear HB; have BK537 := n0_; have BK538 := n1_; have HB := n2_; clear n0_ n1_ n2_; (try clear hb); (try clear hb2); (try clear hk); (try clear hi); (try clear hna_); (try clear hnb_)))
 go_loopg [10, 22] k (fun kq v10 v22 w' => ∃ (x10_1 : Int) (x22_1 : Int), v10 = .int .i64 x10_1 ∧ v22 = .int .i64 x22_1 ∧ Aside0 (spec_CountJoins.l0 kq l2 l3 x10_1 (l2.length : Int) x22_1 a0_0 a0_1 l0_2 a1_0 a1_1 = some (r1, r2)) ∧ Aside0 (kq ≤ k) ∧ Aside0 (w'.heap[gb537]? = some (.cells #[.int .i64 a0_0, .int .i64 a0_1, (.slice A0_2 l0_2.length c0_2)] 30 (0, 0))) ∧ Aside0 (w'.heap[gb538]? = some (.cells #[.int .i64 a1_0, .int .i64 a1_1] 32 (0, 0))) ∧ Aside0 (Below w.heap.size w w'))
 case atStart => exact ⟨(0), (0), zx11, zx11, H', ⟨Nat.le_refl _⟩, ⟨zx6⟩, ⟨zx8⟩, ⟨zx5⟩⟩
 case round =>
  clear H'
  try clear c2; try clear p2; try clear c3; try clear c4; try clear c6; try clear c9; try clear hcz10_0; try clear hcz10_1; try clear hcz10_2; try clear hcz11_0; try clear hcz11_1; try clear hfz10_0; try clear hfz10_1; try clear hfz10_2; try clear hfz11_0; try clear hfz11_1
  obtain ⟨x10_1, x22_1, rfl, rfl, HA, HK1, BK537, BK538, HB⟩ := hrel
  cases gk with
  | zero => exact absurd HA.out (by simp [spec_CountJoins.l0])
  | succ k1 =>
   have H := HA.out
   clear HA
   simp only [spec_CountJoins.l0] at H
   by_cases c13 : x22_1 < (l2.length : Int)
   rotate_left
   ·rw [if_neg c13] at H
    have c13b0 : decide (x22_1 < (l2.length : Int)) = false := decide_eq_false c13
    clear c13
    simp only [Option.some.injEq, Prod.mk.injEq] at H
    obtain ⟨rfl, rfl⟩ := H
    go_wp2
    go_ret2
    exact ⟨by first | rfl | (simp [errW_none, errW_some] <;> rfl) | (simp [*, errW_none, errW_some] <;> rfl), zx5⟩
   rw [if_pos c13] at H
   have c13b0 : decide (x22_1 < (l2.length : Int)) = true := decide_eq_true c13
   clear c13
   have H' := Aside0.mk H
   clear H
   go_wp2
   go_loopg [10, 27] k1 (fun kq v10 v27 w' => ∃ (x10_2 : Int) (x27_2 : Int), v10 = .int .i64 x10_2 ∧ v27 = .int .i64 x27_2 ∧ Aside0 (spec_CountJoins.l1 kq l2 l3 x10_2 x22_1 (l2.length : Int) x22_1 (l3.length : Int) x27_2 a0_0 a0_1 l0_2 a1_0 a1_1 = some (r1, r2)) ∧ Aside0 (kq ≤ k1) ∧ Aside0 (w'.heap[gb537]? = some (.cells #[.int .i64 a0_0, .int .i64 a0_1, (.slice A0_2 l0_2.length c0_2)] 30 (0, 0))) ∧ Aside0 (w'.heap[gb538]? = some (.cells #[.int .i64 a1_0, .int .i64 a1_1] 32 (0, 0))) ∧ Aside0 (Below w.heap.size w w'))
   case atStart => exact ⟨(x10_1), (0), zx11, zx11, H', ⟨Nat.le_refl _⟩, ⟨zx6⟩, ⟨zx8⟩, ⟨zx5⟩⟩
   case round =>
    clear H'
    try clear c1; try clear c2; try clear p2; try clear c3; try clear c4; try clear c6; try clear c9; try clear c13; try clear c13b0; try clear hcz10_0; try clear hcz10_1; try clear hcz10_2; try clear hcz11_0; try clear hcz11_1; try clear hfz10_0; try clear hfz10_1; try clear hfz10_2; try clear hfz11_0; try clear hfz11_1; try clear p2
    obtain ⟨x10_2, x27_2, rfl, rfl, HA, HK2, BK537, BK538, HB⟩ := hrel
    cases gk with
    | zero => exact absurd HA.out (by simp [spec_CountJoins.l1])
    | succ k2 =>
     have H := HA.out
     clear HA
     simp only [spec_CountJoins.l1] at H
     by_cases c14 : x27_2 < (l3.length : Int)
     rotate_left
     ·rw [if_neg c14] at H
      have c14b0 : decide (x27_2 < (l3.length : Int)) = false := decide_eq_false c14
      clear c14
      have H' := Aside0.mk H
      clear H
      go_wp2
      go_roundg k2
      case measure => have := HK1.out; have := HK2.out; omega
      case rel => exact ⟨(x10_2), (wrap64 (x22_1 + 1)), zx11, zx11, H', ⟨by have := HK1.out; have := HK2.out; omega⟩, ⟨zx6⟩, ⟨zx8⟩, ⟨zx5⟩⟩
     rw [if_pos c14] at H
     have c14b0 : decide (x27_2 < (l3.length : Int)) = true := decide_eq_true c14
     clear c14
     have H' := Aside0.mk H
     clear H
     go_wp2
     go_loopg [10, 13] k2 (fun kq v10 v13 w' => ∃ (x10_3 : Int) (x13_3 : Int), v10 = .int .i64 x10_3 ∧ v13 = .int .i64 x13_3 ∧ Aside0 (spec_CountJoins.l2 kq l2 l3 x10_3 x22_1 x27_2 x13_3 (l2.length : Int) x22_1 (l3.length : Int) x27_2 a0_0 a0_1 l0_2 a1_0 a1_1 = some (r1, r2)) ∧ Aside0 (kq ≤ k2) ∧ Aside0 (w'.heap[gb537]? = some (.cells #[.int .i64 a0_0, .int .i64 a0_1, (.slice A0_2 l0_2.length c0_2)] 30 (0, 0))) ∧ Aside0 (w'.heap[gb538]? = some (.cells #[.int .i64 a1_0, .int .i64 a1_1] 32 (0, 0))) ∧ Aside0 (Below w.heap.size w w'))
     case atStart => exact ⟨(x10_2), (0), zx11, zx11, H', ⟨Nat.le_refl _⟩, ⟨zx6⟩, ⟨zx8⟩, ⟨zx5⟩⟩
     case round =>
      clear H'
      try clear c1; try clear c2; try clear p2; try clear c3; try clear c4; try clear c6; try clear c9; try clear c13; try clear c13b0; try clear c14; try clear c14b0; try clear hcz10_0; try clear hcz10_1; try clear hcz10_2; try clear hcz11_0; try clear hcz11_1; try clear hfz10_0; try clear hfz10_1; try clear hfz10_2; try clear hfz11_0; try clear hfz11_1; try clear p2
      obtain ⟨x10_3, x13_3, rfl, rfl, HA, HK3, BK537, BK538, HB⟩ := hrel
      cases gk with
      | zero => exact absurd HA.out (by simp [spec_CountJoins.l2])
      | succ k3 =>
       have H := HA.out
       clear HA
       simp only [spec_CountJoins.l2] at H
       by_cases c15 : x13_3 < 2
       rotate_left
       ·rw [if_neg c15] at H
        have c15b0 : decide (x13_3 < 2) = false := decide_eq_false c15
        clear c15
        have H' := Aside0.mk H
        clear H
        go_wp2
        go_roundg k3
        case measure => have := HK1.out; have := HK2.out; have := HK3.out; omega
        case rel => exact ⟨(x10_3), (wrap64 (x27_2 + 1)), zx11, zx11, H', ⟨by have := HK1.out; have := HK2.out; have := HK3.out; omega⟩, ⟨zx6⟩, ⟨zx8⟩, ⟨zx5⟩⟩
       rw [if_pos c15] at H
       have c15b0 : decide (x13_3 < 2) = true := decide_eq_true c15
       clear c15
       replace H := Option.bind_eq_some_iff.mp H
       obtain ⟨t540, A160, H⟩ := H
       replace H : (if t540 = true then (spec_CountJoins.l2 k3 l2 l3 (wrap64 (x10_3 + 1)) x22_1 x27_2 (wrap64 (x13_3 + 1)) (l2.length : Int) x22_1 (l3.length : Int) x27_2 a0_0 a0_1 l0_2 a1_0 a1_1) else (spec_CountJoins.l2 k3 l2 l3 x10_3 x22_1 x27_2 (wrap64 (x13_3 + 1)) (l2.length : Int) x22_1 (l3.length : Int) x27_2 a0_0 a0_1 l0_2 a1_0 a1_1)) = some (r1, r2) := H
       have A16 := Aside0.mk A160
       clear A160
       by_cases c17 : t540 = true
       ·subst c17
        have H1 : (spec_CountJoins.l2 k3 l2 l3 (wrap64 (x10_3 + 1)) x22_1 x27_2 (wrap64 (x13_3 + 1)) (l2.length : Int) x22_1 (l3.length : Int) x27_2 a0_0 a0_1 l0_2 a1_0 a1_1) = some (r1, r2) := by rw [if_pos rfl] at H; exact H
        clear H
        have H := H1
        clear H1
        have H' := Aside0.mk H
        clear H
        have hnb18 := NB537_538.out
        have hnc18 := NB538_537.out
        have hcz19_0 : wr.cell? ⟨gb537, 0, none⟩ = some (.int .i64 a0_0) := (blk_cell BK537.out 0).trans rfl
        have hcz19_1 : wr.cell? ⟨gb537, 1, none⟩ = some (.int .i64 a0_1) := (blk_cell BK537.out 1).trans rfl
        have hcz19_2 : wr.cell? ⟨gb537, 2, none⟩ = some (.slice A0_2 l0_2.length c0_2) := (blk_cell BK537.out 2).trans rfl
        have hfz19_0 := blk_frozen BK537.out 0
        have hfz19_1 := blk_frozen BK537.out 1
        have hfz19_2 := blk_frozen BK537.out 2
        have hcz20_0 : wr.cell? ⟨gb538, 0, none⟩ = some (.int .i64 a1_0) := (blk_cell BK538.out 0).trans rfl
        have hcz20_1 : wr.cell? ⟨gb538, 1, none⟩ = some (.int .i64 a1_1) := (blk_cell BK538.out 1).trans rfl
        have hfz20_0 := blk_frozen BK538.out 0
        have hfz20_1 := blk_frozen BK538.out 1
        go_wp2_with (first | ((with_reducible refine gate_callee (f := 50) rfl ?_); refine goesL_ (some 42) rfl rfl Try.func50 (by kernel_rfl) rfl #[.agg #[.int .i64 a0_0, .int .i64 a0_1, .slice A0_2 l0_2.length c0_2], .agg #[.int .i64 a1_0, .int .i64 a1_1], .slice A2 l2.length c2, .slice A3 l3.length c3, .int .i64 x22_1, .int .i64 x27_2, .bool (x13_3 == 1)] rfl zx15 ?_; (with_reducible refine (spec_blJoin.calls a0_0 a0_1 _ _ l0_2 a1_0 a1_1 _ _ l2 _ _ l3 x22_1 x27_2 (x13_3 == 1) true _ ?side1 ?side2 ?side3 ?side4 ?side5 ?side6 A16.out).mono ?_); (case side1 => exact zx12); (case side2 => exact HC0_2.out); (case side3 => exact zx14); (case side4 => exact HC2.out); (case side5 => exact zx13); (case side6 => exact HC3.out); rintro e w21 ⟨rfl, hb⟩; refine ⟨_, rfl, ?_⟩; have n0_ := Aside0.mk (blk_below (g := gb537) (o := .cells #[.int .i64 a0_0, .int .i64 a0_1, .slice A0_2 l0_2.length c0_2] 30 (0, 0)) zx6 hb); have n1_ := Aside0.mk (blk_below (g := gb538) (o := .cells #[.int .i64 a1_0, .int .i64 a1_1] 32 (0, 0)) zx8 hb); have n2_ := Aside0.mk (below_step zx5 hb); clear BK537; clear BK538; clear HB; have BK537 := n0_; have BK538 := n1_; have HB := n2_; clear n0_ n1_ n2_; (try clear hb); (try clear hb2); (try clear hk); (try clear hi); (try clear hna_); (try clear hnb_)))
        go_roundg k3
        case measure => have := HK1.out; have := HK2.out; have := HK3.out; omega
        case rel => exact ⟨(wrap64 (x10_3 + 1)), (wrap64 (x13_3 + 1)), zx11, zx11, H', ⟨by have := HK1.out; have := HK2.out; have := HK3.out; omega⟩, ⟨zx6⟩, ⟨zx8⟩, ⟨zx5⟩⟩
       replace c17 := Bool.eq_false_iff.mpr c17
       subst c17
       have H1 : (spec_CountJoins.l2 k3 l2 l3 x10_3 x22_1 x27_2 (wrap64 (x13_3 + 1)) (l2.length : Int) x22_1 (l3.length : Int) x27_2 a0_0 a0_1 l0_2 a1_0 a1_1) = some (r1, r2) := by rw [if_neg (show ¬ (false = true) by decide)] at H; exact H
       clear H
       have H := H1
       clear H1
       have H' := Aside0.mk H
       clear H
       have hnb22 := NB537_538.out
       have hnc22 := NB538_537.out
       have hcz23_0 : wr.cell? ⟨gb537, 0, none⟩ = some (.int .i64 a0_0) := (blk_cell BK537.out 0).trans rfl
       have hcz23_1 : wr.cell? ⟨gb537, 1, none⟩ = some (.int .i64 a0_1) := (blk_cell BK537.out 1).trans rfl
       have hcz23_2 : wr.cell? ⟨gb537, 2, none⟩ = some (.slice A0_2 l0_2.length c0_2) := (blk_cell BK537.out 2).trans rfl
       have hfz23_0 := blk_frozen BK537.out 0
       have hfz23_1 := blk_frozen BK537.out 1
       have hfz23_2 := blk_frozen BK537.out 2
       have hcz24_0 : wr.cell? ⟨gb538, 0, none⟩ = some (.int .i64 a1_0) := (blk_cell BK538.out 0).trans rfl
       have hcz24_1 : wr.cell? ⟨gb538, 1, none⟩ = some (.int .i64 a1_1) := (blk_cell BK538.out 1).trans rfl
       have hfz24_0 := blk_frozen BK538.out 0
       have hfz24_1 := blk_frozen BK538.out 1
       go_wp2_with (first | ((with_reducible refine gate_callee (f := 50) rfl ?_); refine goesL_ (some 42) rfl rfl Try.func50 (by kernel_rfl) rfl #[.agg #[.int .i64 a0_0, .int .i64 a0_1, .slice A0_2 l0_2.length c0_2], .agg #[.int .i64 a1_0, .int .i64 a1_1], .slice A2 l2.length c2, .slice A3 l3.length c3, .int .i64 x22_1, .int .i64 x27_2, .bool (x13_3 == 1)] rfl zx15 ?_; (with_reducible refine (spec_blJoin.calls a0_0 a0_1 _ _ l0_2 a1_0 a1_1 _ _ l2 _ _ l3 x22_1 x27_2 (x13_3 == 1) false _ ?side1 ?side2 ?side3 ?side4 ?side5 ?side6 A16.out).mono ?_); (case side1 => exact zx12); (case side2 => exact HC0_2.out); (case side3 => exact zx14); (case side4 => exact HC2.out); (case side5 => exact zx13); (case side6 => exact HC3.out); rintro e w25 ⟨rfl, hb⟩; refine ⟨_, rfl, ?_⟩; have n0_ := Aside0.mk (blk_below (g := gb537) (o := .cells #[.int .i64 a0_0, .int .i64 a0_1, .slice A0_2 l0_2.length c0_2] 30 (0, 0)) zx6 hb); have n1_ := Aside0.mk (blk_below (g := gb538) (o := .cells #[.int .i64 a1_0, .int .i64 a1_1] 32 (0, 0)) zx8 hb); have n2_ := Aside0.mk (below_step zx5 hb); clear BK537; clear BK538; clear HB; have BK537 := n0_; have BK538 := n1_; have HB := n2_; clear n0_ n1_ n2_; (try clear hb); (try clear hb2); (try clear hk); (try clear hi); (try clear hna_); (try clear hnb_)))
       go_roundg k3
       case measure => have := HK1.out; have := HK2.out; have := HK3.out; omega
       case rel => exact ⟨(x10_3), (wrap64 (x13_3 + 1)), zx11, zx11, H', ⟨by have := HK1.out; have := HK2.out; have := HK3.out; omega⟩, ⟨zx6⟩, ⟨zx8⟩, ⟨zx5⟩⟩

/-! ### impl_graph_closes: function 52 -/
def impl_graph_closes.f (k : Nat) (a0_0 : Int) (a0_1 : Int) (l0_2 : List Int) (a0_3 : Int) (a0_4 : Int) (l0_5 : List Int) (l0_6 : List (List Int)) (l1 : List Int) : Option (Bool) := if (l1.length : Int) ≥ 3 then (if 0 ≤ (wrap64 ((l1.length : Int) - 1)) then (if (wrap64 ((l1.length : Int) - 1)) < (l1.length : Int) then (if 0 < (l1.length : Int) then ((impl_graph_leaps.f k a0_0 a0_1 l0_2 a0_3 a0_4 l0_5 l0_6 (rd l1 (wrap64 ((l1.length : Int) - 1))) (rd l1 0)).bind fun t557 => (some t557)) else (none)) else (none)) else (none)) else (some false)
set_option maxHeartbeats 8000000 in
set_option maxRecDepth 100000 in
theorem impl_graph_closes.calls (k : Nat) (gb0 : Nat) (a0_0 : Int) (a0_1 : Int) (A0_2 : Option Addr) (c0_2 : Nat) (l0_2 : List Int) (a0_3 : Int) (a0_4 : Int) (A0_5 : Option Addr) (c0_5 : Nat) (l0_5 : List Int) (A0_6 : Option Addr) (c0_6 : Nat) (l0_6 : List (List Int)) (A1 : Option Addr) (c1 : Nat) (l1 : List Int) (r : Bool) (w : World) (hg0 : w.heap[gb0]? = some (.cells #[.int .i64 a0_0, .int .i64 a0_1, .slice A0_2 l0_2.length c0_2, .int .i64 a0_3, .int .i64 a0_4, .slice A0_5 l0_5.length c0_5, .slice A0_6 l0_6.length c0_6] 84 (0, 0))) (hr0_2 : Kd.C (Kd.int .i64) w A0_2 l0_2.length l0_2) (hc0_2 : l0_2.length ≤ c0_2) (hr0_5 : Kd.C (Kd.int .i64) w A0_5 l0_5.length l0_5) (hc0_5 : l0_5.length ≤ c0_5) (hr0_6 : Kd.C (Kd.slice 3 (Kd.int .i64)) w A0_6 l0_6.length l0_6) (hc0_6 : l0_6.length ≤ c0_6) (hr1 : Kd.C (Kd.int .i64) w A1 l1.length l1) (hc1 : l1.length ≤ c1) (h : impl_graph_closes.f k a0_0 a0_1 l0_2 a0_3 a0_4 l0_5 l0_6 l1 = some r) :
  Calls Try.prog 52 #[.pointer (some ⟨gb0, 0, none⟩), .slice A1 l1.length c1] w fun e w' => e = .returned (.bool r) ∧ Drawn0 w w' := by
 have HR0_2 := Aside0.mk hr0_2
 have HC0_2 := Aside0.mk hc0_2
 clear hr0_2 hc0_2
 have HR0_5 := Aside0.mk hr0_5
 have HC0_5 := Aside0.mk hc0_5
 clear hr0_5 hc0_5
 have HR0_6 := Aside0.mk hr0_6
 have HC0_6 := Aside0.mk hc0_6
 clear hr0_6 hc0_6
 have HR1 := Aside0.mk hr1
 have HC1 := Aside0.mk hc1
 clear hr1 hc1
 have BK0 := Aside0.mk hg0
 clear hg0
 have H : (if (l1.length : Int) ≥ 3 then (if 0 ≤ (wrap64 ((l1.length : Int) - 1)) then (if (wrap64 ((l1.length : Int) - 1)) < (l1.length : Int) then (if 0 < (l1.length : Int) then ((impl_graph_leaps.f k a0_0 a0_1 l0_2 a0_3 a0_4 l0_5 l0_6 (rd l1 (wrap64 ((l1.length : Int) - 1))) (rd l1 0)).bind fun t557 => (some t557)) else (none)) else (none)) else (none)) else (some false)) = some r := h
 clear h
 by_cases c3 : (l1.length : Int) ≥ 3
 rotate_left
 ·rw [if_neg c3] at H
  have c3b0 : decide (3 ≤ (l1.length : Int)) = false := decide_eq_false c3
  have c3b1 : decide (3 ≤ l1.length) = false := decide_eq_false (by omega)
  clear c3
  obtain rfl := Option.some.inj H
  go_enter Try.func52, Try.ntmps52
  go_wp2
  repeat ((first | go_quiet (fail) | (refine wp_region_quiet_lit (by kernel_rfl) (by kernel_rfl) ?_; (repeat (any_goals (first | go_big_quiet_step (fail) | quiet_step (fail)))); all_goals (refine wpQuiet_nil ?_; intro _ hw2_; obtain ⟨nq, hw3_⟩ := hw2_; subst hw3_))); try go_wp2)
  go_ret
  exact ⟨zx11, zx16⟩
 rw [if_pos c3] at H
 have c3b0 : decide (3 ≤ (l1.length : Int)) = true := decide_eq_true c3
 have c3b1 : decide (3 ≤ l1.length) = true := decide_eq_true (by omega)
 clear c3
 obtain ⟨ji4, hji4⟩ : ∃ j_ : Int, (wrap64 ((l1.length : Int) - 1)) = j_ := ⟨_, rfl⟩
 replace H : (if 0 ≤ (ji4) then (if (ji4) < (l1.length : Int) then (if 0 < (l1.length : Int) then ((impl_graph_leaps.f k a0_0 a0_1 l0_2 a0_3 a0_4 l0_5 l0_6 (rd l1 (ji4)) (rd l1 0)).bind fun t557 => (some t557)) else (none)) else (none)) else (none)) = some r := by first | (rw [hji4] at H; exact H) | (simp only [hji4] at H ⊢; exact H)
 have hji4w : (IntKind.i64.wrap ((l1.length : Int) - 1)) = ji4 := (i64_w _).trans hji4
 by_cases c5 : 0 ≤ (ji4)
 rotate_left
 ·rw [if_neg c5] at H
  exact absurd H (by simp)
 rw [if_pos c5] at H
 have c5b0 : decide (0 ≤ (ji4)) = true := decide_eq_true c5
 clear c5
 by_cases c6 : (ji4) < (l1.length : Int)
 rotate_left
 ·rw [if_neg c6] at H
  exact absurd H (by simp)
 rw [if_pos c6] at H
 have c6b0 : decide ((ji4) < (l1.length : Int)) = true := decide_eq_true c6
 clear c6
 by_cases c7 : 0 < (l1.length : Int)
 rotate_left
 ·rw [if_neg c7] at H
  exact absurd H (by simp)
 rw [if_pos c7] at H
 have c7b0 : decide (0 < (l1.length : Int)) = true := decide_eq_true c7
 have c7b1 : decide (0 < l1.length) = true := decide_eq_true (by omega)
 clear c7
 replace H := Option.bind_eq_some_iff.mp H
 obtain ⟨t557, A80, H⟩ := H
 replace H : (some t557) = some r := H
 have A8 := Aside0.mk A80
 clear A80
 obtain rfl := Option.some.inj H
 have p555 : 0 ≤ ((ji4) : Int) := of_decide_eq_true zx7
 have q555 : (ji4) < (l1.length : Int) := of_decide_eq_true zx7
 obtain ⟨ad555, e555, hx555_0⟩ := Kd.at_int HR1.out (ji4) p555 q555
 cases e555
 replace p555 := eq_true p555
 replace q555 := eq_true q555
 have p556 : 0 ≤ (0 : Int) := (by omega)
 have q556 : 0 < (l1.length : Int) := of_decide_eq_true zx7
 obtain ⟨ad556, e556, hx556_0⟩ := Kd.at_int HR1.out 0 p556 q556
 obtain rfl : ad555 = ad556 := (by injection e556)
 have qi556 : (0 < l1.length) = True := eq_true (by omega)
 (try rw [show ((0 : Int)).toNat = 0 from rfl] at hx556_0)
 (try rw [Addr.add_zero'] at hx556_0)
 replace p556 := eq_true p556
 replace q556 := eq_true q556
 go_enter Try.func52, Try.ntmps52
 go_wp2_with (first | (go_at_call 47; (with_reducible refine (impl_graph_leaps.calls k gb0 a0_0 a0_1 A0_2 c0_2 l0_2 a0_3 a0_4 A0_5 c0_5 l0_5 A0_6 c0_6 l0_6 (rd l1 (ji4)) (rd l1 0) t557 _ ?side1 ?side2 ?side3 ?side4 ?side5 ?side6 ?side7 A8.out).mono ?_); (case side1 => exact zx4); (case side2 => exact zx3); (case side3 => exact HC0_2.out); (case side4 => exact zx2); (case side5 => exact HC0_5.out); (case side6 => exact zx1); (case side7 => exact HC0_6.out); rintro e w' ⟨rfl, ⟨nd, rfl⟩⟩; (try first | exact ⟨rfl, _, World.drewN_drewN _ _ _⟩ | exact ⟨rfl, _, Eq.trans (World.drewN_drewN _ _ _) (congrArg (World.drewN _) (Nat.add_assoc _ _ _))⟩)))
 repeat ((first | go_quiet (first | (go_at_call 47; (with_reducible refine (impl_graph_leaps.calls k gb0 a0_0 a0_1 A0_2 c0_2 l0_2 a0_3 a0_4 A0_5 c0_5 l0_5 A0_6 c0_6 l0_6 (rd l1 (ji4)) (rd l1 0) t557 _ ?side1 ?side2 ?side3 ?side4 ?side5 ?side6 ?side7 A8.out).mono ?_); (case side1 => exact zx4); (case side2 => exact zx3); (case side3 => exact HC0_2.out); (case side4 => exact zx2); (case side5 => exact HC0_5.out); (case side6 => exact zx1); (case side7 => exact HC0_6.out); rintro e w' ⟨rfl, ⟨nd, rfl⟩⟩; (try first | exact ⟨rfl, _, World.drewN_drewN _ _ _⟩ | exact ⟨rfl, _, Eq.trans (World.drewN_drewN _ _ _) (congrArg (World.drewN _) (Nat.add_assoc _ _ _))⟩))) | (refine wp_region_quiet_lit (by kernel_rfl) (by kernel_rfl) ?_; (repeat (any_goals (first | go_big_quiet_step (first | (go_at_call 47; (with_reducible refine (impl_graph_leaps.calls k gb0 a0_0 a0_1 A0_2 c0_2 l0_2 a0_3 a0_4 A0_5 c0_5 l0_5 A0_6 c0_6 l0_6 (rd l1 (ji4)) (rd l1 0) t557 _ ?side1 ?side2 ?side3 ?side4 ?side5 ?side6 ?side7 A8.out).mono ?_); (case side1 => exact zx4); (case side2 => exact zx3); (case side3 => exact HC0_2.out); (case side4 => exact zx2); (case side5 => exact HC0_5.out); (case side6 => exact zx1); (case side7 => exact HC0_6.out); rintro e w' ⟨rfl, ⟨nd, rfl⟩⟩; (try first | exact ⟨rfl, _, World.drewN_drewN _ _ _⟩ | exact ⟨rfl, _, Eq.trans (World.drewN_drewN _ _ _) (congrArg (World.drewN _) (Nat.add_assoc _ _ _))⟩))) | quiet_step (first | (go_at_call 47; (with_reducible refine (impl_graph_leaps.calls k gb0 a0_0 a0_1 A0_2 c0_2 l0_2 a0_3 a0_4 A0_5 c0_5 l0_5 A0_6 c0_6 l0_6 (rd l1 (ji4)) (rd l1 0) t557 _ ?side1 ?side2 ?side3 ?side4 ?side5 ?side6 ?side7 A8.out).mono ?_); (case side1 => exact zx4); (case side2 => exact zx3); (case side3 => exact HC0_2.out); (case side4 => exact zx2); (case side5 => exact HC0_5.out); (case side6 => exact zx1); (case side7 => exact HC0_6.out); rintro e w' ⟨rfl, ⟨nd, rfl⟩⟩; (try first | exact ⟨rfl, _, World.drewN_drewN _ _ _⟩ | exact ⟨rfl, _, Eq.trans (World.drewN_drewN _ _ _) (congrArg (World.drewN _) (Nat.add_assoc _ _ _))⟩)))))); all_goals (refine wpQuiet_nil ?_; intro _ hw2_; obtain ⟨nq, hw3_⟩ := hw2_; subst hw3_))); try go_wp2_with (first | (go_at_call 47; (with_reducible refine (impl_graph_leaps.calls k gb0 a0_0 a0_1 A0_2 c0_2 l0_2 a0_3 a0_4 A0_5 c0_5 l0_5 A0_6 c0_6 l0_6 (rd l1 (ji4)) (rd l1 0) t557 _ ?side1 ?side2 ?side3 ?side4 ?side5 ?side6 ?side7 A8.out).mono ?_); (case side1 => exact zx4); (case side2 => exact zx3); (case side3 => exact HC0_2.out); (case side4 => exact zx2); (case side5 => exact HC0_5.out); (case side6 => exact zx1); (case side7 => exact HC0_6.out); rintro e w' ⟨rfl, ⟨nd, rfl⟩⟩; (try first | exact ⟨rfl, _, World.drewN_drewN _ _ _⟩ | exact ⟨rfl, _, Eq.trans (World.drewN_drewN _ _ _) (congrArg (World.drewN _) (Nat.add_assoc _ _ _))⟩))))
 go_ret
 exact ⟨by first | rfl | (simp; done) | (simp only [← hji4] <;> (first | rfl | simp)) | (simp [*]; done), zx16⟩

/-! ### impl_graph_joins: function 53 -/
def impl_graph_joins.f (k : Nat) (a0_0 : Int) (a0_1 : Int) (l0_2 : List Int) (a0_3 : Int) (a0_4 : Int) (l0_5 : List Int) (l0_6 : List (List Int)) (l1 : List Int) (l2 : List Int) (a3 : Int) (a4 : Int) : Option (Bool × Bool) := if 0 ≤ a3 then (if a3 < (l1.length : Int) then (if 0 ≤ a4 then (if a4 < (l2.length : Int) then ((impl_graph_leaps.f k a0_0 a0_1 l0_2 a0_3 a0_4 l0_5 l0_6 (rd l1 a3) (rd l2 a4)).bind fun t560 => (if t560 = true then (if (l1.length : Int) = 0 then (none) else (if 0 ≤ (Int.tmod (wrap64 (a3 + 1)) (l1.length : Int)) then (if (Int.tmod (wrap64 (a3 + 1)) (l1.length : Int)) < (l1.length : Int) then (if (l2.length : Int) = 0 then (none) else (if 0 ≤ (Int.tmod (wrap64 ((wrap64 (a4 + (l2.length : Int))) - 1)) (l2.length : Int)) then (if (Int.tmod (wrap64 ((wrap64 (a4 + (l2.length : Int))) - 1)) (l2.length : Int)) < (l2.length : Int) then ((impl_graph_leaps.f k a0_0 a0_1 l0_2 a0_3 a0_4 l0_5 l0_6 (rd l2 (Int.tmod (wrap64 ((wrap64 (a4 + (l2.length : Int))) - 1)) (l2.length : Int))) (rd l1 (Int.tmod (wrap64 (a3 + 1)) (l1.length : Int)))).bind fun t563 => (if 0 ≤ (Int.tmod (wrap64 (a4 + 1)) (l2.length : Int)) then (if (Int.tmod (wrap64 (a4 + 1)) (l2.length : Int)) < (l2.length : Int) then ((impl_graph_leaps.f k a0_0 a0_1 l0_2 a0_3 a0_4 l0_5 l0_6 (rd l2 (Int.tmod (wrap64 (a4 + 1)) (l2.length : Int))) (rd l1 (Int.tmod (wrap64 (a3 + 1)) (l1.length : Int)))).bind fun t565 => (some (t563, t565))) else (none)) else (none))) else (none)) else (none))) else (none)) else (none))) else (some (false, false)))) else (none)) else (none)) else (none)) else (none)
set_option maxHeartbeats 8000000 in
set_option maxRecDepth 100000 in
theorem impl_graph_joins.calls (k : Nat) (gb0 : Nat) (a0_0 : Int) (a0_1 : Int) (A0_2 : Option Addr) (c0_2 : Nat) (l0_2 : List Int) (a0_3 : Int) (a0_4 : Int) (A0_5 : Option Addr) (c0_5 : Nat) (l0_5 : List Int) (A0_6 : Option Addr) (c0_6 : Nat) (l0_6 : List (List Int)) (A1 : Option Addr) (c1 : Nat) (l1 : List Int) (A2 : Option Addr) (c2 : Nat) (l2 : List Int) (a3 : Int) (a4 : Int) (r1 : Bool) (r2 : Bool) (w : World) (hg0 : w.heap[gb0]? = some (.cells #[.int .i64 a0_0, .int .i64 a0_1, .slice A0_2 l0_2.length c0_2, .int .i64 a0_3, .int .i64 a0_4, .slice A0_5 l0_5.length c0_5, .slice A0_6 l0_6.length c0_6] 84 (0, 0))) (hr0_2 : Kd.C (Kd.int .i64) w A0_2 l0_2.length l0_2) (hc0_2 : l0_2.length ≤ c0_2) (hr0_5 : Kd.C (Kd.int .i64) w A0_5 l0_5.length l0_5) (hc0_5 : l0_5.length ≤ c0_5) (hr0_6 : Kd.C (Kd.slice 3 (Kd.int .i64)) w A0_6 l0_6.length l0_6) (hc0_6 : l0_6.length ≤ c0_6) (hr1 : Kd.C (Kd.int .i64) w A1 l1.length l1) (hc1 : l1.length ≤ c1) (hr2 : Kd.C (Kd.int .i64) w A2 l2.length l2) (hc2 : l2.length ≤ c2) (h : impl_graph_joins.f k a0_0 a0_1 l0_2 a0_3 a0_4 l0_5 l0_6 l1 l2 a3 a4 = some (r1, r2)) :
  Calls Try.prog 53 #[.pointer (some ⟨gb0, 0, none⟩), .slice A1 l1.length c1, .slice A2 l2.length c2, .int .i64 a3, .int .i64 a4] w fun e w' => e = .returned (.tuple #[.bool r1, .bool r2]) ∧ Drawn0 w w' := by
 have HR0_2 := Aside0.mk hr0_2
 have HC0_2 := Aside0.mk hc0_2
 clear hr0_2 hc0_2
 have HR0_5 := Aside0.mk hr0_5
 have HC0_5 := Aside0.mk hc0_5
 clear hr0_5 hc0_5
 have HR0_6 := Aside0.mk hr0_6
 have HC0_6 := Aside0.mk hc0_6
 clear hr0_6 hc0_6
 have HR1 := Aside0.mk hr1
 have HC1 := Aside0.mk hc1
 clear hr1 hc1
 have HR2 := Aside0.mk hr2
 have HC2 := Aside0.mk hc2
 clear hr2 hc2
 have BK0 := Aside0.mk hg0
 clear hg0
 have H : (if 0 ≤ a3 then (if a3 < (l1.length : Int) then (if 0 ≤ a4 then (if a4 < (l2.length : Int) then ((impl_graph_leaps.f k a0_0 a0_1 l0_2 a0_3 a0_4 l0_5 l0_6 (rd l1 a3) (rd l2 a4)).bind fun t560 => (if t560 = true then (if (l1.length : Int) = 0 then (none) else (if 0 ≤ (Int.tmod (wrap64 (a3 + 1)) (l1.length : Int)) then (if (Int.tmod (wrap64 (a3 + 1)) (l1.length : Int)) < (l1.length : Int) then (if (l2.length : Int) = 0 then (none) else (if 0 ≤ (Int.tmod (wrap64 ((wrap64 (a4 + (l2.length : Int))) - 1)) (l2.length : Int)) then (if (Int.tmod (wrap64 ((wrap64 (a4 + (l2.length : Int))) - 1)) (l2.length : Int)) < (l2.length : Int) then ((impl_graph_leaps.f k a0_0 a0_1 l0_2 a0_3 a0_4 l0_5 l0_6 (rd l2 (Int.tmod (wrap64 ((wrap64 (a4 + (l2.length : Int))) - 1)) (l2.length : Int))) (rd l1 (Int.tmod (wrap64 (a3 + 1)) (l1.length : Int)))).bind fun t563 => (if 0 ≤ (Int.tmod (wrap64 (a4 + 1)) (l2.length : Int)) then (if (Int.tmod (wrap64 (a4 + 1)) (l2.length : Int)) < (l2.length : Int) then ((impl_graph_leaps.f k a0_0 a0_1 l0_2 a0_3 a0_4 l0_5 l0_6 (rd l2 (Int.tmod (wrap64 (a4 + 1)) (l2.length : Int))) (rd l1 (Int.tmod (wrap64 (a3 + 1)) (l1.length : Int)))).bind fun t565 => (some (t563, t565))) else (none)) else (none))) else (none)) else (none))) else (none)) else (none))) else (some (false, false)))) else (none)) else (none)) else (none)) else (none)) = some (r1, r2) := h
 clear h
 by_cases c6 : 0 ≤ a3
 rotate_left
 ·rw [if_neg c6] at H
  exact absurd H (by simp)
 rw [if_pos c6] at H
 have c6b0 : decide (0 ≤ a3) = true := decide_eq_true c6
 clear c6
 by_cases c7 : a3 < (l1.length : Int)
 rotate_left
 ·rw [if_neg c7] at H
  exact absurd H (by simp)
 rw [if_pos c7] at H
 have c7b0 : decide (a3 < (l1.length : Int)) = true := decide_eq_true c7
 clear c7
 by_cases c8 : 0 ≤ a4
 rotate_left
 ·rw [if_neg c8] at H
  exact absurd H (by simp)
 rw [if_pos c8] at H
 have c8b0 : decide (0 ≤ a4) = true := decide_eq_true c8
 clear c8
 by_cases c9 : a4 < (l2.length : Int)
 rotate_left
 ·rw [if_neg c9] at H
  exact absurd H (by simp)
 rw [if_pos c9] at H
 have c9b0 : decide (a4 < (l2.length : Int)) = true := decide_eq_true c9
 clear c9
 replace H := Option.bind_eq_some_iff.mp H
 obtain ⟨t560, A100, H⟩ := H
 replace H : (if t560 = true then (if (l1.length : Int) = 0 then (none) else (if 0 ≤ (Int.tmod (wrap64 (a3 + 1)) (l1.length : Int)) then (if (Int.tmod (wrap64 (a3 + 1)) (l1.length : Int)) < (l1.length : Int) then (if (l2.length : Int) = 0 then (none) else (if 0 ≤ (Int.tmod (wrap64 ((wrap64 (a4 + (l2.length : Int))) - 1)) (l2.length : Int)) then (if (Int.tmod (wrap64 ((wrap64 (a4 + (l2.length : Int))) - 1)) (l2.length : Int)) < (l2.length : Int) then ((impl_graph_leaps.f k a0_0 a0_1 l0_2 a0_3 a0_4 l0_5 l0_6 (rd l2 (Int.tmod (wrap64 ((wrap64 (a4 + (l2.length : Int))) - 1)) (l2.length : Int))) (rd l1 (Int.tmod (wrap64 (a3 + 1)) (l1.length : Int)))).bind fun t563 => (if 0 ≤ (Int.tmod (wrap64 (a4 + 1)) (l2.length : Int)) then (if (Int.tmod (wrap64 (a4 + 1)) (l2.length : Int)) < (l2.length : Int) then ((impl_graph_leaps.f k a0_0 a0_1 l0_2 a0_3 a0_4 l0_5 l0_6 (rd l2 (Int.tmod (wrap64 (a4 + 1)) (l2.length : Int))) (rd l1 (Int.tmod (wrap64 (a3 + 1)) (l1.length : Int)))).bind fun t565 => (some (t563, t565))) else (none)) else (none))) else (none)) else (none))) else (none)) else (none))) else (some (false, false))) = some (r1, r2) := H
 have A10 := Aside0.mk A100
 clear A100
 by_cases c11 : t560 = true
 rotate_left
 ·replace c11 := Bool.eq_false_iff.mpr c11
  subst c11
  have H1 : (some (false, false)) = some (r1, r2) := by rw [if_neg (show ¬ (false = true) by decide)] at H; exact H
  clear H
  have H := H1
  clear H1
  simp only [Option.some.injEq, Prod.mk.injEq] at H
  obtain ⟨rfl, rfl⟩ := H
  have p558 : 0 ≤ (a3 : Int) := of_decide_eq_true zx7
  have q558 : a3 < (l1.length : Int) := of_decide_eq_true zx7
  obtain ⟨ad558, e558, hx558_0⟩ := Kd.at_int HR1.out a3 p558 q558
  cases e558
  replace p558 := eq_true p558
  replace q558 := eq_true q558
  have p559 : 0 ≤ (a4 : Int) := of_decide_eq_true zx7
  have q559 : a4 < (l2.length : Int) := of_decide_eq_true zx7
  obtain ⟨ad559, e559, hx559_0⟩ := Kd.at_int HR2.out a4 p559 q559
  cases e559
  replace p559 := eq_true p559
  replace q559 := eq_true q559
  go_enter Try.func53, Try.ntmps53
  go_wp2_with (first | (go_at_call 47; (with_reducible refine (impl_graph_leaps.calls k gb0 a0_0 a0_1 A0_2 c0_2 l0_2 a0_3 a0_4 A0_5 c0_5 l0_5 A0_6 c0_6 l0_6 (rd l1 a3) (rd l2 a4) false _ ?side1 ?side2 ?side3 ?side4 ?side5 ?side6 ?side7 A10.out).mono ?_); (case side1 => exact zx4); (case side2 => exact zx3); (case side3 => exact HC0_2.out); (case side4 => exact zx2); (case side5 => exact HC0_5.out); (case side6 => exact zx1); (case side7 => exact HC0_6.out); rintro e w' ⟨rfl, ⟨nd, rfl⟩⟩; (try first | exact ⟨rfl, _, World.drewN_drewN _ _ _⟩ | exact ⟨rfl, _, Eq.trans (World.drewN_drewN _ _ _) (congrArg (World.drewN _) (Nat.add_assoc _ _ _))⟩)))
  repeat ((first | go_quiet (first | (go_at_call 47; (with_reducible refine (impl_graph_leaps.calls k gb0 a0_0 a0_1 A0_2 c0_2 l0_2 a0_3 a0_4 A0_5 c0_5 l0_5 A0_6 c0_6 l0_6 (rd l1 a3) (rd l2 a4) false _ ?side1 ?side2 ?side3 ?side4 ?side5 ?side6 ?side7 A10.out).mono ?_); (case side1 => exact zx4); (case side2 => exact zx3); (case side3 => exact HC0_2.out); (case side4 => exact zx2); (case side5 => exact HC0_5.out); (case side6 => exact zx1); (case side7 => exact HC0_6.out); rintro e w' ⟨rfl, ⟨nd, rfl⟩⟩; (try first | exact ⟨rfl, _, World.drewN_drewN _ _ _⟩ | exact ⟨rfl, _, Eq.trans (World.drewN_drewN _ _ _) (congrArg (World.drewN _) (Nat.add_assoc _ _ _))⟩))) | (refine wp_region_quiet_lit (by kernel_rfl) (by kernel_rfl) ?_; (repeat (any_goals (first | go_big_quiet_step (first | (go_at_call 47; (with_reducible refine (impl_graph_leaps.calls k gb0 a0_0 a0_1 A0_2 c0_2 l0_2 a0_3 a0_4 A0_5 c0_5 l0_5 A0_6 c0_6 l0_6 (rd l1 a3) (rd l2 a4) false _ ?side1 ?side2 ?side3 ?side4 ?side5 ?side6 ?side7 A10.out).mono ?_); (case side1 => exact zx4); (case side2 => exact zx3); (case side3 => exact HC0_2.out); (case side4 => exact zx2); (case side5 => exact HC0_5.out); (case side6 => exact zx1); (case side7 => exact HC0_6.out); rintro e w' ⟨rfl, ⟨nd, rfl⟩⟩; (try first | exact ⟨rfl, _, World.drewN_drewN _ _ _⟩ | exact ⟨rfl, _, Eq.trans (World.drewN_drewN _ _ _) (congrArg (World.drewN _) (Nat.add_assoc _ _ _))⟩))) | quiet_step (first | (go_at_call 47; (with_reducible refine (impl_graph_leaps.calls k gb0 a0_0 a0_1 A0_2 c0_2 l0_2 a0_3 a0_4 A0_5 c0_5 l0_5 A0_6 c0_6 l0_6 (rd l1 a3) (rd l2 a4) false _ ?side1 ?side2 ?side3 ?side4 ?side5 ?side6 ?side7 A10.out).mono ?_); (case side1 => exact zx4); (case side2 => exact zx3); (case side3 => exact HC0_2.out); (case side4 => exact zx2); (case side5 => exact HC0_5.out); (case side6 => exact zx1); (case side7 => exact HC0_6.out); rintro e w' ⟨rfl, ⟨nd, rfl⟩⟩; (try first | exact ⟨rfl, _, World.drewN_drewN _ _ _⟩ | exact ⟨rfl, _, Eq.trans (World.drewN_drewN _ _ _) (congrArg (World.drewN _) (Nat.add_assoc _ _ _))⟩)))))); all_goals (refine wpQuiet_nil ?_; intro _ hw2_; obtain ⟨nq, hw3_⟩ := hw2_; subst hw3_))); try go_wp2_with (first | (go_at_call 47; (with_reducible refine (impl_graph_leaps.calls k gb0 a0_0 a0_1 A0_2 c0_2 l0_2 a0_3 a0_4 A0_5 c0_5 l0_5 A0_6 c0_6 l0_6 (rd l1 a3) (rd l2 a4) false _ ?side1 ?side2 ?side3 ?side4 ?side5 ?side6 ?side7 A10.out).mono ?_); (case side1 => exact zx4); (case side2 => exact zx3); (case side3 => exact HC0_2.out); (case side4 => exact zx2); (case side5 => exact HC0_5.out); (case side6 => exact zx1); (case side7 => exact HC0_6.out); rintro e w' ⟨rfl, ⟨nd, rfl⟩⟩; (try first | exact ⟨rfl, _, World.drewN_drewN _ _ _⟩ | exact ⟨rfl, _, Eq.trans (World.drewN_drewN _ _ _) (congrArg (World.drewN _) (Nat.add_assoc _ _ _))⟩))))
  go_ret2
  exact ⟨zx11, zx16⟩
 subst c11
 have H1 : (if (l1.length : Int) = 0 then (none) else (if 0 ≤ (Int.tmod (wrap64 (a3 + 1)) (l1.length : Int)) then (if (Int.tmod (wrap64 (a3 + 1)) (l1.length : Int)) < (l1.length : Int) then (if (l2.length : Int) = 0 then (none) else (if 0 ≤ (Int.tmod (wrap64 ((wrap64 (a4 + (l2.length : Int))) - 1)) (l2.length : Int)) then (if (Int.tmod (wrap64 ((wrap64 (a4 + (l2.length : Int))) - 1)) (l2.length : Int)) < (l2.length : Int) then ((impl_graph_leaps.f k a0_0 a0_1 l0_2 a0_3 a0_4 l0_5 l0_6 (rd l2 (Int.tmod (wrap64 ((wrap64 (a4 + (l2.length : Int))) - 1)) (l2.length : Int))) (rd l1 (Int.tmod (wrap64 (a3 + 1)) (l1.length : Int)))).bind fun t563 => (if 0 ≤ (Int.tmod (wrap64 (a4 + 1)) (l2.length : Int)) then (if (Int.tmod (wrap64 (a4 + 1)) (l2.length : Int)) < (l2.length : Int) then ((impl_graph_leaps.f k a0_0 a0_1 l0_2 a0_3 a0_4 l0_5 l0_6 (rd l2 (Int.tmod (wrap64 (a4 + 1)) (l2.length : Int))) (rd l1 (Int.tmod (wrap64 (a3 + 1)) (l1.length : Int)))).bind fun t565 => (some (t563, t565))) else (none)) else (none))) else (none)) else (none))) else (none)) else (none))) = some (r1, r2) := by rw [if_pos rfl] at H; exact H
 clear H
 have H := H1
 clear H1
 by_cases c12 : (l1.length : Int) = 0
 ·rw [if_pos c12] at H
  exact absurd H (by simp)
 rw [if_neg c12] at H
 have c12b0 : ((l1.length : Int) == 0) = false := beq_eq_false_iff_ne.mpr c12
 have c12b1 : ((l1.length : Int) != 0) = true := bne_iff_ne.mpr c12
 have c12b2 : ¬ (l1 = []) := fun h_ => c12 (by rw [h_]; rfl)
 obtain ⟨ji13, hji13⟩ : ∃ j_ : Int, (Int.tmod (wrap64 (a3 + 1)) (l1.length : Int)) = j_ := ⟨_, rfl⟩
 replace H : (if 0 ≤ (ji13) then (if (ji13) < (l1.length : Int) then (if (l2.length : Int) = 0 then (none) else (if 0 ≤ (Int.tmod (wrap64 ((wrap64 (a4 + (l2.length : Int))) - 1)) (l2.length : Int)) then (if (Int.tmod (wrap64 ((wrap64 (a4 + (l2.length : Int))) - 1)) (l2.length : Int)) < (l2.length : Int) then ((impl_graph_leaps.f k a0_0 a0_1 l0_2 a0_3 a0_4 l0_5 l0_6 (rd l2 (Int.tmod (wrap64 ((wrap64 (a4 + (l2.length : Int))) - 1)) (l2.length : Int))) (rd l1 (ji13))).bind fun t563 => (if 0 ≤ (Int.tmod (wrap64 (a4 + 1)) (l2.length : Int)) then (if (Int.tmod (wrap64 (a4 + 1)) (l2.length : Int)) < (l2.length : Int) then ((impl_graph_leaps.f k a0_0 a0_1 l0_2 a0_3 a0_4 l0_5 l0_6 (rd l2 (Int.tmod (wrap64 (a4 + 1)) (l2.length : Int))) (rd l1 (ji13))).bind fun t565 => (some (t563, t565))) else (none)) else (none))) else (none)) else (none))) else (none)) else (none)) = some (r1, r2) := by first | (rw [hji13] at H; exact H) | (simp only [hji13] at H ⊢; exact H)
 (try rw [hji13] at A10)
 by_cases c14 : 0 ≤ (ji13)
 rotate_left
 ·rw [if_neg c14] at H
  exact absurd H (by simp)
 rw [if_pos c14] at H
 have c14b0 : decide (0 ≤ (ji13)) = true := decide_eq_true c14
 clear c14
 by_cases c15 : (ji13) < (l1.length : Int)
 rotate_left
 ·rw [if_neg c15] at H
  exact absurd H (by simp)
 rw [if_pos c15] at H
 have c15b0 : decide ((ji13) < (l1.length : Int)) = true := decide_eq_true c15
 clear c15
 by_cases c16 : (l2.length : Int) = 0
 ·rw [if_pos c16] at H
  exact absurd H (by simp)
 rw [if_neg c16] at H
 have c16b0 : ((l2.length : Int) == 0) = false := beq_eq_false_iff_ne.mpr c16
 have c16b1 : ((l2.length : Int) != 0) = true := bne_iff_ne.mpr c16
 have c16b2 : ¬ (l2 = []) := fun h_ => c16 (by rw [h_]; rfl)
 obtain ⟨ji17, hji17⟩ : ∃ j_ : Int, (Int.tmod (wrap64 ((wrap64 (a4 + (l2.length : Int))) - 1)) (l2.length : Int)) = j_ := ⟨_, rfl⟩
 replace H : (if 0 ≤ (ji17) then (if (ji17) < (l2.length : Int) then ((impl_graph_leaps.f k a0_0 a0_1 l0_2 a0_3 a0_4 l0_5 l0_6 (rd l2 (ji17)) (rd l1 (ji13))).bind fun t563 => (if 0 ≤ (Int.tmod (wrap64 (a4 + 1)) (l2.length : Int)) then (if (Int.tmod (wrap64 (a4 + 1)) (l2.length : Int)) < (l2.length : Int) then ((impl_graph_leaps.f k a0_0 a0_1 l0_2 a0_3 a0_4 l0_5 l0_6 (rd l2 (Int.tmod (wrap64 (a4 + 1)) (l2.length : Int))) (rd l1 (ji13))).bind fun t565 => (some (t563, t565))) else (none)) else (none))) else (none)) else (none)) = some (r1, r2) := by first | (rw [hji17] at H; exact H) | (simp only [hji17] at H ⊢; exact H)
 (try rw [hji17] at A10)
 by_cases c18 : 0 ≤ (ji17)
 rotate_left
 ·rw [if_neg c18] at H
  exact absurd H (by simp)
 rw [if_pos c18] at H
 have c18b0 : decide (0 ≤ (ji17)) = true := decide_eq_true c18
 clear c18
 by_cases c19 : (ji17) < (l2.length : Int)
 rotate_left
 ·rw [if_neg c19] at H
  exact absurd H (by simp)
 rw [if_pos c19] at H
 have c19b0 : decide ((ji17) < (l2.length : Int)) = true := decide_eq_true c19
 clear c19
 replace H := Option.bind_eq_some_iff.mp H
 obtain ⟨t563, A200, H⟩ := H
 replace H : (if 0 ≤ (Int.tmod (wrap64 (a4 + 1)) (l2.length : Int)) then (if (Int.tmod (wrap64 (a4 + 1)) (l2.length : Int)) < (l2.length : Int) then ((impl_graph_leaps.f k a0_0 a0_1 l0_2 a0_3 a0_4 l0_5 l0_6 (rd l2 (Int.tmod (wrap64 (a4 + 1)) (l2.length : Int))) (rd l1 (ji13))).bind fun t565 => (some (t563, t565))) else (none)) else (none)) = some (r1, r2) := H
 have A20 := Aside0.mk A200
 clear A200
 obtain ⟨ji21, hji21⟩ : ∃ j_ : Int, (Int.tmod (wrap64 (a4 + 1)) (l2.length : Int)) = j_ := ⟨_, rfl⟩
 replace H : (if 0 ≤ (ji21) then (if (ji21) < (l2.length : Int) then ((impl_graph_leaps.f k a0_0 a0_1 l0_2 a0_3 a0_4 l0_5 l0_6 (rd l2 (ji21)) (rd l1 (ji13))).bind fun t565 => (some (t563, t565))) else (none)) else (none)) = some (r1, r2) := by first | (rw [hji21] at H; exact H) | (simp only [hji21] at H ⊢; exact H)
 (try rw [hji21] at A10)
 (try rw [hji21] at A20)
 by_cases c22 : 0 ≤ (ji21)
 rotate_left
 ·rw [if_neg c22] at H
  exact absurd H (by simp)
 rw [if_pos c22] at H
 have c22b0 : decide (0 ≤ (ji21)) = true := decide_eq_true c22
 clear c22
 by_cases c23 : (ji21) < (l2.length : Int)
 rotate_left
 ·rw [if_neg c23] at H
  exact absurd H (by simp)
 rw [if_pos c23] at H
 have c23b0 : decide ((ji21) < (l2.length : Int)) = true := decide_eq_true c23
 clear c23
 replace H := Option.bind_eq_some_iff.mp H
 obtain ⟨t565, A240, H⟩ := H
 replace H : (some (t563, t565)) = some (r1, r2) := H
 have A24 := Aside0.mk A240
 clear A240
 simp only [Option.some.injEq, Prod.mk.injEq] at H
 obtain ⟨rfl, rfl⟩ := H
 have p558 : 0 ≤ (a3 : Int) := of_decide_eq_true zx7
 have q558 : a3 < (l1.length : Int) := of_decide_eq_true zx7
 obtain ⟨ad558, e558, hx558_0⟩ := Kd.at_int HR1.out a3 p558 q558
 cases e558
 replace p558 := eq_true p558
 replace q558 := eq_true q558
 have p559 : 0 ≤ (a4 : Int) := of_decide_eq_true zx7
 have q559 : a4 < (l2.length : Int) := of_decide_eq_true zx7
 obtain ⟨ad559, e559, hx559_0⟩ := Kd.at_int HR2.out a4 p559 q559
 cases e559
 replace p559 := eq_true p559
 replace q559 := eq_true q559
 go_enter Try.func53, Try.ntmps53
 go_wp2_with (first | (go_at_call 47; (with_reducible refine (impl_graph_leaps.calls k gb0 a0_0 a0_1 A0_2 c0_2 l0_2 a0_3 a0_4 A0_5 c0_5 l0_5 A0_6 c0_6 l0_6 (rd l1 a3) (rd l2 a4) true _ ?side1 ?side2 ?side3 ?side4 ?side5 ?side6 ?side7 A10.out).mono ?_); (case side1 => exact zx4); (case side2 => exact zx3); (case side3 => exact HC0_2.out); (case side4 => exact zx2); (case side5 => exact HC0_5.out); (case side6 => exact zx1); (case side7 => exact HC0_6.out); rintro e w' ⟨rfl, ⟨nd, rfl⟩⟩; (try first | exact ⟨rfl, _, World.drewN_drewN _ _ _⟩ | exact ⟨rfl, _, Eq.trans (World.drewN_drewN _ _ _) (congrArg (World.drewN _) (Nat.add_assoc _ _ _))⟩); have p561 : 0 ≤ ((ji13) : Int) := of_decide_eq_true zx7; have q561 : (ji13) < (l1.length : Int) := of_decide_eq_true zx7; obtain ⟨ad561, e561, hx561_0⟩ := Kd.at_int HR1.out (ji13) p561 q561; obtain rfl : ad558 = ad561 := (by injection e561); replace p561 := eq_true p561; replace q561 := eq_true q561; have p562 : 0 ≤ ((ji17) : Int) := of_decide_eq_true zx7; have q562 : (ji17) < (l2.length : Int) := of_decide_eq_true zx7; obtain ⟨ad562, e562, hx562_0⟩ := Kd.at_int HR2.out (ji17) p562 q562; obtain rfl : ad559 = ad562 := (by injection e562); replace p562 := eq_true p562; replace q562 := eq_true q562) | (go_at_call 47; (with_reducible refine (impl_graph_leaps.calls k gb0 a0_0 a0_1 A0_2 c0_2 l0_2 a0_3 a0_4 A0_5 c0_5 l0_5 A0_6 c0_6 l0_6 (rd l2 (ji17)) (rd l1 (ji13)) t563 _ ?side1 ?side2 ?side3 ?side4 ?side5 ?side6 ?side7 A20.out).mono ?_); (case side1 => exact zx4); (case side2 => exact zx3); (case side3 => exact HC0_2.out); (case side4 => exact zx2); (case side5 => exact HC0_5.out); (case side6 => exact zx1); (case side7 => exact HC0_6.out); rintro e w' ⟨rfl, ⟨nd, rfl⟩⟩; (try first | exact ⟨rfl, _, World.drewN_drewN _ _ _⟩ | exact ⟨rfl, _, Eq.trans (World.drewN_drewN _ _ _) (congrArg (World.drewN _) (Nat.add_assoc _ _ _))⟩); have p564 : 0 ≤ ((ji21) : Int) := of_decide_eq_true zx7; have q564 : (ji21) < (l2.length : Int) := of_decide_eq_true zx7; obtain ⟨ad564, e564, hx564_0⟩ := Kd.at_int HR2.out (ji21) p564 q564; obtain rfl : ad559 = ad564 := (by injection e564); replace p564 := eq_true p564; replace q564 := eq_true q564) | (go_at_call 47; (with_reducible refine (impl_graph_leaps.calls k gb0 a0_0 a0_1 A0_2 c0_2 l0_2 a0_3 a0_4 A0_5 c0_5 l0_5 A0_6 c0_6 l0_6 (rd l2 (ji21)) (rd l1 (ji13)) t565 _ ?side1 ?side2 ?side3 ?side4 ?side5 ?side6 ?side7 A24.out).mono ?_); (case side1 => exact zx4); (case side2 => exact zx3); (case side3 => exact HC0_2.out); (case side4 => exact zx2); (case side5 => exact HC0_5.out); (case side6 => exact zx1); (case side7 => exact HC0_6.out); rintro e w' ⟨rfl, ⟨nd, rfl⟩⟩; (try first | exact ⟨rfl, _, World.drewN_drewN _ _ _⟩ | exact ⟨rfl, _, Eq.trans (World.drewN_drewN _ _ _) (congrArg (World.drewN _) (Nat.add_assoc _ _ _))⟩)))
 repeat ((first | go_quiet (first | (go_at_call 47; (with_reducible refine (impl_graph_leaps.calls k gb0 a0_0 a0_1 A0_2 c0_2 l0_2 a0_3 a0_4 A0_5 c0_5 l0_5 A0_6 c0_6 l0_6 (rd l1 a3) (rd l2 a4) true _ ?side1 ?side2 ?side3 ?side4 ?side5 ?side6 ?side7 A10.out).mono ?_); (case side1 => exact zx4); (case side2 => exact zx3); (case side3 => exact HC0_2.out); (case side4 => exact zx2); (case side5 => exact HC0_5.out); (case side6 => exact zx1); (case side7 => exact HC0_6.out); rintro e w' ⟨rfl, ⟨nd, rfl⟩⟩; (try first | exact ⟨rfl, _, World.drewN_drewN _ _ _⟩ | exact ⟨rfl, _, Eq.trans (World.drewN_drewN _ _ _) (congrArg (World.drewN _) (Nat.add_assoc _ _ _))⟩); have p561 : 0 ≤ ((ji13) : Int) := of_decide_eq_true zx7; have q561 : (ji13) < (l1.length : Int) := of_decide_eq_true zx7; obtain ⟨ad561, e561, hx561_0⟩ := Kd.at_int HR1.out (ji13) p561 q561; obtain rfl : ad558 = ad561 := (by injection e561); replace p561 := eq_true p561; replace q561 := eq_true q561; have p562 : 0 ≤ ((ji17) : Int) := of_decide_eq_true zx7; have q562 : (ji17) < (l2.length : Int) := of_decide_eq_true zx7; obtain ⟨ad562, e562, hx562_0⟩ := Kd.at_int HR2.out (ji17) p562 q562; obtain rfl : ad559 = ad562 := (by injection e562); replace p562 := eq_true p562; replace q562 := eq_true q562) | (go_at_call 47; (with_reducible refine (impl_graph_leaps.calls k gb0 a0_0 a0_1 A0_2 c0_2 l0_2 a0_3 a0_4 A0_5 c0_5 l0_5 A0_6 c0_6 l0_6 (rd l2 (ji17)) (rd l1 (ji13)) t563 _ ?side1 ?side2 ?side3 ?side4 ?side5 ?side6 ?side7 A20.out).mono ?_); (case side1 => exact zx4); (case side2 => exact zx3); (case side3 => exact HC0_2.out); (case side4 => exact zx2); (case side5 => exact HC0_5.out); (case side6 => exact zx1); (case side7 => exact HC0_6.out); rintro e w' ⟨rfl, ⟨nd, rfl⟩⟩; (try first | exact ⟨rfl, _, World.drewN_drewN _ _ _⟩ | exact ⟨rfl, _, Eq.trans (World.drewN_drewN _ _ _) (congrArg (World.drewN _) (Nat.add_assoc _ _ _))⟩); have p564 : 0 ≤ ((ji21) : Int) := of_decide_eq_true zx7; have q564 : (ji21) < (l2.length : Int) := of_decide_eq_true zx7; obtain ⟨ad564, e564, hx564_0⟩ := Kd.at_int HR2.out (ji21) p564 q564; obtain rfl : ad559 = ad564 := (by injection e564); replace p564 := eq_true p564; replace q564 := eq_true q564) | (go_at_call 47; (with_reducible refine (impl_graph_leaps.calls k gb0 a0_0 a0_1 A0_2 c0_2 l0_2 a0_3 a0_4 A0_5 c0_5 l0_5 A0_6 c0_6 l0_6 (rd l2 (ji21)) (rd l1 (ji13)) t565 _ ?side1 ?side2 ?side3 ?side4 ?side5 ?side6 ?side7 A24.out).mono ?_); (case side1 => exact zx4); (case side2 => exact zx3); (case side3 => exact HC0_2.out); (case side4 => exact zx2); (case side5 => exact HC0_5.out); (case side6 => exact zx1); (case side7 => exact HC0_6.out); rintro e w' ⟨rfl, ⟨nd, rfl⟩⟩; (try first | exact ⟨rfl, _, World.drewN_drewN _ _ _⟩ | exact ⟨rfl, _, Eq.trans (World.drewN_drewN _ _ _) (congrArg (World.drewN _) (Nat.add_assoc _ _ _))⟩))) | (refine wp_region_quiet_lit (by kernel_rfl) (by kernel_rfl) ?_; (repeat (any_goals (first | go_big_quiet_step (first | (go_at_call 47; (with_reducible refine (impl_graph_leaps.calls k gb0 a0_0 a0_1 A0_2 c0_2 l0_2 a0_3 a0_4 A0_5 c0_5 l0_5 A0_6 c0_6 l0_6 (rd l1 a3) (rd l2 a4) true _ ?side1 ?side2 ?side3 ?side4 ?side5 ?side6 ?side7 A10.out).mono ?_); (case side1 => exact zx4); (case side2 => exact zx3); (case side3 => exact HC0_2.out); (case side4 => exact zx2); (case side5 => exact HC0_5.out); (case side6 => exact zx1); (case side7 => exact HC0_6.out); rintro e w' ⟨rfl, ⟨nd, rfl⟩⟩; (try first | exact ⟨rfl, _, World.drewN_drewN _ _ _⟩ | exact ⟨rfl, _, Eq.trans (World.drewN_drewN _ _ _) (congrArg (World.drewN _) (Nat.add_assoc _ _ _))⟩); have p561 : 0 ≤ ((ji13) : Int) := of_decide_eq_true zx7; have q561 : (ji13) < (l1.length : Int) := of_decide_eq_true zx7; obtain ⟨ad561, e561, hx561_0⟩ := Kd.at_int HR1.out (ji13) p561 q561; obtain rfl : ad558 = ad561 := (by injection e561); replace p561 := eq_true p561; replace q561 := eq_true q561; have p562 : 0 ≤ ((ji17) : Int) := of_decide_eq_true zx7; have q562 : (ji17) < (l2.length : Int) := of_decide_eq_true zx7; obtain ⟨ad562, e562, hx562_0⟩ := Kd.at_int HR2.out (ji17) p562 q562; obtain rfl : ad559 = ad562 := (by injection e562); replace p562 := eq_true p562; replace q562 := eq_true q562) | (go_at_call 47; (with_reducible refine (impl_graph_leaps.calls k gb0 a0_0 a0_1 A0_2 c0_2 l0_2 a0_3 a0_4 A0_5 c0_5 l0_5 A0_6 c0_6 l0_6 (rd l2 (ji17)) (rd l1 (ji13)) t563 _ ?side1 ?side2 ?side3 ?side4 ?side5 ?side6 ?side7 A20.out).mono ?_); (case side1 => exact zx4); (case side2 => exact zx3); (case side3 => exact HC0_2.out); (case side4 => exact zx2); (case side5 => exact HC0_5.out); (case side6 => exact zx1); (case side7 => exact HC0_6.out); rintro e w' ⟨rfl, ⟨nd, rfl⟩⟩; (try first | exact ⟨rfl, _, World.drewN_drewN _ _ _⟩ | exact ⟨rfl, _, Eq.trans (World.drewN_drewN _ _ _) (congrArg (World.drewN _) (Nat.add_assoc _ _ _))⟩); have p564 : 0 ≤ ((ji21) : Int) := of_decide_eq_true zx7; have q564 : (ji21) < (l2.length : Int) := of_decide_eq_true zx7; obtain ⟨ad564, e564, hx564_0⟩ := Kd.at_int HR2.out (ji21) p564 q564; obtain rfl : ad559 = ad564 := (by injection e564); replace p564 := eq_true p564; replace q564 := eq_true q564) | (go_at_call 47; (with_reducible refine (impl_graph_leaps.calls k gb0 a0_0 a0_1 A0_2 c0_2 l0_2 a0_3 a0_4 A0_5 c0_5 l0_5 A0_6 c0_6 l0_6 (rd l2 (ji21)) (rd l1 (ji13)) t565 _ ?side1 ?side2 ?side3 ?side4 ?side5 ?side6 ?side7 A24.out).mono ?_); (case side1 => exact zx4); (case side2 => exact zx3); (case side3 => exact HC0_2.out); (case side4 => exact zx2); (case side5 => exact HC0_5.out); (case side6 => exact zx1); (case side7 => exact HC0_6.out); rintro e w' ⟨rfl, ⟨nd, rfl⟩⟩; (try first | exact ⟨rfl, _, World.drewN_drewN _ _ _⟩ | exact ⟨rfl, _, Eq.trans (World.drewN_drewN _ _ _) (congrArg (World.drewN _) (Nat.add_assoc _ _ _))⟩))) | quiet_step (first | (go_at_call 47; (with_reducible refine (impl_graph_leaps.calls k gb0 a0_0 a0_1 A0_2 c0_2 l0_2 a0_3 a0_4 A0_5 c0_5 l0_5 A0_6 c0_6 l0_6 (rd l1 a3) (rd l2 a4) true _ ?side1 ?side2 ?side3 ?side4 ?side5 ?side6 ?side7 A10.out).mono ?_); (case side1 => exact zx4); (case side2 => exact zx3); (case side3 => exact HC0_2.out); (case side4 => exact zx2); (case side5 => exact HC0_5.out); (case side6 => exact zx1); (case side7 => exact HC0_6.out); rintro e w' ⟨rfl, ⟨nd, rfl⟩⟩; (try first | exact ⟨rfl, _, World.drewN_drewN _ _ _⟩ | exact ⟨rfl, _, Eq.trans (World.drewN_drewN _ _ _) (congrArg (World.drewN _) (Nat.add_assoc _ _ _))⟩); have p561 : 0 ≤ ((ji13) : Int) := of_decide_eq_true zx7; have q561 : (ji13) < (l1.length : Int) := of_decide_eq_true zx7; obtain ⟨ad561, e561, hx561_0⟩ := Kd.at_int HR1.out (ji13) p561 q561; obtain rfl : ad558 = ad561 := (by injection e561); replace p561 := eq_true p561; replace q561 := eq_true q561; have p562 : 0 ≤ ((ji17) : Int) := of_decide_eq_true zx7; have q562 : (ji17) < (l2.length : Int) := of_decide_eq_true zx7; obtain ⟨ad562, e562, hx562_0⟩ := Kd.at_int HR2.out (ji17) p562 q562; obtain rfl : ad559 = ad562 := (by injection e562); replace p562 := eq_true p562; replace q562 := eq_true q562) | (go_at_call 47; (with_reducible refine (impl_graph_leaps.calls k gb0 a0_0 a0_1 A0_2 c0_2 l0_2 a0_3 a0_4 A0_5 c0_5 l0_5 A0_6 c0_6 l0_6 (rd l2 (ji17)) (rd l1 (ji13)) t563 _ ?side1 ?side2 ?side3 ?side4 ?side5 ?side6 ?side7 A20.out).mono ?_); (case side1 => exact zx4); (case side2 => exact zx3); (case side3 => exact HC0_2.out); (case side4 => exact zx2); (case side5 => exact HC0_5.out); (case side6 => exact zx1); (case side7 => exact HC0_6.out); rintro e w' ⟨rfl, ⟨nd, rfl⟩⟩; (try first | exact ⟨rfl, _, World.drewN_drewN _ _ _⟩ | exact ⟨rfl, _, Eq.trans (World.drewN_drewN _ _ _) (congrArg (World.drewN _) (Nat.add_assoc _ _ _))⟩); have p564 : 0 ≤ ((ji21) : Int) := of_decide_eq_true zx7; have q564 : (ji21) < (l2.length : Int) := of_decide_eq_true zx7; obtain ⟨ad564, e564, hx564_0⟩ := Kd.at_int HR2.out (ji21) p564 q564; obtain rfl : ad559 = ad564 := (by injection e564); replace p564 := eq_true p564; replace q564 := eq_true q564) | (go_at_call 47; (with_reducible refine (impl_graph_leaps.calls k gb0 a0_0 a0_1 A0_2 c0_2 l0_2 a0_3 a0_4 A0_5 c0_5 l0_5 A0_6 c0_6 l0_6 (rd l2 (ji21)) (rd l1 (ji13)) t565 _ ?side1 ?side2 ?side3 ?side4 ?side5 ?side6 ?side7 A24.out).mono ?_); (case side1 => exact zx4); (case side2 => exact zx3); (case side3 => exact HC0_2.out); (case side4 => exact zx2); (case side5 => exact HC0_5.out); (case side6 => exact zx1); (case side7 => exact HC0_6.out); rintro e w' ⟨rfl, ⟨nd, rfl⟩⟩; (try first | exact ⟨rfl, _, World.drewN_drewN _ _ _⟩ | exact ⟨rfl, _, Eq.trans (World.drewN_drewN _ _ _) (congrArg (World.drewN _) (Nat.add_assoc _ _ _))⟩)))))); all_goals (refine wpQuiet_nil ?_; intro _ hw2_; obtain ⟨nq, hw3_⟩ := hw2_; subst hw3_))); try go_wp2_with (first | (go_at_call 47; (with_reducible refine (impl_graph_leaps.calls k gb0 a0_0 a0_1 A0_2 c0_2 l0_2 a0_3 a0_4 A0_5 c0_5 l0_5 A0_6 c0_6 l0_6 (rd l1 a3) (rd l2 a4) true _ ?side1 ?side2 ?side3 ?side4 ?side5 ?side6 ?side7 A10.out).mono ?_); (case side1 => exact zx4); (case side2 => exact zx3); (case side3 => exact HC0_2.out); (case side4 => exact zx2); (case side5 => exact HC0_5.out); (case side6 => exact zx1); (case side7 => exact HC0_6.out); rintro e w' ⟨rfl, ⟨nd, rfl⟩⟩; (try first | exact ⟨rfl, _, World.drewN_drewN _ _ _⟩ | exact ⟨rfl, _, Eq.trans (World.drewN_drewN _ _ _) (congrArg (World.drewN _) (Nat.add_assoc _ _ _))⟩); have p561 : 0 ≤ ((ji13) : Int) := of_decide_eq_true zx7; have q561 : (ji13) < (l1.length : Int) := of_decide_eq_true zx7; obtain ⟨ad561, e561, hx561_0⟩ := Kd.at_int HR1.out (ji13) p561 q561; obtain rfl : ad558 = ad561 := (by injection e561); replace p561 := eq_true p561; replace q561 := eq_true q561; have p562 : 0 ≤ ((ji17) : Int) := of_decide_eq_true zx7; have q562 : (ji17) < (l2.length : Int) := of_decide_eq_true zx7; obtain ⟨ad562, e562, hx562_0⟩ := Kd.at_int HR2.out (ji17) p562 q562; obtain rfl : ad559 = ad562 := (by injection e562); replace p562 := eq_true p562; replace q562 := eq_true q562) | (go_at_call 47; (with_reducible refine (impl_graph_leaps.calls k gb0 a0_0 a0_1 A0_2 c0_2 l0_2 a0_3 a0_4 A0_5 c0_5 l0_5 A0_6 c0_6 l0_6 (rd l2 (ji17)) (rd l1 (ji13)) t563 _ ?side1 ?side2 ?side3 ?side4 ?side5 ?side6 ?side7 A20.out).mono ?_); (case side1 => exact zx4); (case side2 => exact zx3); (case side3 => exact HC0_2.out); (case side4 => exact zx2); (case side5 => exact HC0_5.out); (case side6 => exact zx1); (case side7 => exact HC0_6.out); rintro e w' ⟨rfl, ⟨nd, rfl⟩⟩; (try first | exact ⟨rfl, _, World.drewN_drewN _ _ _⟩ | exact ⟨rfl, _, Eq.trans (World.drewN_drewN _ _ _) (congrArg (World.drewN _) (Nat.add_assoc _ _ _))⟩); have p564 : 0 ≤ ((ji21) : Int) := of_decide_eq_true zx7; have q564 : (ji21) < (l2.length : Int) := of_decide_eq_true zx7; obtain ⟨ad564, e564, hx564_0⟩ := Kd.at_int HR2.out (ji21) p564 q564; obtain rfl : ad559 = ad564 := (by injection e564); replace p564 := eq_true p564; replace q564 := eq_true q564) | (go_at_call 47; (with_reducible refine (impl_graph_leaps.calls k gb0 a0_0 a0_1 A0_2 c0_2 l0_2 a0_3 a0_4 A0_5 c0_5 l0_5 A0_6 c0_6 l0_6 (rd l2 (ji21)) (rd l1 (ji13)) t565 _ ?side1 ?side2 ?side3 ?side4 ?side5 ?side6 ?side7 A24.out).mono ?_); (case side1 => exact zx4); (case side2 => exact zx3); (case side3 => exact HC0_2.out); (case side4 => exact zx2); (case side5 => exact HC0_5.out); (case side6 => exact zx1); (case side7 => exact HC0_6.out); rintro e w' ⟨rfl, ⟨nd, rfl⟩⟩; (try first | exact ⟨rfl, _, World.drewN_drewN _ _ _⟩ | exact ⟨rfl, _, Eq.trans (World.drewN_drewN _ _ _) (congrArg (World.drewN _) (Nat.add_assoc _ _ _))⟩))))
 go_ret2
 exact ⟨by first | rfl | (simp; done) | (simp only [← hji13, ← hji17, ← hji21] <;> (first | rfl | simp)) | (simp [*]; done), zx16⟩

end Go.Proofs.Ytbecdckdbeoomaa.Q

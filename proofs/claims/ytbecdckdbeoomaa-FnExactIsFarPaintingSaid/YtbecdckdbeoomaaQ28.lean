/- Written by a program of this session: functions of the translation as plain Lean functions, each with a proof that the call does what the plain function says; the conditions stand in each theorem. -/
import Derived.Test.YtbecdckdbeoomaaQ0
import Derived.Test.YtbecdckdbeoomaaQ1
import Derived.Test.YtbecdckdbeoomaaQ3
import Derived.Test.YtbecdckdbeoomaaQ27
import Derived.Test.YtbecdckdbeoomaaQ32
namespace Go.Proofs.Ytbecdckdbeoomaa.Q
open Go.RowKit Go.Proofs.YtbecdckdbeoomaaW.PrintWords Go.Proofs.YtbecdckdbeoomaaW.PrintLast Go.Proofs.YtbecdckdbeoomaaW.PrintMore
attribute [local go_sem] max2_int min2_int max_two min_two max_three min_three max_four min_four   -- for this text's walks alone
set_option linter.unusedVariables false
set_option linter.unusedSimpArgs false

theorem zac1 {p : Prop} (h : p := by repeat (first | (with_reducible first | exact HB.out | apply below_alloc | apply pw_below_drewN | apply below_drew1 | refine below_set ?_ GE667.out | refine below_set ?_ GE668.out) | exact HB.out)) : p := h
theorem zac2 {p : Prop} (h : p := by repeat (first | exact (Kd.C_below HR0_2.out HB.out) | (with_reducible refine Kd.C_alloc ?_ _) | (with_reducible refine Kd.C_drewN ?_ _) | (with_reducible refine Kd.C_drew ?_))) : p := h
theorem zac3 {p : Prop} (h : p := by first | exact BK667.out | ((with_reducible repeat (first | refine blk_drewN ?_ _ | refine blk_drew ?_ | refine blk_alloc ?_ _)); exact BK667.out)) : p := h
theorem zac4 {p : Prop} (h : p := by first | exact BK668.out | ((with_reducible repeat (first | refine blk_drewN ?_ _ | refine blk_drew ?_ | refine blk_alloc ?_ _)); exact BK668.out)) : p := h
theorem zac5 {p : Prop} (h : p := by repeat (first | (with_reducible first | exact HB.out | apply below_alloc | apply pw_below_drewN | apply below_drew1 | refine below_set ?_ GE681.out) | exact HB.out)) : p := h
theorem zac6 {p : Prop} (h : p := by repeat (first | (with_reducible first | exact HB.out | apply below_alloc | apply pw_below_drewN | apply below_drew1) | exact HB.out)) : p := h
theorem zac7 {p : Prop} (h : p := by repeat (first | (with_reducible first | exact HB.out | apply below_alloc | apply pw_below_drewN | apply below_drew1 | refine below_set ?_ GE667.out) | exact HB.out)) : p := h
theorem zac8 {p : Prop} (h : p := by first | exact BK681.out | ((with_reducible repeat (first | refine blk_drewN ?_ _ | refine blk_drew ?_ | refine blk_alloc ?_ _)); exact BK681.out)) : p := h
theorem zac9 {p : Prop} (h : p := by repeat (first | exact (Kd.C_below HR2.out HB.out) | (with_reducible refine Kd.C_alloc ?_ _) | (with_reducible refine Kd.C_drewN ?_ _) | (with_reducible refine Kd.C_drew ?_))) : p := h
theorem zac10 {p : Prop} (h : p := by first | (with_reducible assumption) | assumption) : p := h
theorem zac11 {p : Prop} (h : p := by first | exact HO_21.out | ((with_reducible repeat (first | apply Kd.R_alloc | apply Kd.R_drewN | apply Kd.R_drew)); exact HO_21.out)) : p := h
theorem zac12 {p : Prop} (h : p := by (try simp only [List.map_toArray, List.map_cons, List.map_nil]); first | done | rfl | (simp only [List.length_drop, List.length_take]; rfl)) : p := h
theorem zac13 {p : Prop} (h : p := by first | rfl | (simp [errW_none, errW_some] <;> rfl) | (simp [*, errW_none, errW_some] <;> rfl)) : p := h
theorem zac14 {p : Prop} (h : p := by first | rfl | (simp; done) | (simp [*]; done)) : p := h
theorem zac15 {p : Prop} (h : p := by rw [hg]; exact Nat.ne_of_lt (blk_lt (g := gb667) (o := .cells #[.int .i64 a0_0, .int .i64 a0_1, .slice A0_2 l0_2.length c0_2] 30 (0, 0)) zac3)) : p := h
theorem zac16 {p : Prop} (h : p := by rw [hg]; exact Nat.ne_of_gt (blk_lt (g := gb667) (o := .cells #[.int .i64 a0_0, .int .i64 a0_1, .slice A0_2 l0_2.length c0_2] 30 (0, 0)) zac3)) : p := h
theorem zac17 {p : Prop} (h : p := by rw [hg]; exact (below_size zac6)) : p := h
theorem zac18 {p : Prop} (h : p := by rw [hg]; exact (below_size zac7)) : p := h
/-! ### spec_IsFarPainting: function 27 -/
mutual
def spec_IsFarPainting.l0 : Nat → List Int → List Int → Int → Int → Int → Int → List Int → Int → Int → Option (Bool × Bool)
 | 0, _, _, _, _, _, _, _, _, _ => none
 | k + 1, x2, x21, x22, x23, x668000, x668001, x668002, x669000, x669001 => if x23 < x22 then (if 0 ≤ x23 then (if x23 < (x21.length : Int) then ((spec_paNear.f k x668000 x668001 x668002 x669000 x669001 (rd x21 x23)).bind fun t675 => (spec_IsFarPainting.l1 k x2 (rd x21 x23) x21 x22 x23 t675 (t675.length : Int) 0 x668000 x668001 x668002 x669000 x669001)) else (none)) else (none)) else (some (true, true))
def spec_IsFarPainting.l1 : Nat → List Int → Int → List Int → Int → Int → List Int → Int → Int → Int → Int → List Int → Int → Int → Option (Bool × Bool)
 | 0, _, _, _, _, _, _, _, _, _, _, _, _, _ => none
 | k + 1, x2, x9, x21, x22, x23, x30, x31, x32, x668000, x668001, x668002, x669000, x669001 => if x32 < x31 then (if 0 ≤ x32 then (if x32 < (x30.length : Int) then (if 0 ≤ x9 then (if x9 < (x2.length : Int) then (if 0 ≤ (rd x30 x32) then (if (rd x30 x32) < (x2.length : Int) then (if (rd x2 x9) = (rd x2 (rd x30 x32)) then (some (false, true)) else (spec_IsFarPainting.l1 k x2 x9 x21 x22 x23 x30 x31 (wrap64 (x32 + 1)) x668000 x668001 x668002 x669000 x669001)) else (none)) else (none)) else (none)) else (none)) else (none)) else (none)) else (spec_IsFarPainting.l0 k x2 x21 x22 (wrap64 (x23 + 1)) x668000 x668001 x668002 x669000 x669001)
end
def spec_IsFarPainting.f (k : Nat) (a0_0 : Int) (a0_1 : Int) (l0_2 : List Int) (a1_0 : Int) (a1_1 : Int) (l2 : List Int) : Option (Bool × Bool) := (spec_boTwo.f k a0_0 a0_1 l0_2 a1_0 a1_1).bind fun t669 => (if t669 = true then ((spec_paGood.f k a0_0 a0_1 l0_2 l2).bind fun t670 => (if t670 = true then ((spec_boCells.f k a0_0 a0_1 l0_2).bind fun t671 => (spec_IsFarPainting.l0 k l2 t671 (t671.length : Int) 0 a0_0 a0_1 l0_2 a1_0 a1_1)) else (some (false, true)))) else (some (false, false)))
set_option maxHeartbeats 8000000 in
set_option maxRecDepth 100000 in
theorem spec_IsFarPainting.calls (k : Nat) (a0_0 : Int) (a0_1 : Int) (A0_2 : Option Addr) (c0_2 : Nat) (l0_2 : List Int) (a1_0 : Int) (a1_1 : Int) (A2 : Option Addr) (c2 : Nat) (l2 : List Int) (r1 : Bool) (r2 : Bool) (w : World) (hr0_2 : Kd.C (Kd.int .i64) w A0_2 l0_2.length l0_2) (hc0_2 : l0_2.length ≤ c0_2) (hr2 : Kd.C (Kd.int .i64) w A2 l2.length l2) (hc2 : l2.length ≤ c2) (h : spec_IsFarPainting.f k a0_0 a0_1 l0_2 a1_0 a1_1 l2 = some (r1, r2)) :
  Calls Try.prog 27 #[.agg #[.int .i64 a0_0, .int .i64 a0_1, .slice A0_2 l0_2.length c0_2], .agg #[.int .i64 a1_0, .int .i64 a1_1], .slice A2 l2.length c2] w fun e w' => e = .returned (.tuple #[.bool r1, .bool r2]) ∧ Below w.heap.size w w' := by
 have hu30 := Try.underlying30
 have hu32 := Try.underlying32
 have HR0_2 := Aside0.mk hr0_2
 have HC0_2 := Aside0.mk hc0_2
 clear hr0_2 hc0_2
 have HR2 := Aside0.mk hr2
 have HC2 := Aside0.mk hc2
 clear hr2 hc2
 have HB := Aside0.mk (Below.refl w.heap.size w)
 have H : ((spec_boTwo.f k a0_0 a0_1 l0_2 a1_0 a1_1).bind fun t669 => (if t669 = true then ((spec_paGood.f k a0_0 a0_1 l0_2 l2).bind fun t670 => (if t670 = true then ((spec_boCells.f k a0_0 a0_1 l0_2).bind fun t671 => (spec_IsFarPainting.l0 k l2 t671 (t671.length : Int) 0 a0_0 a0_1 l0_2 a1_0 a1_1)) else (some (false, true)))) else (some (false, false)))) = some (r1, r2) := h
 clear h
 replace H := Option.bind_eq_some_iff.mp H
 obtain ⟨t669, A40, H⟩ := H
 replace H : (if t669 = true then ((spec_paGood.f k a0_0 a0_1 l0_2 l2).bind fun t670 => (if t670 = true then ((spec_boCells.f k a0_0 a0_1 l0_2).bind fun t671 => (spec_IsFarPainting.l0 k l2 t671 (t671.length : Int) 0 a0_0 a0_1 l0_2 a1_0 a1_1)) else (some (false, true)))) else (some (false, false))) = some (r1, r2) := H
 have A4 := Aside0.mk A40
 clear A40
 by_cases c5 : t669 = true
 rotate_left
 ·replace c5 := Bool.eq_false_iff.mpr c5
  subst c5
  have H1 : (some (false, false)) = some (r1, r2) := by rw [if_neg (show ¬ (false = true) by decide)] at H; exact H
  clear H
  have H := H1
  clear H1
  simp only [Option.some.injEq, Prod.mk.injEq] at H
  obtain ⟨rfl, rfl⟩ := H
  go_enter Try.func27, Try.ntmps27
  go_wp2_with (first | ((with_reducible refine gate_dst (N := 3) rfl ?_); refine box_event ?hg (N := 3) ?hd (cs := #[.int .i64 a0_0, .int .i64 a0_1, .slice A0_2 l0_2.length c0_2]) (t := 30) ?hr ?_; (case hd => rfl); (case hg => rfl); (case hr => first | (go_simp; done) | (go_simp; rfl)); intro gb667 hg w45 hbox hb; have n0_ := Aside0.mk (below_step zac6 hb); have n1_ := Aside0.mk (hbox); have n2_ := Aside0.mk ((zac17 : w.heap.size ≤ gb667)); have n3_ := Aside0.mk ((zac17 : w.heap.size ≤ gb667)); clear HB; have HB := n0_; have BK667 := n1_; have GW667 := n2_; have GE667 := n3_; clear n0_ n1_ n2_ n3_; clear hb hbox hg) | ((with_reducible refine gate_dst (N := 4) rfl ?_); refine box_event ?hg (N := 4) ?hd (cs := #[.int .i64 a1_0, .int .i64 a1_1]) (t := 32) ?hr ?_; (case hd => rfl); (case hg => rfl); (case hr => first | (go_simp; done) | (go_simp; rfl)); intro gb668 hg w46 hbox hb; have n0_ := Aside0.mk (blk_below (g := gb667) (o := .cells #[.int .i64 a0_0, .int .i64 a0_1, .slice A0_2 l0_2.length c0_2] 30 (0, 0)) zac3 hb); have n1_ := Aside0.mk (below_step zac7 hb); have n2_ := Aside0.mk (hbox); have n3_ := Aside0.mk ((zac18 : w.heap.size ≤ gb668)); have n4_ := Aside0.mk ((zac18 : w.heap.size ≤ gb668)); have n5_ := Aside0.mk ((zac15 : gb667 ≠ gb668)); have n6_ := Aside0.mk ((zac16 : gb668 ≠ gb667)); clear BK667; clear HB; have BK667 := n0_; have HB := n1_; have BK668 := n2_; have GW668 := n3_; have GE668 := n4_; have NB667_668 := n5_; have NB668_667 := n6_; clear n0_ n1_ n2_ n3_ n4_ n5_ n6_; clear hb hbox hg; have hnb47 := NB667_668.out; have hnc47 := NB668_667.out; have hcz48_0 : w46.cell? ⟨gb667, 0, none⟩ = some (.int .i64 a0_0) := (blk_cell BK667.out 0).trans rfl; have hcz48_1 : w46.cell? ⟨gb667, 1, none⟩ = some (.int .i64 a0_1) := (blk_cell BK667.out 1).trans rfl; have hcz48_2 : w46.cell? ⟨gb667, 2, none⟩ = some (.slice A0_2 l0_2.length c0_2) := (blk_cell BK667.out 2).trans rfl; have hfz48_0 := blk_frozen BK667.out 0; have hfz48_1 := blk_frozen BK667.out 1; have hfz48_2 := blk_frozen BK667.out 2; have hcz49_0 : w46.cell? ⟨gb668, 0, none⟩ = some (.int .i64 a1_0) := (blk_cell BK668.out 0).trans rfl; have hcz49_1 : w46.cell? ⟨gb668, 1, none⟩ = some (.int .i64 a1_1) := (blk_cell BK668.out 1).trans rfl; have hfz49_0 := blk_frozen BK668.out 0; have hfz49_1 := blk_frozen BK668.out 1) | (go_at_call 54; (with_reducible refine (spec_boTwo.calls k a0_0 a0_1 _ _ l0_2 a1_0 a1_1 false _ ?side1 ?side2 A4.out).mono ?_); (case side1 => exact zac2); (case side2 => exact HC0_2.out); rintro e w50 ⟨rfl, hb⟩; have n0_ := Aside0.mk (blk_below (g := gb667) (o := .cells #[.int .i64 a0_0, .int .i64 a0_1, .slice A0_2 l0_2.length c0_2] 30 (0, 0)) zac3 hb); have n1_ := Aside0.mk (blk_below (g := gb668) (o := .cells #[.int .i64 a1_0, .int .i64 a1_1] 32 (0, 0)) zac4 hb); have n2_ := Aside0.mk (below_step zac1 hb); clear BK667; clear BK668; clear HB; have BK667 := n0_; have BK668 := n1_; have HB := n2_; clear n0_ n1_ n2_; (try clear hb); (try clear hb2); (try clear hk); (try clear hi); (try clear hna_); (try clear hnb_)))
  repeat ((first | go_quiet (first | (go_at_call 54; (with_reducible refine (spec_boTwo.calls k a0_0 a0_1 _ _ l0_2 a1_0 a1_1 false _ ?side1 ?side2 A4.out).mono ?_); (case side1 => exact zac2); (case side2 => exact HC0_2.out); rintro e w50 ⟨rfl, hb⟩; have n0_ := Aside0.mk (blk_below (g := gb667) (o := .cells #[.int .i64 a0_0, .int .i64 a0_1, .slice A0_2 l0_2.length c0_2] 30 (0, 0)) zac3 hb); have n1_ := Aside0.mk (blk_below (g := gb668) (o := .cells #[.int .i64 a1_0, .int .i64 a1_1] 32 (0, 0)) zac4 hb); have n2_ := Aside0.mk (below_step zac1 hb); clear BK667; clear BK668; clear HB; have BK667 := n0_; have BK668 := n1_; have HB := n2_; clear n0_ n1_ n2_; (try clear hb); (try clear hb2); (try clear hk); (try clear hi); (try clear hna_); (try clear hnb_))) | (refine wp_region_quiet_lit (by kernel_rfl) (by kernel_rfl) ?_; (repeat (any_goals (first | go_big_quiet_step (first | (go_at_call 54; (with_reducible refine (spec_boTwo.calls k a0_0 a0_1 _ _ l0_2 a1_0 a1_1 false _ ?side1 ?side2 A4.out).mono ?_); (case side1 => exact zac2); (case side2 => exact HC0_2.out); rintro e w50 ⟨rfl, hb⟩; have n0_ := Aside0.mk (blk_below (g := gb667) (o := .cells #[.int .i64 a0_0, .int .i64 a0_1, .slice A0_2 l0_2.length c0_2] 30 (0, 0)) zac3 hb); have n1_ := Aside0.mk (blk_below (g := gb668) (o := .cells #[.int .i64 a1_0, .int .i64 a1_1] 32 (0, 0)) zac4 hb); have n2_ := Aside0.mk (below_step zac1 hb); clear BK667; clear BK668; clear HB; have BK667 := n0_; have BK668 := n1_; have HB := n2_; clear n0_ n1_ n2_; (try clear hb); (try clear hb2); (try clear hk); (try clear hi); (try clear hna_); (try clear hnb_))) | quiet_step (first | (go_at_call 54; (with_reducible refine (spec_boTwo.calls k a0_0 a0_1 _ _ l0_2 a1_0 a1_1 false _ ?side1 ?side2 A4.out).mono ?_); (case side1 => exact zac2); (case side2 => exact HC0_2.out); rintro e w50 ⟨rfl, hb⟩; have n0_ := Aside0.mk (blk_below (g := gb667) (o := .cells #[.int .i64 a0_0, .int .i64 a0_1, .slice A0_2 l0_2.length c0_2] 30 (0, 0)) zac3 hb); have n1_ := Aside0.mk (blk_below (g := gb668) (o := .cells #[.int .i64 a1_0, .int .i64 a1_1] 32 (0, 0)) zac4 hb); have n2_ := Aside0.mk (below_step zac1 hb); clear BK667; clear BK668; clear HB; have BK667 := n0_; have BK668 := n1_; have HB := n2_; clear n0_ n1_ n2_; (try clear hb); (try clear hb2); (try clear hk); (try clear hi); (try clear hna_); (try clear hnb_)))))); all_goals (refine wpQuiet_nil ?_; intro _ hw2_; obtain ⟨nq, hw3_⟩ := hw2_; subst hw3_))); try go_wp2_with (first | ((with_reducible refine gate_dst (N := 3) rfl ?_); refine box_event ?hg (N := 3) ?hd (cs := #[.int .i64 a0_0, .int .i64 a0_1, .slice A0_2 l0_2.length c0_2]) (t := 30) ?hr ?_; (case hd => rfl); (case hg => rfl); (case hr => first | (go_simp; done) | (go_simp; rfl)); intro gb667 hg w45 hbox hb; have n0_ := Aside0.mk (below_step zac6 hb); have n1_ := Aside0.mk (hbox); have n2_ := Aside0.mk ((zac17 : w.heap.size ≤ gb667)); have n3_ := Aside0.mk ((zac17 : w.heap.size ≤ gb667)); clear HB; have HB := n0_; have BK667 := n1_; have GW667 := n2_; have GE667 := n3_; clear n0_ n1_ n2_ n3_; clear hb hbox hg) | ((with_reducible refine gate_dst (N := 4) rfl ?_); refine box_event ?hg (N := 4) ?hd (cs := #[.int .i64 a1_0, .int .i64 a1_1]) (t := 32) ?hr ?_; (case hd => rfl); (case hg => rfl); (case hr => first | (go_simp; done) | (go_simp; rfl)); intro gb668 hg w46 hbox hb; have n0_ := Aside0.mk (blk_below (g := gb667) (o := .cells #[.int .i64 a0_0, .int .i64 a0_1, .slice A0_2 l0_2.length c0_2] 30 (0, 0)) zac3 hb); have n1_ := Aside0.mk (below_step zac7 hb); have n2_ := Aside0.mk (hbox); have n3_ := Aside0.mk ((zac18 : w.heap.size ≤ gb668)); have n4_ := Aside0.mk ((zac18 : w.heap.size ≤ gb668)); have n5_ := Aside0.mk ((zac15 : gb667 ≠ gb668)); have n6_ := Aside0.mk ((zac16 : gb668 ≠ gb667)); clear BK667; clear HB; have BK667 := n0_; have HB := n1_; have BK668 := n2_; have GW668 := n3_; have GE668 := n4_; have NB667_668 := n5_; have NB668_667 := n6_; clear n0_ n1_ n2_ n3_ n4_ n5_ n6_; clear hb hbox hg; have hnb47 := NB667_668.out; have hnc47 := NB668_667.out; have hcz48_0 : w46.cell? ⟨gb667, 0, none⟩ = some (.int .i64 a0_0) := (blk_cell BK667.out 0).trans rfl; have hcz48_1 : w46.cell? ⟨gb667, 1, none⟩ = some (.int .i64 a0_1) := (blk_cell BK667.out 1).trans rfl; have hcz48_2 : w46.cell? ⟨gb667, 2, none⟩ = some (.slice A0_2 l0_2.length c0_2) := (blk_cell BK667.out 2).trans rfl; have hfz48_0 := blk_frozen BK667.out 0; have hfz48_1 := blk_frozen BK667.out 1; have hfz48_2 := blk_frozen BK667.out 2; have hcz49_0 : w46.cell? ⟨gb668, 0, none⟩ = some (.int .i64 a1_0) := (blk_cell BK668.out 0).trans rfl; have hcz49_1 : w46.cell? ⟨gb668, 1, none⟩ = some (.int .i64 a1_1) := (blk_cell BK668.out 1).trans rfl; have hfz49_0 := blk_frozen BK668.out 0; have hfz49_1 := blk_frozen BK668.out 1) | (go_at_call 54; (with_reducible refine (spec_boTwo.calls k a0_0 a0_1 _ _ l0_2 a1_0 a1_1 false _ ?side1 ?side2 A4.out).mono ?_); (case side1 => exact zac2); (case side2 => exact HC0_2.out); rintro e w50 ⟨rfl, hb⟩; have n0_ := Aside0.mk (blk_below (g := gb667) (o := .cells #[.int .i64 a0_0, .int .i64 a0_1, .slice A0_2 l0_2.length c0_2] 30 (0, 0)) zac3 hb); have n1_ := Aside0.mk (blk_below (g := gb668) (o := .cells #[.int .i64 a1_0, .int .i64 a1_1] 32 (0, 0)) zac4 hb); have n2_ := Aside0.mk (below_step zac1 hb); clear BK667; clear BK668; clear HB; have BK667 := n0_; have BK668 := n1_; have HB := n2_; clear n0_ n1_ n2_; (try clear hb); (try clear hb2); (try clear hk); (try clear hi); (try clear hna_); (try clear hnb_))))
  go_ret2
  exact ⟨zac13, zac1⟩
 subst c5
 have H1 : ((spec_paGood.f k a0_0 a0_1 l0_2 l2).bind fun t670 => (if t670 = true then ((spec_boCells.f k a0_0 a0_1 l0_2).bind fun t671 => (spec_IsFarPainting.l0 k l2 t671 (t671.length : Int) 0 a0_0 a0_1 l0_2 a1_0 a1_1)) else (some (false, true)))) = some (r1, r2) := by rw [if_pos rfl] at H; exact H
 clear H
 have H := H1
 clear H1
 replace H := Option.bind_eq_some_iff.mp H
 obtain ⟨t670, A60, H⟩ := H
 replace H : (if t670 = true then ((spec_boCells.f k a0_0 a0_1 l0_2).bind fun t671 => (spec_IsFarPainting.l0 k l2 t671 (t671.length : Int) 0 a0_0 a0_1 l0_2 a1_0 a1_1)) else (some (false, true))) = some (r1, r2) := H
 have A6 := Aside0.mk A60
 clear A60
 by_cases c7 : t670 = true
 rotate_left
 ·replace c7 := Bool.eq_false_iff.mpr c7
  subst c7
  have H1 : (some (false, true)) = some (r1, r2) := by rw [if_neg (show ¬ (false = true) by decide)] at H; exact H
  clear H
  have H := H1
  clear H1
  simp only [Option.some.injEq, Prod.mk.injEq] at H
  obtain ⟨rfl, rfl⟩ := H
  go_enter Try.func27, Try.ntmps27
  go_wp2_with (first | ((with_reducible refine gate_dst (N := 3) rfl ?_); refine box_event ?hg (N := 3) ?hd (cs := #[.int .i64 a0_0, .int .i64 a0_1, .slice A0_2 l0_2.length c0_2]) (t := 30) ?hr ?_; (case hd => rfl); (case hg => rfl); (case hr => first | (go_simp; done) | (go_simp; rfl)); intro gb667 hg w37 hbox hb; have n0_ := Aside0.mk (below_step zac6 hb); have n1_ := Aside0.mk (hbox); have n2_ := Aside0.mk ((zac17 : w.heap.size ≤ gb667)); have n3_ := Aside0.mk ((zac17 : w.heap.size ≤ gb667)); clear HB; have HB := n0_; have BK667 := n1_; have GW667 := n2_; have GE667 := n3_; clear n0_ n1_ n2_ n3_; clear hb hbox hg) | ((with_reducible refine gate_dst (N := 4) rfl ?_); refine box_event ?hg (N := 4) ?hd (cs := #[.int .i64 a1_0, .int .i64 a1_1]) (t := 32) ?hr ?_; (case hd => rfl); (case hg => rfl); (case hr => first | (go_simp; done) | (go_simp; rfl)); intro gb668 hg w38 hbox hb; have n0_ := Aside0.mk (blk_below (g := gb667) (o := .cells #[.int .i64 a0_0, .int .i64 a0_1, .slice A0_2 l0_2.length c0_2] 30 (0, 0)) zac3 hb); have n1_ := Aside0.mk (below_step zac7 hb); have n2_ := Aside0.mk (hbox); have n3_ := Aside0.mk ((zac18 : w.heap.size ≤ gb668)); have n4_ := Aside0.mk ((zac18 : w.heap.size ≤ gb668)); have n5_ := Aside0.mk ((zac15 : gb667 ≠ gb668)); have n6_ := Aside0.mk ((zac16 : gb668 ≠ gb667)); clear BK667; clear HB; have BK667 := n0_; have HB := n1_; have BK668 := n2_; have GW668 := n3_; have GE668 := n4_; have NB667_668 := n5_; have NB668_667 := n6_; clear n0_ n1_ n2_ n3_ n4_ n5_ n6_; clear hb hbox hg; have hnb39 := NB667_668.out; have hnc39 := NB668_667.out; have hcz40_0 : w38.cell? ⟨gb667, 0, none⟩ = some (.int .i64 a0_0) := (blk_cell BK667.out 0).trans rfl; have hcz40_1 : w38.cell? ⟨gb667, 1, none⟩ = some (.int .i64 a0_1) := (blk_cell BK667.out 1).trans rfl; have hcz40_2 : w38.cell? ⟨gb667, 2, none⟩ = some (.slice A0_2 l0_2.length c0_2) := (blk_cell BK667.out 2).trans rfl; have hfz40_0 := blk_frozen BK667.out 0; have hfz40_1 := blk_frozen BK667.out 1; have hfz40_2 := blk_frozen BK667.out 2; have hcz41_0 : w38.cell? ⟨gb668, 0, none⟩ = some (.int .i64 a1_0) := (blk_cell BK668.out 0).trans rfl; have hcz41_1 : w38.cell? ⟨gb668, 1, none⟩ = some (.int .i64 a1_1) := (blk_cell BK668.out 1).trans rfl; have hfz41_0 := blk_frozen BK668.out 0; have hfz41_1 := blk_frozen BK668.out 1) | (go_at_call 54; (with_reducible refine (spec_boTwo.calls k a0_0 a0_1 _ _ l0_2 a1_0 a1_1 true _ ?side1 ?side2 A4.out).mono ?_); (case side1 => exact zac2); (case side2 => exact HC0_2.out); rintro e w42 ⟨rfl, hb⟩; have n0_ := Aside0.mk (blk_below (g := gb667) (o := .cells #[.int .i64 a0_0, .int .i64 a0_1, .slice A0_2 l0_2.length c0_2] 30 (0, 0)) zac3 hb); have n1_ := Aside0.mk (blk_below (g := gb668) (o := .cells #[.int .i64 a1_0, .int .i64 a1_1] 32 (0, 0)) zac4 hb); have n2_ := Aside0.mk (below_step zac1 hb); clear BK667; clear BK668; clear HB; have BK667 := n0_; have BK668 := n1_; have HB := n2_; clear n0_ n1_ n2_; (try clear hb); (try clear hb2); (try clear hk); (try clear hi); (try clear hna_); (try clear hnb_); have hcz43_0 : w42.cell? ⟨gb667, 0, none⟩ = some (.int .i64 a0_0) := (blk_cell BK667.out 0).trans rfl; have hcz43_1 : w42.cell? ⟨gb667, 1, none⟩ = some (.int .i64 a0_1) := (blk_cell BK667.out 1).trans rfl; have hcz43_2 : w42.cell? ⟨gb667, 2, none⟩ = some (.slice A0_2 l0_2.length c0_2) := (blk_cell BK667.out 2).trans rfl; have hfz43_0 := blk_frozen BK667.out 0; have hfz43_1 := blk_frozen BK667.out 1; have hfz43_2 := blk_frozen BK667.out 2) | (go_at_call 55; (with_reducible refine (spec_paGood.calls k a0_0 a0_1 _ _ l0_2 _ _ l2 false _ ?side1 ?side2 ?side3 ?side4 A6.out).mono ?_); (case side1 => exact zac2); (case side2 => exact HC0_2.out); (case side3 => exact zac9); (case side4 => exact HC2.out); rintro e w44 ⟨rfl, hb⟩; have n0_ := Aside0.mk (blk_below (g := gb667) (o := .cells #[.int .i64 a0_0, .int .i64 a0_1, .slice A0_2 l0_2.length c0_2] 30 (0, 0)) zac3 hb); have n1_ := Aside0.mk (blk_below (g := gb668) (o := .cells #[.int .i64 a1_0, .int .i64 a1_1] 32 (0, 0)) zac4 hb); have n2_ := Aside0.mk (below_step zac1 hb); clear BK667; clear BK668; clear HB; have BK667 := n0_; have BK668 := n1_; have HB := n2_; clear n0_ n1_ n2_; (try clear hb); (try clear hb2); (try clear hk); (try clear hi); (try clear hna_); (try clear hnb_)))
  repeat ((first | go_quiet (first | (go_at_call 54; (with_reducible refine (spec_boTwo.calls k a0_0 a0_1 _ _ l0_2 a1_0 a1_1 true _ ?side1 ?side2 A4.out).mono ?_); (case side1 => exact zac2); (case side2 => exact HC0_2.out); rintro e w42 ⟨rfl, hb⟩; have n0_ := Aside0.mk (blk_below (g := gb667) (o := .cells #[.int .i64 a0_0, .int .i64 a0_1, .slice A0_2 l0_2.length c0_2] 30 (0, 0)) zac3 hb); have n1_ := Aside0.mk (blk_below (g := gb668) (o := .cells #[.int .i64 a1_0, .int .i64 a1_1] 32 (0, 0)) zac4 hb); have n2_ := Aside0.mk (below_step zac1 hb); clear BK667; clear BK668; clear HB; have BK667 := n0_; have BK668 := n1_; have HB := n2_; clear n0_ n1_ n2_; (try clear hb); (try clear hb2); (try clear hk); (try clear hi); (try clear hna_); (try clear hnb_); have hcz43_0 : w42.cell? ⟨gb667, 0, none⟩ = some (.int .i64 a0_0) := (blk_cell BK667.out 0).trans rfl; have hcz43_1 : w42.cell? ⟨gb667, 1, none⟩ = some (.int .i64 a0_1) := (blk_cell BK667.out 1).trans rfl; have hcz43_2 : w42.cell? ⟨gb667, 2, none⟩ = some (.slice A0_2 l0_2.length c0_2) := (blk_cell BK667.out 2).trans rfl; have hfz43_0 := blk_frozen BK667.out 0; have hfz43_1 := blk_frozen BK667.out 1; have hfz43_2 := blk_frozen BK667.out 2) | (go_at_call 55; (with_reducible refine (spec_paGood.calls k a0_0 a0_1 _ _ l0_2 _ _ l2 false _ ?side1 ?side2 ?side3 ?side4 A6.out).mono ?_); (case side1 => exact zac2); (case side2 => exact HC0_2.out); (case side3 => exact zac9); (case side4 => exact HC2.out); rintro e w44 ⟨rfl, hb⟩; have n0_ := Aside0.mk (blk_below (g := gb667) (o := .cells #[.int .i64 a0_0, .int .i64 a0_1, .slice A0_2 l0_2.length c0_2] 30 (0, 0)) zac3 hb); have n1_ := Aside0.mk (blk_below (g := gb668) (o := .cells #[.int .i64 a1_0, .int .i64 a1_1] 32 (0, 0)) zac4 hb); have n2_ := Aside0.mk (below_step zac1 hb); clear BK667; clear BK668; clear HB; have BK667 := n0_; have BK668 := n1_; have HB := n2_; clear n0_ n1_ n2_; (try clear hb); (try clear hb2); (try clear hk); (try clear hi); (try clear hna_); (try clear hnb_))) | (refine wp_region_quiet_lit (by kernel_rfl) (by kernel_rfl) ?_; (repeat (any_goals (first | go_big_quiet_step (first | (go_at_call 54; (with_reducible refine (spec_boTwo.calls k a0_0 a0_1 _ _ l0_2 a1_0 a1_1 true _ ?side1 ?side2 A4.out).mono ?_); (case side1 => exact zac2); (case side2 => exact HC0_2.out); rintro e w42 ⟨rfl, hb⟩; have n0_ := Aside0.mk (blk_below (g := gb667) (o := .cells #[.int .i64 a0_0, .int .i64 a0_1, .slice A0_2 l0_2.length c0_2] 30 (0, 0)) zac3 hb); have n1_ := Aside0.mk (blk_below (g := gb668) (o := .cells #[.int .i64 a1_0, .int .i64 a1_1] 32 (0, 0)) zac4 hb); have n2_ := Aside0.mk (below_step zac1 hb); clear BK667; clear BK668; clear HB; have BK667 := n0_; have BK668 := n1_; have HB := n2_; clear n0_ n1_ n2_; (try clear hb); (try clear hb2); (try clear hk); (try clear hi); (try clear hna_); (try clear hnb_); have hcz43_0 : w42.cell? ⟨gb667, 0, none⟩ = some (.int .i64 a0_0) := (blk_cell BK667.out 0).trans rfl; have hcz43_1 : w42.cell? ⟨gb667, 1, none⟩ = some (.int .i64 a0_1) := (blk_cell BK667.out 1).trans rfl; have hcz43_2 : w42.cell? ⟨gb667, 2, none⟩ = some (.slice A0_2 l0_2.length c0_2) := (blk_cell BK667.out 2).trans rfl; have hfz43_0 := blk_frozen BK667.out 0; have hfz43_1 := blk_frozen BK667.out 1; have hfz43_2 := blk_frozen BK667.out 2) | (go_at_call 55; (with_reducible refine (spec_paGood.calls k a0_0 a0_1 _ _ l0_2 _ _ l2 false _ ?side1 ?side2 ?side3 ?side4 A6.out).mono ?_); (case side1 => exact zac2); (case side2 => exact HC0_2.out); (case side3 => exact zac9); (case side4 => exact HC2.out); rintro e w44 ⟨rfl, hb⟩; have n0_ := Aside0.mk (blk_below (g := gb667) (o := .cells #[.int .i64 a0_0, .int .i64 a0_1, .slice A0_2 l0_2.length c0_2] 30 (0, 0)) zac3 hb); have n1_ := Aside0.mk (blk_below (g := gb668) (o := .cells #[.int .i64 a1_0, .int .i64 a1_1] 32 (0, 0)) zac4 hb); have n2_ := Aside0.mk (below_step zac1 hb); clear BK667; clear BK668; clear HB; have BK667 := n0_; have BK668 := n1_; have HB := n2_; clear n0_ n1_ n2_; (try clear hb); (try clear hb2); (try clear hk); (try clear hi); (try clear hna_); (try clear hnb_))) | quiet_step (first | (go_at_call 54; (with_reducible refine (spec_boTwo.calls k a0_0 a0_1 _ _ l0_2 a1_0 a1_1 true _ ?side1 ?side2 A4.out).mono ?_); (case side1 => exact zac2); (case side2 => exact HC0_2.out); rintro e w42 ⟨rfl, hb⟩; have n0_ := Aside0.mk (blk_below (g := gb667) (o := .cells #[.int .i64 a0_0, .int .i64 a0_1, .slice A0_2 l0_2.length c0_2] 30 (0, 0)) zac3 hb); have n1_ := Aside0.mk (blk_below (g := gb668) (o := .cells #[.int .i64 a1_0, .int .i64 a1_1] 32 (0, 0)) zac4 hb); have n2_ := Aside0.mk (below_step zac1 hb); clear BK667; clear BK668; clear HB; have BK667 := n0_; have BK668 := n1_; have HB := n2_; clear n0_ n1_ n2_; (try clear hb); (try clear hb2); (try clear hk); (try clear hi); (try clear hna_); (try clear hnb_); have hcz43_0 : w42.cell? ⟨gb667, 0, none⟩ = some (.int .i64 a0_0) := (blk_cell BK667.out 0).trans rfl; have hcz43_1 : w42.cell? ⟨gb667, 1, none⟩ = some (.int .i64 a0_1) := (blk_cell BK667.out 1).trans rfl; have hcz43_2 : w42.cell? ⟨gb667, 2, none⟩ = some (.slice A0_2 l0_2.length c0_2) := (blk_cell BK667.out 2).trans rfl; have hfz43_0 := blk_frozen BK667.out 0; have hfz43_1 := blk_frozen BK667.out 1; have hfz43_2 := blk_frozen BK667.out 2) | (go_at_call 55; (with_reducible refine (spec_paGood.calls k a0_0 a0_1 _ _ l0_2 _ _ l2 false _ ?side1 ?side2 ?side3 ?side4 A6.out).mono ?_); (case side1 => exact zac2); (case side2 => exact HC0_2.out); (case side3 => exact zac9); (case side4 => exact HC2.out); rintro e w44 ⟨rfl, hb⟩; have n0_ := Aside0.mk (blk_below (g := gb667) (o := .cells #[.int .i64 a0_0, .int .i64 a0_1, .slice A0_2 l0_2.length c0_2] 30 (0, 0)) zac3 hb); have n1_ := Aside0.mk (blk_below (g := gb668) (o := .cells #[.int .i64 a1_0, .int .i64 a1_1] 32 (0, 0)) zac4 hb); have n2_ := Aside0.mk (below_step zac1 hb); clear BK667; clear BK668; clear HB; have BK667 := n0_; have BK668 := n1_; have HB := n2_; clear n0_ n1_ n2_; (try clear hb); (try clear hb2); (try clear hk); (try clear hi); (try clear hna_); (try clear hnb_)))))); all_goals (refine wpQuiet_nil ?_; intro _ hw2_; obtain ⟨nq, hw3_⟩ := hw2_; subst hw3_))); try go_wp2_with (first | ((with_reducible refine gate_dst (N := 3) rfl ?_); refine box_event ?hg (N := 3) ?hd (cs := #[.int .i64 a0_0, .int .i64 a0_1, .slice A0_2 l0_2.length c0_2]) (t := 30) ?hr ?_; (case hd => rfl); (case hg => rfl); (case hr => first | (go_simp; done) | (go_simp; rfl)); intro gb667 hg w37 hbox hb; have n0_ := Aside0.mk (below_step zac6 hb); have n1_ := Aside0.mk (hbox); have n2_ := Aside0.mk ((zac17 : w.heap.size ≤ gb667)); have n3_ := Aside0.mk ((zac17 : w.heap.size ≤ gb667)); clear HB; have HB := n0_; have BK667 := n1_; have GW667 := n2_; have GE667 := n3_; clear n0_ n1_ n2_ n3_; clear hb hbox hg) | ((with_reducible refine gate_dst (N := 4) rfl ?_); refine box_event ?hg (N := 4) ?hd (cs := #[.int .i64 a1_0, .int .i64 a1_1]) (t := 32) ?hr ?_; (case hd => rfl); (case hg => rfl); (case hr => first | (go_simp; done) | (go_simp; rfl)); intro gb668 hg w38 hbox hb; have n0_ := Aside0.mk (blk_below (g := gb667) (o := .cells #[.int .i64 a0_0, .int .i64 a0_1, .slice A0_2 l0_2.length c0_2] 30 (0, 0)) zac3 hb); have n1_ := Aside0.mk (below_step zac7 hb); have n2_ := Aside0.mk (hbox); have n3_ := Aside0.mk ((zac18 : w.heap.size ≤ gb668)); have n4_ := Aside0.mk ((zac18 : w.heap.size ≤ gb668)); have n5_ := Aside0.mk ((zac15 : gb667 ≠ gb668)); have n6_ := Aside0.mk ((zac16 : gb668 ≠ gb667)); clear BK667; clear HB; have BK667 := n0_; have HB := n1_; have BK668 := n2_; have GW668 := n3_; have GE668 := n4_; have NB667_668 := n5_; have NB668_667 := n6_; clear n0_ n1_ n2_ n3_ n4_ n5_ n6_; clear hb hbox hg; have hnb39 := NB667_668.out; have hnc39 := NB668_667.out; have hcz40_0 : w38.cell? ⟨gb667, 0, none⟩ = some (.int .i64 a0_0) := (blk_cell BK667.out 0).trans rfl; have hcz40_1 : w38.cell? ⟨gb667, 1, none⟩ = some (.int .i64 a0_1) := (blk_cell BK667.out 1).trans rfl; have hcz40_2 : w38.cell? ⟨gb667, 2, none⟩ = some (.slice A0_2 l0_2.length c0_2) := (blk_cell BK667.out 2).trans rfl; have hfz40_0 := blk_frozen BK667.out 0; have hfz40_1 := blk_frozen BK667.out 1; have hfz40_2 := blk_frozen BK667.out 2; have hcz41_0 : w38.cell? ⟨gb668, 0, none⟩ = some (.int .i64 a1_0) := (blk_cell BK668.out 0).trans rfl; have hcz41_1 : w38.cell? ⟨gb668, 1, none⟩ = some (.int .i64 a1_1) := (blk_cell BK668.out 1).trans rfl; have hfz41_0 := blk_frozen BK668.out 0; have hfz41_1 := blk_frozen BK668.out 1) | (go_at_call 54; (with_reducible refine (spec_boTwo.calls k a0_0 a0_1 _ _ l0_2 a1_0 a1_1 true _ ?side1 ?side2 A4.out).mono ?_); (case side1 => exact zac2); (case side2 => exact HC0_2.out); rintro e w42 ⟨rfl, hb⟩; have n0_ := Aside0.mk (blk_below (g := gb667) (o := .cells #[.int .i64 a0_0, .int .i64 a0_1, .slice A0_2 l0_2.length c0_2] 30 (0, 0)) zac3 hb); have n1_ := Aside0.mk (blk_below (g := gb668) (o := .cells #[.int .i64 a1_0, .int .i64 a1_1] 32 (0, 0)) zac4 hb); have n2_ := Aside0.mk (below_step zac1 hb); clear BK667; clear BK668; clear HB; have BK667 := n0_; have BK668 := n1_; have HB := n2_; clear n0_ n1_ n2_; (try clear hb); (try clear hb2); (try clear hk); (try clear hi); (try clear hna_); (try clear hnb_); have hcz43_0 : w42.cell? ⟨gb667, 0, none⟩ = some (.int .i64 a0_0) := (blk_cell BK667.out 0).trans rfl; have hcz43_1 : w42.cell? ⟨gb667, 1, none⟩ = some (.int .i64 a0_1) := (blk_cell BK667.out 1).trans rfl; have hcz43_2 : w42.cell? ⟨gb667, 2, none⟩ = some (.slice A0_2 l0_2.length c0_2) := (blk_cell BK667.out 2).trans rfl; have hfz43_0 := blk_frozen BK667.out 0; have hfz43_1 := blk_frozen BK667.out 1; have hfz43_2 := blk_frozen BK667.out 2) | (go_at_call 55; (with_reducible refine (spec_paGood.calls k a0_0 a0_1 _ _ l0_2 _ _ l2 false _ ?side1 ?side2 ?side3 ?side4 A6.out).mono ?_); (case side1 => exact zac2); (case side2 => exact HC0_2.out); (case side3 => exact zac9); (case side4 => exact HC2.out); rintro e w44 ⟨rfl, hb⟩; have n0_ := Aside0.mk (blk_below (g := gb667) (o := .cells #[.int .i64 a0_0, .int .i64 a0_1, .slice A0_2 l0_2.length c0_2] 30 (0, 0)) zac3 hb); have n1_ := Aside0.mk (blk_below (g := gb668) (o := .cells #[.int .i64 a1_0, .int .i64 a1_1] 32 (0, 0)) zac4 hb); have n2_ := Aside0.mk (below_step zac1 hb); clear BK667; clear BK668; clear HB; have BK667 := n0_; have BK668 := n1_; have HB := n2_; clear n0_ n1_ n2_; (try clear hb); (try clear hb2); (try clear hk); (try clear hi); (try clear hna_); (try clear hnb_))))
  go_ret2
  exact ⟨zac13, zac1⟩
 subst c7
 have H1 : ((spec_boCells.f k a0_0 a0_1 l0_2).bind fun t671 => (spec_IsFarPainting.l0 k l2 t671 (t671.length : Int) 0 a0_0 a0_1 l0_2 a1_0 a1_1)) = some (r1, r2) := by rw [if_pos rfl] at H; exact H
 clear H
 have H := H1
 clear H1
 replace H := Option.bind_eq_some_iff.mp H
 obtain ⟨t671, A80, H⟩ := H
 replace H : (spec_IsFarPainting.l0 k l2 t671 (t671.length : Int) 0 a0_0 a0_1 l0_2 a1_0 a1_1) = some (r1, r2) := H
 have A8 := Aside0.mk A80
 clear A80
 have H' := Aside0.mk H
 clear H
 go_enter Try.func27, Try.ntmps27
 go_wp2_with (first | ((with_reducible refine gate_dst (N := 3) rfl ?_); refine box_event ?hg (N := 3) ?hd (cs := #[.int .i64 a0_0, .int .i64 a0_1, .slice A0_2 l0_2.length c0_2]) (t := 30) ?hr ?_; (case hd => rfl); (case hg => rfl); (case hr => first | (go_simp; done) | (go_simp; rfl)); intro gb667 hg w9 hbox hb; have n0_ := Aside0.mk (below_step zac6 hb); have n1_ := Aside0.mk (hbox); have n2_ := Aside0.mk ((zac17 : w.heap.size ≤ gb667)); have n3_ := Aside0.mk ((zac17 : w.heap.size ≤ gb667)); clear HB; have HB := n0_; have BK667 := n1_; have GW667 := n2_; have GE667 := n3_; clear n0_ n1_ n2_ n3_; clear hb hbox hg) | ((with_reducible refine gate_dst (N := 4) rfl ?_); refine box_event ?hg (N := 4) ?hd (cs := #[.int .i64 a1_0, .int .i64 a1_1]) (t := 32) ?hr ?_; (case hd => rfl); (case hg => rfl); (case hr => first | (go_simp; done) | (go_simp; rfl)); intro gb668 hg w10 hbox hb; have n0_ := Aside0.mk (blk_below (g := gb667) (o := .cells #[.int .i64 a0_0, .int .i64 a0_1, .slice A0_2 l0_2.length c0_2] 30 (0, 0)) zac3 hb); have n1_ := Aside0.mk (below_step zac7 hb); have n2_ := Aside0.mk (hbox); have n3_ := Aside0.mk ((zac18 : w.heap.size ≤ gb668)); have n4_ := Aside0.mk ((zac18 : w.heap.size ≤ gb668)); have n5_ := Aside0.mk ((zac15 : gb667 ≠ gb668)); have n6_ := Aside0.mk ((zac16 : gb668 ≠ gb667)); clear BK667; clear HB; have BK667 := n0_; have HB := n1_; have BK668 := n2_; have GW668 := n3_; have GE668 := n4_; have NB667_668 := n5_; have NB668_667 := n6_; clear n0_ n1_ n2_ n3_ n4_ n5_ n6_; clear hb hbox hg; have hnb11 := NB667_668.out; have hnc11 := NB668_667.out; have hcz12_0 : w10.cell? ⟨gb667, 0, none⟩ = some (.int .i64 a0_0) := (blk_cell BK667.out 0).trans rfl; have hcz12_1 : w10.cell? ⟨gb667, 1, none⟩ = some (.int .i64 a0_1) := (blk_cell BK667.out 1).trans rfl; have hcz12_2 : w10.cell? ⟨gb667, 2, none⟩ = some (.slice A0_2 l0_2.length c0_2) := (blk_cell BK667.out 2).trans rfl; have hfz12_0 := blk_frozen BK667.out 0; have hfz12_1 := blk_frozen BK667.out 1; have hfz12_2 := blk_frozen BK667.out 2; have hcz13_0 : w10.cell? ⟨gb668, 0, none⟩ = some (.int .i64 a1_0) := (blk_cell BK668.out 0).trans rfl; have hcz13_1 : w10.cell? ⟨gb668, 1, none⟩ = some (.int .i64 a1_1) := (blk_cell BK668.out 1).trans rfl; have hfz13_0 := blk_frozen BK668.out 0; have hfz13_1 := blk_frozen BK668.out 1) | (go_at_call 54; (with_reducible refine (spec_boTwo.calls k a0_0 a0_1 _ _ l0_2 a1_0 a1_1 true _ ?side1 ?side2 A4.out).mono ?_); (case side1 => exact zac2); (case side2 => exact HC0_2.out); rintro e w14 ⟨rfl, hb⟩; have n0_ := Aside0.mk (blk_below (g := gb667) (o := .cells #[.int .i64 a0_0, .int .i64 a0_1, .slice A0_2 l0_2.length c0_2] 30 (0, 0)) zac3 hb); have n1_ := Aside0.mk (blk_below (g := gb668) (o := .cells #[.int .i64 a1_0, .int .i64 a1_1] 32 (0, 0)) zac4 hb); have n2_ := Aside0.mk (below_step zac1 hb); clear BK667; clear BK668; clear HB; have BK667 := n0_; have BK668 := n1_; have HB := n2_; clear n0_ n1_ n2_; (try clear hb); (try clear hb2); (try clear hk); (try clear hi); (try clear hna_); (try clear hnb_); have hcz15_0 : w14.cell? ⟨gb667, 0, none⟩ = some (.int .i64 a0_0) := (blk_cell BK667.out 0).trans rfl; have hcz15_1 : w14.cell? ⟨gb667, 1, none⟩ = some (.int .i64 a0_1) := (blk_cell BK667.out 1).trans rfl; have hcz15_2 : w14.cell? ⟨gb667, 2, none⟩ = some (.slice A0_2 l0_2.length c0_2) := (blk_cell BK667.out 2).trans rfl; have hfz15_0 := blk_frozen BK667.out 0; have hfz15_1 := blk_frozen BK667.out 1; have hfz15_2 := blk_frozen BK667.out 2) | (go_at_call 55; (with_reducible refine (spec_paGood.calls k a0_0 a0_1 _ _ l0_2 _ _ l2 true _ ?side1 ?side2 ?side3 ?side4 A6.out).mono ?_); (case side1 => exact zac2); (case side2 => exact HC0_2.out); (case side3 => exact zac9); (case side4 => exact HC2.out); rintro e w16 ⟨rfl, hb⟩; have n0_ := Aside0.mk (blk_below (g := gb667) (o := .cells #[.int .i64 a0_0, .int .i64 a0_1, .slice A0_2 l0_2.length c0_2] 30 (0, 0)) zac3 hb); have n1_ := Aside0.mk (blk_below (g := gb668) (o := .cells #[.int .i64 a1_0, .int .i64 a1_1] 32 (0, 0)) zac4 hb); have n2_ := Aside0.mk (below_step zac1 hb); clear BK667; clear BK668; clear HB; have BK667 := n0_; have BK668 := n1_; have HB := n2_; clear n0_ n1_ n2_; (try clear hb); (try clear hb2); (try clear hk); (try clear hi); (try clear hna_); (try clear hnb_); have hcz17_0 : w16.cell? ⟨gb667, 0, none⟩ = some (.int .i64 a0_0) := (blk_cell BK667.out 0).trans rfl; have hcz17_1 : w16.cell? ⟨gb667, 1, none⟩ = some (.int .i64 a0_1) := (blk_cell BK667.out 1).trans rfl; have hcz17_2 : w16.cell? ⟨gb667, 2, none⟩ = some (.slice A0_2 l0_2.length c0_2) := (blk_cell BK667.out 2).trans rfl; have hfz17_0 := blk_frozen BK667.out 0; have hfz17_1 := blk_frozen BK667.out 1; have hfz17_2 := blk_frozen BK667.out 2) | (go_at_call 56; (with_reducible refine (spec_boCells.calls k a0_0 a0_1 _ _ l0_2 t671 _ ?side1 ?side2 A8.out).mono ?_); (case side1 => exact zac2); (case side2 => exact HC0_2.out); rintro e w18 ⟨v672, rfl, ho0, hb⟩; have n0_ := Aside0.mk (Kd.R_lower ho0 (below_size zac1)); have n1_ := Aside0.mk (blk_below (g := gb667) (o := .cells #[.int .i64 a0_0, .int .i64 a0_1, .slice A0_2 l0_2.length c0_2] 30 (0, 0)) zac3 hb); have n2_ := Aside0.mk (blk_below (g := gb668) (o := .cells #[.int .i64 a1_0, .int .i64 a1_1] 32 (0, 0)) zac4 hb); have n3_ := Aside0.mk (below_step zac1 hb); clear BK667; clear BK668; clear HB; have HO673 := n0_; have BK667 := n1_; have BK668 := n2_; have HB := n3_; clear n0_ n1_ n2_ n3_; (try clear hb); (try clear hb2); (try clear hk); (try clear hi); (try clear ho0); (try clear hna_); (try clear hnb_); obtain ⟨Ao19, co19, eo19⟩ := Kd.R_slice HO673.out; subst eo19))
 repeat ((first | go_quiet (first | (go_at_call 54; (with_reducible refine (spec_boTwo.calls k a0_0 a0_1 _ _ l0_2 a1_0 a1_1 true _ ?side1 ?side2 A4.out).mono ?_); (case side1 => exact zac2); (case side2 => exact HC0_2.out); rintro e w14 ⟨rfl, hb⟩; have n0_ := Aside0.mk (blk_below (g := gb667) (o := .cells #[.int .i64 a0_0, .int .i64 a0_1, .slice A0_2 l0_2.length c0_2] 30 (0, 0)) zac3 hb); have n1_ := Aside0.mk (blk_below (g := gb668) (o := .cells #[.int .i64 a1_0, .int .i64 a1_1] 32 (0, 0)) zac4 hb); have n2_ := Aside0.mk (below_step zac1 hb); clear BK667; clear BK668; clear HB; have BK667 := n0_; have BK668 := n1_; have HB := n2_; clear n0_ n1_ n2_; (try clear hb); (try clear hb2); (try clear hk); (try clear hi); (try clear hna_); (try clear hnb_); have hcz15_0 : w14.cell? ⟨gb667, 0, none⟩ = some (.int .i64 a0_0) := (blk_cell BK667.out 0).trans rfl; have hcz15_1 : w14.cell? ⟨gb667, 1, none⟩ = some (.int .i64 a0_1) := (blk_cell BK667.out 1).trans rfl; have hcz15_2 : w14.cell? ⟨gb667, 2, none⟩ = some (.slice A0_2 l0_2.length c0_2) := (blk_cell BK667.out 2).trans rfl; have hfz15_0 := blk_frozen BK667.out 0; have hfz15_1 := blk_frozen BK667.out 1; have hfz15_2 := blk_frozen BK667.out 2) | (go_at_call 55; (with_reducible refine (spec_paGood.calls k a0_0 a0_1 _ _ l0_2 _ _ l2 true _ ?side1 ?side2 ?side3 ?side4 A6.out).mono ?_); (case side1 => exact zac2); (case side2 => exact HC0_2.out); (case side3 => exact zac9); (case side4 => exact HC2.out); rintro e w16 ⟨rfl, hb⟩; have n0_ := Aside0.mk (blk_below (g := gb667) (o := .cells #[.int .i64 a0_0, .int .i64 a0_1, .slice A0_2 l0_2.length c0_2] 30 (0, 0)) zac3 hb); have n1_ := Aside0.mk (blk_below (g := gb668) (o := .cells #[.int .i64 a1_0, .int .i64 a1_1] 32 (0, 0)) zac4 hb); have n2_ := Aside0.mk (below_step zac1 hb); clear BK667; clear BK668; clear HB; have BK667 := n0_; have BK668 := n1_; have HB := n2_; clear n0_ n1_ n2_; (try clear hb); (try clear hb2); (try clear hk); (try clear hi); (try clear hna_); (try clear hnb_); have hcz17_0 : w16.cell? ⟨gb667, 0, none⟩ = some (.int .i64 a0_0) := (blk_cell BK667.out 0).trans rfl; have hcz17_1 : w16.cell? ⟨gb667, 1, none⟩ = some (.int .i64 a0_1) := (blk_cell BK667.out 1).trans rfl; have hcz17_2 : w16.cell? ⟨gb667, 2, none⟩ = some (.slice A0_2 l0_2.length c0_2) := (blk_cell BK667.out 2).trans rfl; have hfz17_0 := blk_frozen BK667.out 0; have hfz17_1 := blk_frozen BK667.out 1; have hfz17_2 := blk_frozen BK667.out 2) | (go_at_call 56; (with_reducible refine (spec_boCells.calls k a0_0 a0_1 _ _ l0_2 t671 _ ?side1 ?side2 A8.out).mono ?_); (case side1 => exact zac2); (case side2 => exact HC0_2.out); rintro e w18 ⟨v672, rfl, ho0, hb⟩; have n0_ := Aside0.mk (Kd.R_lower ho0 (below_size zac1)); have n1_ := Aside0.mk (blk_below (g := gb667) (o := .cells #[.int .i64 a0_0, .int .i64 a0_1, .slice A0_2 l0_2.length c0_2] 30 (0, 0)) zac3 hb); have n2_ := Aside0.mk (blk_below (g := gb668) (o := .cells #[.int .i64 a1_0, .int .i64 a1_1] 32 (0, 0)) zac4 hb); have n3_ := Aside0.mk (below_step zac1 hb); clear BK667; clear BK668; clear HB; have HO673 := n0_; have BK667 := n1_; have BK668 := n2_; have HB := n3_; clear n0_ n1_ n2_ n3_; (try clear hb); (try clear hb2); (try clear hk); (try clear hi); (try clear ho0); (try clear hna_); (try clear hnb_); obtain ⟨Ao19, co19, eo19⟩ := Kd.R_slice HO673.out; subst eo19)) | (refine wp_region_quiet_lit (by kernel_rfl) (by kernel_rfl) ?_; (repeat (any_goals (first | go_big_quiet_step (first | (go_at_call 54; (with_reducible refine (spec_boTwo.calls k a0_0 a0_1 _ _ l0_2 a1_0 a1_1 true _ ?side1 ?side2 A4.out).mono ?_); (case side1 => exact zac2); (case side2 => exact HC0_2.out); rintro e w14 ⟨rfl, hb⟩; have n0_ := Aside0.mk (blk_below (g := gb667) (o := .cells #[.int .i64 a0_0, .int .i64 a0_1, .slice A0_2 l0_2.length c0_2] 30 (0, 0)) zac3 hb); have n1_ := Aside0.mk (blk_below (g := gb668) (o := .cells #[.int .i64 a1_0, .int .i64 a1_1] 32 (0, 0)) zac4 hb); have n2_ := Aside0.mk (below_step zac1 hb); clear BK667; clear BK668; clear HB; have BK667 := n0_; have BK668 := n1_; have HB := n2_; clear n0_ n1_ n2_; (try clear hb); (try clear hb2); (try clear hk); (try clear hi); (try clear hna_); (try clear hnb_); have hcz15_0 : w14.cell? ⟨gb667, 0, none⟩ = some (.int .i64 a0_0) := (blk_cell BK667.out 0).trans rfl; have hcz15_1 : w14.cell? ⟨gb667, 1, none⟩ = some (.int .i64 a0_1) := (blk_cell BK667.out 1).trans rfl; have hcz15_2 : w14.cell? ⟨gb667, 2, none⟩ = some (.slice A0_2 l0_2.length c0_2) := (blk_cell BK667.out 2).trans rfl; have hfz15_0 := blk_frozen BK667.out 0; have hfz15_1 := blk_frozen BK667.out 1; have hfz15_2 := blk_frozen BK667.out 2) | (go_at_call 55; (with_reducible refine (spec_paGood.calls k a0_0 a0_1 _ _ l0_2 _ _ l2 true _ ?side1 ?side2 ?side3 ?side4 A6.out).mono ?_); (case side1 => exact zac2); (case side2 => exact HC0_2.out); (case side3 => exact zac9); (case side4 => exact HC2.out); rintro e w16 ⟨rfl, hb⟩; have n0_ := Aside0.mk (blk_below (g := gb667) (o := .cells #[.int .i64 a0_0, .int .i64 a0_1, .slice A0_2 l0_2.length c0_2] 30 (0, 0)) zac3 hb); have n1_ := Aside0.mk (blk_below (g := gb668) (o := .cells #[.int .i64 a1_0, .int .i64 a1_1] 32 (0, 0)) zac4 hb); have n2_ := Aside0.mk (below_step zac1 hb); clear BK667; clear BK668; clear HB; have BK667 := n0_; have BK668 := n1_; have HB := n2_; clear n0_ n1_ n2_; (try clear hb); (try clear hb2); (try clear hk); (try clear hi); (try clear hna_); (try clear hnb_); have hcz17_0 : w16.cell? ⟨gb667, 0, none⟩ = some (.int .i64 a0_0) := (blk_cell BK667.out 0).trans rfl; have hcz17_1 : w16.cell? ⟨gb667, 1, none⟩ = some (.int .i64 a0_1) := (blk_cell BK667.out 1).trans rfl; have hcz17_2 : w16.cell? ⟨gb667, 2, none⟩ = some (.slice A0_2 l0_2.length c0_2) := (blk_cell BK667.out 2).trans rfl; have hfz17_0 := blk_frozen BK667.out 0; have hfz17_1 := blk_frozen BK667.out 1; have hfz17_2 := blk_frozen BK667.out 2) | (go_at_call 56; (with_reducible refine (spec_boCells.calls k a0_0 a0_1 _ _ l0_2 t671 _ ?side1 ?side2 A8.out).mono ?_); (case side1 => exact zac2); (case side2 => exact HC0_2.out); rintro e w18 ⟨v672, rfl, ho0, hb⟩; have n0_ := Aside0.mk (Kd.R_lower ho0 (below_size zac1)); have n1_ := Aside0.mk (blk_below (g := gb667) (o := .cells #[.int .i64 a0_0, .int .i64 a0_1, .slice A0_2 l0_2.length c0_2] 30 (0, 0)) zac3 hb); have n2_ := Aside0.mk (blk_below (g := gb668) (o := .cells #[.int .i64 a1_0, .int .i64 a1_1] 32 (0, 0)) zac4 hb); have n3_ := Aside0.mk (below_step zac1 hb); clear BK667; clear BK668; clear HB; have HO673 := n0_; have BK667 := n1_; have BK668 := n2_; have HB := n3_; clear n0_ n1_ n2_ n3_; (try clear hb); (try clear hb2); (try clear hk); (try clear hi); (try clear ho0); (try clear hna_); (try clear hnb_); obtain ⟨Ao19, co19, eo19⟩ := Kd.R_slice HO673.out; subst eo19)) | quiet_step (first | (go_at_call 54; (with_reducible refine (spec_boTwo.calls k a0_0 a0_1 _ _ l0_2 a1_0 a1_1 true _ ?side1 ?side2 A4.out).mono ?_); (case side1 => exact zac2); (case side2 => exact HC0_2.out); rintro e w14 ⟨rfl, hb⟩; have n0_ := Aside0.mk (blk_below (g := gb667) (o := .cells #[.int .i64 a0_0, .int .i64 a0_1, .slice A0_2 l0_2.length c0_2] 30 (0, 0)) zac3 hb); have n1_ := Aside0.mk (blk_below (g := gb668) (o := .cells #[.int .i64 a1_0, .int .i64 a1_1] 32 (0, 0)) zac4 hb); have n2_ := Aside0.mk (below_step zac1 hb); clear BK667; clear BK668; clear HB; have BK667 := n0_; have BK668 := n1_; have HB := n2_; clear n0_ n1_ n2_; (try clear hb); (try clear hb2); (try clear hk); (try clear hi); (try clear hna_); (try clear hnb_); have hcz15_0 : w14.cell? ⟨gb667, 0, none⟩ = some (.int .i64 a0_0) := (blk_cell BK667.out 0).trans rfl; have hcz15_1 : w14.cell? ⟨gb667, 1, none⟩ = some (.int .i64 a0_1) := (blk_cell BK667.out 1).trans rfl; have hcz15_2 : w14.cell? ⟨gb667, 2, none⟩ = some (.slice A0_2 l0_2.length c0_2) := (blk_cell BK667.out 2).trans rfl; have hfz15_0 := blk_frozen BK667.out 0; have hfz15_1 := blk_frozen BK667.out 1; have hfz15_2 := blk_frozen BK667.out 2) | (go_at_call 55; (with_reducible refine (spec_paGood.calls k a0_0 a0_1 _ _ l0_2 _ _ l2 true _ ?side1 ?side2 ?side3 ?side4 A6.out).mono ?_); (case side1 => exact zac2); (case side2 => exact HC0_2.out); (case side3 => exact zac9); (case side4 => exact HC2.out); rintro e w16 ⟨rfl, hb⟩; have n0_ := Aside0.mk (blk_below (g := gb667) (o := .cells #[.int .i64 a0_0, .int .i64 a0_1, .slice A0_2 l0_2.length c0_2] 30 (0, 0)) zac3 hb); have n1_ := Aside0.mk (blk_below (g := gb668) (o := .cells #[.int .i64 a1_0, .int .i64 a1_1] 32 (0, 0)) zac4 hb); have n2_ := Aside0.mk (below_step zac1 hb); clear BK667; clear BK668; clear HB; have BK667 := n0_; have BK668 := n1_; have HB := n2_; clear n0_ n1_ n2_; (try clear hb); (try clear hb2); (try clear hk); (try clear hi); (try clear hna_); (try clear hnb_); have hcz17_0 : w16.cell? ⟨gb667, 0, none⟩ = some (.int .i64 a0_0) := (blk_cell BK667.out 0).trans rfl; have hcz17_1 : w16.cell? ⟨gb667, 1, none⟩ = some (.int .i64 a0_1) := (blk_cell BK667.out 1).trans rfl; have hcz17_2 : w16.cell? ⟨gb667, 2, none⟩ = some (.slice A0_2 l0_2.length c0_2) := (blk_cell BK667.out 2).trans rfl; have hfz17_0 := blk_frozen BK667.out 0; have hfz17_1 := blk_frozen BK667.out 1; have hfz17_2 := blk_frozen BK667.out 2) | (go_at_call 56; (with_reducible refine (spec_boCells.calls k a0_0 a0_1 _ _ l0_2 t671 _ ?side1 ?side2 A8.out).mono ?_); (case side1 => exact zac2); (case side2 => exact HC0_2.out); rintro e w18 ⟨v672, rfl, ho0, hb⟩; have n0_ := Aside0.mk (Kd.R_lower ho0 (below_size zac1)); have n1_ := Aside0.mk (blk_below (g := gb667) (o := .cells #[.int .i64 a0_0, .int .i64 a0_1, .slice A0_2 l0_2.length c0_2] 30 (0, 0)) zac3 hb); have n2_ := Aside0.mk (blk_below (g := gb668) (o := .cells #[.int .i64 a1_0, .int .i64 a1_1] 32 (0, 0)) zac4 hb); have n3_ := Aside0.mk (below_step zac1 hb); clear BK667; clear BK668; clear HB; have HO673 := n0_; have BK667 := n1_; have BK668 := n2_; have HB := n3_; clear n0_ n1_ n2_ n3_; (try clear hb); (try clear hb2); (try clear hk); (try clear hi); (try clear ho0); (try clear hna_); (try clear hnb_); obtain ⟨Ao19, co19, eo19⟩ := Kd.R_slice HO673.out; subst eo19))))); all_goals (refine wpQuiet_nil ?_; intro _ hw2_; obtain ⟨nq, hw3_⟩ := hw2_; subst hw3_))); try go_wp2_with (first | ((with_reducible refine gate_dst (N := 3) rfl ?_); refine box_event ?hg (N := 3) ?hd (cs := #[.int .i64 a0_0, .int .i64 a0_1, .slice A0_2 l0_2.length c0_2]) (t := 30) ?hr ?_; (case hd => rfl); (case hg => rfl); (case hr => first | (go_simp; done) | (go_simp; rfl)); intro gb667 hg w9 hbox hb; have n0_ := Aside0.mk (below_step zac6 hb); have n1_ := Aside0.mk (hbox); have n2_ := Aside0.mk ((zac17 : w.heap.size ≤ gb667)); have n3_ := Aside0.mk ((zac17 : w.heap.size ≤ gb667)); clear HB; have HB := n0_; have BK667 := n1_; have GW667 := n2_; have GE667 := n3_; clear n0_ n1_ n2_ n3_; clear hb hbox hg) | ((with_reducible refine gate_dst (N := 4) rfl ?_); refine box_event ?hg (N := 4) ?hd (cs := #[.int .i64 a1_0, .int .i64 a1_1]) (t := 32) ?hr ?_; (case hd => rfl); (case hg => rfl); (case hr => first | (go_simp; done) | (go_simp; rfl)); intro gb668 hg w10 hbox hb; have n0_ := Aside0.mk (blk_below (g := gb667) (o := .cells #[.int .i64 a0_0, .int .i64 a0_1, .slice A0_2 l0_2.length c0_2] 30 (0, 0)) zac3 hb); have n1_ := Aside0.mk (below_step zac7 hb); have n2_ := Aside0.mk (hbox); have n3_ := Aside0.mk ((zac18 : w.heap.size ≤ gb668)); have n4_ := Aside0.mk ((zac18 : w.heap.size ≤ gb668)); have n5_ := Aside0.mk ((zac15 : gb667 ≠ gb668)); have n6_ := Aside0.mk ((zac16 : gb668 ≠ gb667)); clear BK667; clear HB; have BK667 := n0_; have HB := n1_; have BK668 := n2_; have GW668 := n3_; have GE668 := n4_; have NB667_668 := n5_; have NB668_667 := n6_; clear n0_ n1_ n2_ n3_ n4_ n5_ n6_; clear hb hbox hg; have hnb11 := NB667_668.out; have hnc11 := NB668_667.out; have hcz12_0 : w10.cell? ⟨gb667, 0, none⟩ = some (.int .i64 a0_0) := (blk_cell BK667.out 0).trans rfl; have hcz12_1 : w10.cell? ⟨gb667, 1, none⟩ = some (.int .i64 a0_1) := (blk_cell BK667.out 1).trans rfl; have hcz12_2 : w10.cell? ⟨gb667, 2, none⟩ = some (.slice A0_2 l0_2.length c0_2) := (blk_cell BK667.out 2).trans rfl; have hfz12_0 := blk_frozen BK667.out 0; have hfz12_1 := blk_frozen BK667.out 1; have hfz12_2 := blk_frozen BK667.out 2; have hcz13_0 : w10.cell? ⟨gb668, 0, none⟩ = some (.int .i64 a1_0) := (blk_cell BK668.out 0).trans rfl; have hcz13_1 : w10.cell? ⟨gb668, 1, none⟩ = some (.int .i64 a1_1) := (blk_cell BK668.out 1).trans rfl; have hfz13_0 := blk_frozen BK668.out 0; have hfz13_1 := blk_frozen BK668.out 1) | (go_at_call 54; (with_reducible refine (spec_boTwo.calls k a0_0 a0_1 _ _ l0_2 a1_0 a1_1 true _ ?side1 ?side2 A4.out).mono ?_); (case side1 => exact zac2); (case side2 => exact HC0_2.out); rintro e w14 ⟨rfl, hb⟩; have n0_ := Aside0.mk (blk_below (g := gb667) (o := .cells #[.int .i64 a0_0, .int .i64 a0_1, .slice A0_2 l0_2.length c0_2] 30 (0, 0)) zac3 hb); have n1_ := Aside0.mk (blk_below (g := gb668) (o := .cells #[.int .i64 a1_0, .int .i64 a1_1] 32 (0, 0)) zac4 hb); have n2_ := Aside0.mk (below_step zac1 hb); clear BK667; clear BK668; clear HB; have BK667 := n0_; have BK668 := n1_; have HB := n2_; clear n0_ n1_ n2_; (try clear hb); (try clear hb2); (try clear hk); (try clear hi); (try clear hna_); (try clear hnb_); have hcz15_0 : w14.cell? ⟨gb667, 0, none⟩ = some (.int .i64 a0_0) := (blk_cell BK667.out 0).trans rfl; have hcz15_1 : w14.cell? ⟨gb667, 1, none⟩ = some (.int .i64 a0_1) := (blk_cell BK667.out 1).trans rfl; have hcz15_2 : w14.cell? ⟨gb667, 2, none⟩ = some (.slice A0_2 l0_2.length c0_2) := (blk_cell BK667.out 2).trans rfl; have hfz15_0 := blk_frozen BK667.out 0; have hfz15_1 := blk_frozen BK667.out 1; have hfz15_2 := blk_frozen BK667.out 2) | (go_at_call 55; (with_reducible refine (spec_paGood.calls k a0_0 a0_1 _ _ l0_2 _ _ l2 true _ ?side1 ?side2 ?side3 ?side4 A6.out).mono ?_); (case side1 => exact zac2); (case side2 => exact HC0_2.out); (case side3 => exact zac9); (case side4 => exact HC2.out); rintro e w16 ⟨rfl, hb⟩; have n0_ := Aside0.mk (blk_below (g := gb667) (o := .cells #[.int .i64 a0_0, .int .i64 a0_1, .slice A0_2 l0_2.length c0_2] 30 (0, 0)) zac3 hb); have n1_ := Aside0.mk (blk_below (g := gb668) (o := .cells #[.int .i64 a1_0, .int .i64 a1_1] 32 (0, 0)) zac4 hb); have n2_ := Aside0.mk (below_step zac1 hb); clear BK667; clear BK668; clear HB; have BK667 := n0_; have BK668 := n1_; have HB := n2_; clear n0_ n1_ n2_; (try clear hb); (try clear hb2); (try clear hk); (try clear hi); (try clear hna_); (try clear hnb_); have hcz17_0 : w16.cell? ⟨gb667, 0, none⟩ = some (.int .i64 a0_0) := (blk_cell BK667.out 0).trans rfl; have hcz17_1 : w16.cell? ⟨gb667, 1, none⟩ = some (.int .i64 a0_1) := (blk_cell BK667.out 1).trans rfl; have hcz17_2 : w16.cell? ⟨gb667, 2, none⟩ = some (.slice A0_2 l0_2.length c0_2) := (blk_cell BK667.out 2).trans rfl; have hfz17_0 := blk_frozen BK667.out 0; have hfz17_1 := blk_frozen BK667.out 1; have hfz17_2 := blk_frozen BK667.out 2) | (go_at_call 56; (with_reducible refine (spec_boCells.calls k a0_0 a0_1 _ _ l0_2 t671 _ ?side1 ?side2 A8.out).mono ?_); (case side1 => exact zac2); (case side2 => exact HC0_2.out); rintro e w18 ⟨v672, rfl, ho0, hb⟩; have n0_ := Aside0.mk (Kd.R_lower ho0 (below_size zac1)); have n1_ := Aside0.mk (blk_below (g := gb667) (o := .cells #[.int .i64 a0_0, .int .i64 a0_1, .slice A0_2 l0_2.length c0_2] 30 (0, 0)) zac3 hb); have n2_ := Aside0.mk (blk_below (g := gb668) (o := .cells #[.int .i64 a1_0, .int .i64 a1_1] 32 (0, 0)) zac4 hb); have n3_ := Aside0.mk (below_step zac1 hb); clear BK667; clear BK668; clear HB; have HO673 := n0_; have BK667 := n1_; have BK668 := n2_; have HB := n3_; clear n0_ n1_ n2_ n3_; (try clear hb); (try clear hb2); (try clear hk); (try clear hi); (try clear ho0); (try clear hna_); (try clear hnb_); obtain ⟨Ao19, co19, eo19⟩ := Kd.R_slice HO673.out; subst eo19)))
 go_loopg [23] k (fun kq v23 w' => ∃ (x23_1 : Int), v23 = .int .i64 x23_1 ∧ Aside0 (spec_IsFarPainting.l0 kq l2 t671 (t671.length : Int) x23_1 a0_0 a0_1 l0_2 a1_0 a1_1 = some (r1, r2)) ∧ Aside0 (kq ≤ k) ∧ Aside0 (Kd.R (Kd.int .i64) 3 w' w.heap.size (fun _ => True) (.slice Ao19 t671.length co19) t671) ∧ Aside0 (w'.heap[gb667]? = some (.cells #[.int .i64 a0_0, .int .i64 a0_1, (.slice A0_2 l0_2.length c0_2)] 30 (0, 0))) ∧ Aside0 (w'.heap[gb668]? = some (.cells #[.int .i64 a1_0, .int .i64 a1_1] 32 (0, 0))) ∧ Aside0 (Below w.heap.size w w'))
 case atStart => exact ⟨(0), zac14, H', ⟨Nat.le_refl _⟩, ⟨by first | exact HO673.out | ((with_reducible repeat (first | apply Kd.R_alloc | apply Kd.R_drewN | apply Kd.R_drew)); exact HO673.out)⟩, ⟨zac3⟩, ⟨zac4⟩, ⟨zac1⟩⟩
 case round =>
  clear H'
  try clear c1; try clear c2; try clear p2; try clear c5; try clear c7; try clear c11; try clear hcz12_0; try clear hcz12_1; try clear hcz12_2; try clear hcz13_0; try clear hcz13_1; try clear hcz15_0; try clear hcz15_1; try clear hcz15_2; try clear hcz17_0; try clear hcz17_1; try clear hcz17_2; try clear hfz12_0; try clear hfz12_1; try clear hfz12_2; try clear hfz13_0; try clear hfz13_1; try clear hfz15_0; try clear hfz15_1; try clear hfz15_2; try clear hfz17_0; try clear hfz17_1; try clear hfz17_2
  obtain ⟨x23_1, rfl, HA, HK1, HO_21, BK667, BK668, HB⟩ := hrel
  cases gk with
  | zero => exact absurd HA.out (by simp [spec_IsFarPainting.l0])
  | succ k1 =>
   have H := HA.out
   clear HA
   simp only [spec_IsFarPainting.l0] at H
   by_cases c20 : x23_1 < (t671.length : Int)
   rotate_left
   ·rw [if_neg c20] at H
    have c20b0 : decide (x23_1 < (t671.length : Int)) = false := decide_eq_false c20
    clear c20
    simp only [Option.some.injEq, Prod.mk.injEq] at H
    obtain ⟨rfl, rfl⟩ := H
    go_wp2
    repeat ((first | go_quiet (fail) | (refine wp_region_quiet_lit (by kernel_rfl) (by kernel_rfl) ?_; (repeat (any_goals (first | go_big_quiet_step (fail) | quiet_step (fail)))); all_goals (refine wpQuiet_nil ?_; intro _ hw2_; obtain ⟨nq, hw3_⟩ := hw2_; subst hw3_))); try go_wp2)
    go_ret2
    exact ⟨zac13, zac1⟩
   rw [if_pos c20] at H
   have c20b0 : decide (x23_1 < (t671.length : Int)) = true := decide_eq_true c20
   clear c20
   by_cases c21 : 0 ≤ x23_1
   rotate_left
   ·rw [if_neg c21] at H
    exact absurd H (by simp)
   rw [if_pos c21] at H
   have c21b0 : decide (0 ≤ x23_1) = true := decide_eq_true c21
   clear c21
   by_cases c22 : x23_1 < (t671.length : Int)
   rotate_left
   ·rw [if_neg c22] at H
    exact absurd H (by simp)
   rw [if_pos c22] at H
   have c22b0 : decide (x23_1 < (t671.length : Int)) = true := decide_eq_true c22
   clear c22
   replace H := Option.bind_eq_some_iff.mp H
   obtain ⟨t675, A230, H⟩ := H
   replace H : (spec_IsFarPainting.l1 k1 l2 (rd t671 x23_1) t671 (t671.length : Int) x23_1 t675 (t675.length : Int) 0 a0_0 a0_1 l0_2 a1_0 a1_1) = some (r1, r2) := H
   have A23 := Aside0.mk A230
   clear A230
   have H' := Aside0.mk H
   clear H
   have p674 : 0 ≤ (x23_1 : Int) := of_decide_eq_true zac10
   have q674 : x23_1 < (t671.length : Int) := of_decide_eq_true zac10
   obtain ⟨ad674, e674, hx674_0⟩ := Kd.at_int (Kd.R_reads' HO_21.out).2.2 x23_1 p674 q674
   cases e674
   replace p674 := eq_true p674
   replace q674 := eq_true q674
   have hnb24 := NB667_668.out
   have hnc24 := NB668_667.out
   have hcz25_0 : wr.cell? ⟨gb667, 0, none⟩ = some (.int .i64 a0_0) := (blk_cell BK667.out 0).trans rfl
   have hcz25_1 : wr.cell? ⟨gb667, 1, none⟩ = some (.int .i64 a0_1) := (blk_cell BK667.out 1).trans rfl
   have hcz25_2 : wr.cell? ⟨gb667, 2, none⟩ = some (.slice A0_2 l0_2.length c0_2) := (blk_cell BK667.out 2).trans rfl
   have hfz25_0 := blk_frozen BK667.out 0
   have hfz25_1 := blk_frozen BK667.out 1
   have hfz25_2 := blk_frozen BK667.out 2
   have hcz26_0 : wr.cell? ⟨gb668, 0, none⟩ = some (.int .i64 a1_0) := (blk_cell BK668.out 0).trans rfl
   have hcz26_1 : wr.cell? ⟨gb668, 1, none⟩ = some (.int .i64 a1_1) := (blk_cell BK668.out 1).trans rfl
   have hfz26_0 := blk_frozen BK668.out 0
   have hfz26_1 := blk_frozen BK668.out 1
   go_wp2_with (first | (go_at_call 57; (with_reducible refine (spec_paNear.calls k1 a0_0 a0_1 _ _ l0_2 a1_0 a1_1 (rd t671 x23_1) t675 _ ?side1 ?side2 A23.out).mono ?_); (case side1 => exact zac2); (case side2 => exact HC0_2.out); rintro e w27 ⟨v676, rfl, ho0, hb⟩; have n0_ := Aside0.mk (Kd.R_elder' zac11 (Kd.R_base ho0) hb); have n1_ := Aside0.mk (Kd.R_lower (Kd.R_new' ho0 (Kd.R_lt zac11)) (below_size zac1)); have n2_ := Aside0.mk (blk_below (g := gb667) (o := .cells #[.int .i64 a0_0, .int .i64 a0_1, .slice A0_2 l0_2.length c0_2] 30 (0, 0)) zac3 hb); have n3_ := Aside0.mk (blk_below (g := gb668) (o := .cells #[.int .i64 a1_0, .int .i64 a1_1] 32 (0, 0)) zac4 hb); have n4_ := Aside0.mk (below_step zac1 hb); clear HO_21; clear BK667; clear BK668; clear HB; have HO_21 := n0_; have HO677 := n1_; have BK667 := n2_; have BK668 := n3_; have HB := n4_; clear n0_ n1_ n2_ n3_ n4_; (try clear hb); (try clear hb2); (try clear hk); (try clear hi); (try clear ho0); (try clear hna_); (try clear hnb_); obtain ⟨Ao28, co28, eo28⟩ := Kd.R_slice HO677.out; subst eo28))
   repeat ((first | go_quiet (first | (go_at_call 57; (with_reducible refine (spec_paNear.calls k1 a0_0 a0_1 _ _ l0_2 a1_0 a1_1 (rd t671 x23_1) t675 _ ?side1 ?side2 A23.out).mono ?_); (case side1 => exact zac2); (case side2 => exact HC0_2.out); rintro e w27 ⟨v676, rfl, ho0, hb⟩; have n0_ := Aside0.mk (Kd.R_elder' zac11 (Kd.R_base ho0) hb); have n1_ := Aside0.mk (Kd.R_lower (Kd.R_new' ho0 (Kd.R_lt zac11)) (below_size zac1)); have n2_ := Aside0.mk (blk_below (g := gb667) (o := .cells #[.int .i64 a0_0, .int .i64 a0_1, .slice A0_2 l0_2.length c0_2] 30 (0, 0)) zac3 hb); have n3_ := Aside0.mk (blk_below (g := gb668) (o := .cells #[.int .i64 a1_0, .int .i64 a1_1] 32 (0, 0)) zac4 hb); have n4_ := Aside0.mk (below_step zac1 hb); clear HO_21; clear BK667; clear BK668; clear HB; have HO_21 := n0_; have HO677 := n1_; have BK667 := n2_; have BK668 := n3_; have HB := n4_; clear n0_ n1_ n2_ n3_ n4_; (try clear hb); (try clear hb2); (try clear hk); (try clear hi); (try clear ho0); (try clear hna_); (try clear hnb_); obtain ⟨Ao28, co28, eo28⟩ := Kd.R_slice HO677.out; subst eo28)) | (refine wp_region_quiet_lit (by kernel_rfl) (by kernel_rfl) ?_; (repeat (any_goals (first | go_big_quiet_step (first | (go_at_call 57; (with_reducible refine (spec_paNear.calls k1 a0_0 a0_1 _ _ l0_2 a1_0 a1_1 (rd t671 x23_1) t675 _ ?side1 ?side2 A23.out).mono ?_); (case side1 => exact zac2); (case side2 => exact HC0_2.out); rintro e w27 ⟨v676, rfl, ho0, hb⟩; have n0_ := Aside0.mk (Kd.R_elder' zac11 (Kd.R_base ho0) hb); have n1_ := Aside0.mk (Kd.R_lower (Kd.R_new' ho0 (Kd.R_lt zac11)) (below_size zac1)); have n2_ := Aside0.mk (blk_below (g := gb667) (o := .cells #[.int .i64 a0_0, .int .i64 a0_1, .slice A0_2 l0_2.length c0_2] 30 (0, 0)) zac3 hb); have n3_ := Aside0.mk (blk_below (g := gb668) (o := .cells #[.int .i64 a1_0, .int .i64 a1_1] 32 (0, 0)) zac4 hb); have n4_ := Aside0.mk (below_step zac1 hb); clear HO_21; clear BK667; clear BK668; clear HB; have HO_21 := n0_; have HO677 := n1_; have BK667 := n2_; have BK668 := n3_; have HB := n4_; clear n0_ n1_ n2_ n3_ n4_; (try clear hb); (try clear hb2); (try clear hk); (try clear hi); (try clear ho0); (try clear hna_); (try clear hnb_); obtain ⟨Ao28, co28, eo28⟩ := Kd.R_slice HO677.out; subst eo28)) | quiet_step (first | (go_at_call 57; (with_reducible refine (spec_paNear.calls k1 a0_0 a0_1 _ _ l0_2 a1_0 a1_1 (rd t671 x23_1) t675 _ ?side1 ?side2 A23.out).mono ?_); (case side1 => exact zac2); (case side2 => exact HC0_2.out); rintro e w27 ⟨v676, rfl, ho0, hb⟩; have n0_ := Aside0.mk (Kd.R_elder' zac11 (Kd.R_base ho0) hb); have n1_ := Aside0.mk (Kd.R_lower (Kd.R_new' ho0 (Kd.R_lt zac11)) (below_size zac1)); have n2_ := Aside0.mk (blk_below (g := gb667) (o := .cells #[.int .i64 a0_0, .int .i64 a0_1, .slice A0_2 l0_2.length c0_2] 30 (0, 0)) zac3 hb); have n3_ := Aside0.mk (blk_below (g := gb668) (o := .cells #[.int .i64 a1_0, .int .i64 a1_1] 32 (0, 0)) zac4 hb); have n4_ := Aside0.mk (below_step zac1 hb); clear HO_21; clear BK667; clear BK668; clear HB; have HO_21 := n0_; have HO677 := n1_; have BK667 := n2_; have BK668 := n3_; have HB := n4_; clear n0_ n1_ n2_ n3_ n4_; (try clear hb); (try clear hb2); (try clear hk); (try clear hi); (try clear ho0); (try clear hna_); (try clear hnb_); obtain ⟨Ao28, co28, eo28⟩ := Kd.R_slice HO677.out; subst eo28))))); all_goals (refine wpQuiet_nil ?_; intro _ hw2_; obtain ⟨nq, hw3_⟩ := hw2_; subst hw3_))); try go_wp2_with (first | (go_at_call 57; (with_reducible refine (spec_paNear.calls k1 a0_0 a0_1 _ _ l0_2 a1_0 a1_1 (rd t671 x23_1) t675 _ ?side1 ?side2 A23.out).mono ?_); (case side1 => exact zac2); (case side2 => exact HC0_2.out); rintro e w27 ⟨v676, rfl, ho0, hb⟩; have n0_ := Aside0.mk (Kd.R_elder' zac11 (Kd.R_base ho0) hb); have n1_ := Aside0.mk (Kd.R_lower (Kd.R_new' ho0 (Kd.R_lt zac11)) (below_size zac1)); have n2_ := Aside0.mk (blk_below (g := gb667) (o := .cells #[.int .i64 a0_0, .int .i64 a0_1, .slice A0_2 l0_2.length c0_2] 30 (0, 0)) zac3 hb); have n3_ := Aside0.mk (blk_below (g := gb668) (o := .cells #[.int .i64 a1_0, .int .i64 a1_1] 32 (0, 0)) zac4 hb); have n4_ := Aside0.mk (below_step zac1 hb); clear HO_21; clear BK667; clear BK668; clear HB; have HO_21 := n0_; have HO677 := n1_; have BK667 := n2_; have BK668 := n3_; have HB := n4_; clear n0_ n1_ n2_ n3_ n4_; (try clear hb); (try clear hb2); (try clear hk); (try clear hi); (try clear ho0); (try clear hna_); (try clear hnb_); obtain ⟨Ao28, co28, eo28⟩ := Kd.R_slice HO677.out; subst eo28)))
   go_loopg [32] k1 (fun kq v32 w' => ∃ (x32_2 : Int), v32 = .int .i64 x32_2 ∧ Aside0 (spec_IsFarPainting.l1 kq l2 (rd t671 x23_1) t671 (t671.length : Int) x23_1 t675 (t675.length : Int) x32_2 a0_0 a0_1 l0_2 a1_0 a1_1 = some (r1, r2)) ∧ Aside0 (kq ≤ k1) ∧ Aside0 (Kd.R (Kd.int .i64) 3 w' w.heap.size (fun k_ => some k_ ≠ ((.slice Ao28 t675.length co28) : Value).ownBlock) (.slice (some ad674) t671.length co19) t671) ∧ Aside0 (Kd.R (Kd.int .i64) 3 w' w.heap.size (fun k_ => some k_ ≠ ((.slice (some ad674) t671.length co19) : Value).ownBlock) (.slice Ao28 t675.length co28) t675) ∧ Aside0 (w'.heap[gb667]? = some (.cells #[.int .i64 a0_0, .int .i64 a0_1, (.slice A0_2 l0_2.length c0_2)] 30 (0, 0))) ∧ Aside0 (w'.heap[gb668]? = some (.cells #[.int .i64 a1_0, .int .i64 a1_1] 32 (0, 0))) ∧ Aside0 (Below w.heap.size w w'))
   case atStart => exact ⟨(0), zac14, H', ⟨Nat.le_refl _⟩, ⟨by (with_reducible repeat (first | apply Kd.R_alloc | apply Kd.R_drewN | apply Kd.R_drew)); exact Kd.R_mono HO_21.out (fun _ hk => hk.2)⟩, ⟨by (with_reducible repeat (first | apply Kd.R_alloc | apply Kd.R_drewN | apply Kd.R_drew)); exact Kd.R_mono HO677.out (fun _ hk => hk.2)⟩, ⟨zac3⟩, ⟨zac4⟩, ⟨zac1⟩⟩
   case round =>
    clear H'
    try clear c1; try clear c2; try clear p2; try clear c5; try clear p6; try clear q6; try clear hx6; try clear c7; try clear c11; try clear c20; try clear c20b0; try clear c21; try clear c21b0; try clear c22; try clear c22b0; try clear c24; try clear c27; try clear hcz12_0; try clear hcz12_1; try clear hcz12_2; try clear hcz13_0; try clear hcz13_1; try clear hcz15_0; try clear hcz15_1; try clear hcz15_2; try clear hcz17_0; try clear hcz17_1; try clear hcz17_2; try clear hcz25_0; try clear hcz25_1; try clear hcz25_2; try clear hcz26_0; try clear hcz26_1; try clear hfz12_0; try clear hfz12_1; try clear hfz12_2
    try clear hfz13_0; try clear hfz13_1; try clear hfz15_0; try clear hfz15_1; try clear hfz15_2; try clear hfz17_0; try clear hfz17_1; try clear hfz17_2; try clear hfz25_0; try clear hfz25_1; try clear hfz25_2; try clear hfz26_0; try clear hfz26_1; try clear hx674_0; try clear p2; try clear p674; try clear q674
    obtain ⟨x32_2, rfl, HA, HK2, HO_21, HO_30, BK667, BK668, HB⟩ := hrel
    cases gk with
    | zero => exact absurd HA.out (by simp [spec_IsFarPainting.l1])
    | succ k2 =>
     have H := HA.out
     clear HA
     simp only [spec_IsFarPainting.l1] at H
     by_cases c29 : x32_2 < (t675.length : Int)
     rotate_left
     ·rw [if_neg c29] at H
      have c29b0 : decide (x32_2 < (t675.length : Int)) = false := decide_eq_false c29
      clear c29
      have H' := Aside0.mk H
      clear H
      go_wp2
      repeat ((first | go_quiet (fail) | (refine wp_region_quiet_lit (by kernel_rfl) (by kernel_rfl) ?_; (repeat (any_goals (first | go_big_quiet_step (fail) | quiet_step (fail)))); all_goals (refine wpQuiet_nil ?_; intro _ hw2_; obtain ⟨nq, hw3_⟩ := hw2_; subst hw3_))); try go_wp2)
      go_roundg k2
      case measure => have := HK1.out; have := HK2.out; omega
      case rel => exact ⟨(wrap64 (x23_1 + 1)), zac14, H', ⟨by have := HK1.out; have := HK2.out; omega⟩, ⟨by (with_reducible repeat (first | apply Kd.R_alloc | apply Kd.R_drewN | apply Kd.R_drew)); exact Kd.R_mono HO_21.out (fun _ hk => trivial)⟩, ⟨zac3⟩, ⟨zac4⟩, ⟨zac1⟩⟩
     rw [if_pos c29] at H
     have c29b0 : decide (x32_2 < (t675.length : Int)) = true := decide_eq_true c29
     clear c29
     by_cases c30 : 0 ≤ x32_2
     rotate_left
     ·rw [if_neg c30] at H
      exact absurd H (by simp)
     rw [if_pos c30] at H
     have c30b0 : decide (0 ≤ x32_2) = true := decide_eq_true c30
     clear c30
     by_cases c31 : x32_2 < (t675.length : Int)
     rotate_left
     ·rw [if_neg c31] at H
      exact absurd H (by simp)
     rw [if_pos c31] at H
     have c31b0 : decide (x32_2 < (t675.length : Int)) = true := decide_eq_true c31
     clear c31
     by_cases c32 : 0 ≤ (rd t671 x23_1)
     rotate_left
     ·rw [if_neg c32] at H
      exact absurd H (by simp)
     rw [if_pos c32] at H
     have c32b0 : decide (0 ≤ (rd t671 x23_1)) = true := decide_eq_true c32
     clear c32
     by_cases c33 : (rd t671 x23_1) < (l2.length : Int)
     rotate_left
     ·rw [if_neg c33] at H
      exact absurd H (by simp)
     rw [if_pos c33] at H
     have c33b0 : decide ((rd t671 x23_1) < (l2.length : Int)) = true := decide_eq_true c33
     clear c33
     by_cases c34 : 0 ≤ (rd t675 x32_2)
     rotate_left
     ·rw [if_neg c34] at H
      exact absurd H (by simp)
     rw [if_pos c34] at H
     have c34b0 : decide (0 ≤ (rd t675 x32_2)) = true := decide_eq_true c34
     clear c34
     by_cases c35 : (rd t675 x32_2) < (l2.length : Int)
     rotate_left
     ·rw [if_neg c35] at H
      exact absurd H (by simp)
     rw [if_pos c35] at H
     have c35b0 : decide ((rd t675 x32_2) < (l2.length : Int)) = true := decide_eq_true c35
     clear c35
     by_cases c36 : (rd l2 (rd t671 x23_1)) = (rd l2 (rd t675 x32_2))
     ·rw [if_pos c36] at H
      have c36b0 : ((rd l2 (rd t671 x23_1)) == (rd l2 (rd t675 x32_2))) = true := beq_iff_eq.mpr c36
      have c36b1 : ((rd l2 (rd t671 x23_1)) != (rd l2 (rd t675 x32_2))) = false := bne_eq_false_iff_eq.mpr c36
      clear c36
      simp only [Option.some.injEq, Prod.mk.injEq] at H
      obtain ⟨rfl, rfl⟩ := H
      have p678 : 0 ≤ (x32_2 : Int) := of_decide_eq_true zac10
      have q678 : x32_2 < (t675.length : Int) := of_decide_eq_true zac10
      obtain ⟨ad678, e678, hx678_0⟩ := Kd.at_int (Kd.R_reads' HO_30.out).2.2 x32_2 p678 q678
      cases e678
      replace p678 := eq_true p678
      replace q678 := eq_true q678
      have p679 : 0 ≤ ((rd t671 x23_1) : Int) := of_decide_eq_true zac10
      have q679 : (rd t671 x23_1) < (l2.length : Int) := of_decide_eq_true zac10
      obtain ⟨ad679, e679, hx679_0⟩ := Kd.at_int HR2.out (rd t671 x23_1) p679 q679
      cases e679
      (first | replace hx679_0 := (HB.out.cell (World.block_lt_of_cell? w _ hx679_0)).trans hx679_0 | skip)
      replace p679 := eq_true p679
      replace q679 := eq_true q679
      have p680 : 0 ≤ ((rd t675 x32_2) : Int) := of_decide_eq_true zac10
      have q680 : (rd t675 x32_2) < (l2.length : Int) := of_decide_eq_true zac10
      obtain ⟨ad680, e680, hx680_0⟩ := Kd.at_int HR2.out (rd t675 x32_2) p680 q680
      obtain rfl : ad679 = ad680 := (by injection e680)
      (first | replace hx680_0 := (HB.out.cell (World.block_lt_of_cell? w _ hx680_0)).trans hx680_0 | skip)
      replace p680 := eq_true p680
      replace q680 := eq_true q680
      go_wp2
      repeat ((first | go_quiet (fail) | (refine wp_region_quiet_lit (by kernel_rfl) (by kernel_rfl) ?_; (repeat (any_goals (first | go_big_quiet_step (fail) | quiet_step (fail)))); all_goals (refine wpQuiet_nil ?_; intro _ hw2_; obtain ⟨nq, hw3_⟩ := hw2_; subst hw3_))); try go_wp2)
      go_ret2
      exact ⟨zac13, zac1⟩
     rw [if_neg c36] at H
     have c36b0 : ((rd l2 (rd t671 x23_1)) == (rd l2 (rd t675 x32_2))) = false := beq_eq_false_iff_ne.mpr c36
     have c36b1 : ((rd l2 (rd t671 x23_1)) != (rd l2 (rd t675 x32_2))) = true := bne_iff_ne.mpr c36
     have H' := Aside0.mk H
     clear H
     have p678 : 0 ≤ (x32_2 : Int) := of_decide_eq_true zac10
     have q678 : x32_2 < (t675.length : Int) := of_decide_eq_true zac10
     obtain ⟨ad678, e678, hx678_0⟩ := Kd.at_int (Kd.R_reads' HO_30.out).2.2 x32_2 p678 q678
     cases e678
     replace p678 := eq_true p678
     replace q678 := eq_true q678
     have p679 : 0 ≤ ((rd t671 x23_1) : Int) := of_decide_eq_true zac10
     have q679 : (rd t671 x23_1) < (l2.length : Int) := of_decide_eq_true zac10
     obtain ⟨ad679, e679, hx679_0⟩ := Kd.at_int HR2.out (rd t671 x23_1) p679 q679
     cases e679
     (first | replace hx679_0 := (HB.out.cell (World.block_lt_of_cell? w _ hx679_0)).trans hx679_0 | skip)
     replace p679 := eq_true p679
     replace q679 := eq_true q679
     have p680 : 0 ≤ ((rd t675 x32_2) : Int) := of_decide_eq_true zac10
     have q680 : (rd t675 x32_2) < (l2.length : Int) := of_decide_eq_true zac10
     obtain ⟨ad680, e680, hx680_0⟩ := Kd.at_int HR2.out (rd t675 x32_2) p680 q680
     obtain rfl : ad679 = ad680 := (by injection e680)
     (first | replace hx680_0 := (HB.out.cell (World.block_lt_of_cell? w _ hx680_0)).trans hx680_0 | skip)
     replace p680 := eq_true p680
     replace q680 := eq_true q680
     go_wp2
     repeat ((first | go_quiet (fail) | (refine wp_region_quiet_lit (by kernel_rfl) (by kernel_rfl) ?_; (repeat (any_goals (first | go_big_quiet_step (fail) | quiet_step (fail)))); all_goals (refine wpQuiet_nil ?_; intro _ hw2_; obtain ⟨nq, hw3_⟩ := hw2_; subst hw3_))); try go_wp2)
     go_roundg k2
     case measure => have := HK1.out; have := HK2.out; omega
     case rel => exact ⟨(wrap64 (x32_2 + 1)), zac14, H', ⟨by have := HK1.out; have := HK2.out; omega⟩, ⟨zac11⟩, ⟨by first | exact HO_30.out | ((with_reducible repeat (first | apply Kd.R_alloc | apply Kd.R_drewN | apply Kd.R_drew)); exact HO_30.out)⟩, ⟨zac3⟩, ⟨zac4⟩, ⟨zac1⟩⟩

/-! ### impl_Board_coloured: function 93 -/
def impl_Board_coloured.l0 : Nat → List Int → Int → Int → Int → Int → List Int → Option (Bool)
 | 0, _, _, _, _, _, _ => none
 | k + 1, x15, x16, x17, x682000, x682001, x682002 => if x17 < x16 then (if 0 ≤ x17 then (if x17 < (x15.length : Int) then ((impl_Board_has.f k x682000 x682001 x682002 x17).bind fun t683 => (if t683 = true then (if (rd x15 x17) < 0 then (some false) else (if (rd x15 x17) ≥ 9 then (some false) else ((impl_Board_has.f k x682000 x682001 x682002 x17).bind fun t684 => (if t684 = true then (impl_Board_coloured.l0 k x15 x16 (wrap64 (x17 + 1)) x682000 x682001 x682002) else (if (rd x15 x17) = (-1) then (impl_Board_coloured.l0 k x15 x16 (wrap64 (x17 + 1)) x682000 x682001 x682002) else (some false)))))) else ((impl_Board_has.f k x682000 x682001 x682002 x17).bind fun t685 => (if t685 = true then (impl_Board_coloured.l0 k x15 x16 (wrap64 (x17 + 1)) x682000 x682001 x682002) else (if (rd x15 x17) = (-1) then (impl_Board_coloured.l0 k x15 x16 (wrap64 (x17 + 1)) x682000 x682001 x682002) else (some false)))))) else (none)) else (none)) else (some true)
def impl_Board_coloured.f (k : Nat) (a0_0 : Int) (a0_1 : Int) (l0_2 : List Int) (l1 : List Int) : Option (Bool) := if (l1.length : Int) = (wrap64 (a0_0 * a0_1)) then (impl_Board_coloured.l0 k l1 (l1.length : Int) 0 a0_0 a0_1 l0_2) else (some false)
set_option maxHeartbeats 8000000 in
set_option maxRecDepth 100000 in
theorem impl_Board_coloured.calls (k : Nat) (a0_0 : Int) (a0_1 : Int) (A0_2 : Option Addr) (c0_2 : Nat) (l0_2 : List Int) (A1 : Option Addr) (c1 : Nat) (l1 : List Int) (r : Bool) (w : World) (hr0_2 : Kd.C (Kd.int .i64) w A0_2 l0_2.length l0_2) (hc0_2 : l0_2.length ≤ c0_2) (hr1 : Kd.C (Kd.int .i64) w A1 l1.length l1) (hc1 : l1.length ≤ c1) (h : impl_Board_coloured.f k a0_0 a0_1 l0_2 l1 = some r) :
  Calls Try.prog 93 #[.agg #[.int .i64 a0_0, .int .i64 a0_1, .slice A0_2 l0_2.length c0_2], .slice A1 l1.length c1] w fun e w' => e = .returned (.bool r) ∧ Below w.heap.size w w' := by
 have hu30 := Try.underlying30
 have HR0_2 := Aside0.mk hr0_2
 have HC0_2 := Aside0.mk hc0_2
 clear hr0_2 hc0_2
 have HR1 := Aside0.mk hr1
 have HC1 := Aside0.mk hc1
 clear hr1 hc1
 have HB := Aside0.mk (Below.refl w.heap.size w)
 have H : (if (l1.length : Int) = (wrap64 (a0_0 * a0_1)) then (impl_Board_coloured.l0 k l1 (l1.length : Int) 0 a0_0 a0_1 l0_2) else (some false)) = some r := h
 clear h
 by_cases c3 : (l1.length : Int) = (wrap64 (a0_0 * a0_1))
 rotate_left
 ·rw [if_neg c3] at H
  have c3b0 : ((l1.length : Int) == (wrap64 (a0_0 * a0_1))) = false := beq_eq_false_iff_ne.mpr c3
  have c3b1 : ((l1.length : Int) != (wrap64 (a0_0 * a0_1))) = true := bne_iff_ne.mpr c3
  obtain rfl := Option.some.inj H
  go_enter Try.func93, Try.ntmps93
  go_wp2_with (first | ((with_reducible refine gate_dst (N := 2) rfl ?_); refine box_event ?hg (N := 2) ?hd (cs := #[.int .i64 a0_0, .int .i64 a0_1, .slice A0_2 l0_2.length c0_2]) (t := 30) ?hr ?_; (case hd => rfl); (case hg => rfl); (case hr => first | (go_simp; done) | (go_simp; rfl)); intro gb681 hg w47 hbox hb; have n0_ := Aside0.mk (below_step zac6 hb); have n1_ := Aside0.mk (hbox); have n2_ := Aside0.mk ((zac17 : w.heap.size ≤ gb681)); have n3_ := Aside0.mk ((zac17 : w.heap.size ≤ gb681)); clear HB; have HB := n0_; have BK681 := n1_; have GW681 := n2_; have GE681 := n3_; clear n0_ n1_ n2_ n3_; clear hb hbox hg; have hcz48_0 : w47.cell? ⟨gb681, 0, none⟩ = some (.int .i64 a0_0) := (blk_cell BK681.out 0).trans rfl; have hcz48_1 : w47.cell? ⟨gb681, 1, none⟩ = some (.int .i64 a0_1) := (blk_cell BK681.out 1).trans rfl; have hcz48_2 : w47.cell? ⟨gb681, 2, none⟩ = some (.slice A0_2 l0_2.length c0_2) := (blk_cell BK681.out 2).trans rfl; have hfz48_0 := blk_frozen BK681.out 0; have hfz48_1 := blk_frozen BK681.out 1; have hfz48_2 := blk_frozen BK681.out 2))
  go_ret
  exact ⟨zac13, zac5⟩
 rw [if_pos c3] at H
 have c3b0 : ((l1.length : Int) == (wrap64 (a0_0 * a0_1))) = true := beq_iff_eq.mpr c3
 have c3b1 : ((l1.length : Int) != (wrap64 (a0_0 * a0_1))) = false := bne_eq_false_iff_eq.mpr c3
 clear c3
 have H' := Aside0.mk H
 clear H
 go_enter Try.func93, Try.ntmps93
 go_wp2_with (first | ((with_reducible refine gate_dst (N := 2) rfl ?_); refine box_event ?hg (N := 2) ?hd (cs := #[.int .i64 a0_0, .int .i64 a0_1, .slice A0_2 l0_2.length c0_2]) (t := 30) ?hr ?_; (case hd => rfl); (case hg => rfl); (case hr => first | (go_simp; done) | (go_simp; rfl)); intro gb681 hg w4 hbox hb; have n0_ := Aside0.mk (below_step zac6 hb); have n1_ := Aside0.mk (hbox); have n2_ := Aside0.mk ((zac17 : w.heap.size ≤ gb681)); have n3_ := Aside0.mk ((zac17 : w.heap.size ≤ gb681)); clear HB; have HB := n0_; have BK681 := n1_; have GW681 := n2_; have GE681 := n3_; clear n0_ n1_ n2_ n3_; clear hb hbox hg; have hcz5_0 : w4.cell? ⟨gb681, 0, none⟩ = some (.int .i64 a0_0) := (blk_cell BK681.out 0).trans rfl; have hcz5_1 : w4.cell? ⟨gb681, 1, none⟩ = some (.int .i64 a0_1) := (blk_cell BK681.out 1).trans rfl; have hcz5_2 : w4.cell? ⟨gb681, 2, none⟩ = some (.slice A0_2 l0_2.length c0_2) := (blk_cell BK681.out 2).trans rfl; have hfz5_0 := blk_frozen BK681.out 0; have hfz5_1 := blk_frozen BK681.out 1; have hfz5_2 := blk_frozen BK681.out 2))
 go_loopg [17] k (fun kq v17 w' => ∃ (x17_1 : Int), v17 = .int .i64 x17_1 ∧ Aside0 (impl_Board_coloured.l0 kq l1 (l1.length : Int) x17_1 a0_0 a0_1 l0_2 = some r) ∧ Aside0 (kq ≤ k) ∧ Aside0 (w'.heap[gb681]? = some (.cells #[.int .i64 a0_0, .int .i64 a0_1, (.slice A0_2 l0_2.length c0_2)] 30 (0, 0))) ∧ Aside0 (Below w.heap.size w w'))
 case atStart => exact ⟨(0), zac14, H', ⟨Nat.le_refl _⟩, ⟨zac8⟩, ⟨zac5⟩⟩
 case round =>
  clear H'
  try clear c1; try clear p2; try clear c3; try clear c3b0; try clear c3b1; try clear hcz5_0; try clear hcz5_1; try clear hcz5_2; try clear hfz5_0; try clear hfz5_1; try clear hfz5_2
  obtain ⟨x17_1, rfl, HA, HK1, BK681, HB⟩ := hrel
  cases gk with
  | zero => exact absurd HA.out (by simp [impl_Board_coloured.l0])
  | succ k1 =>
   have H := HA.out
   clear HA
   simp only [impl_Board_coloured.l0] at H
   by_cases c6 : x17_1 < (l1.length : Int)
   rotate_left
   ·rw [if_neg c6] at H
    have c6b0 : decide (x17_1 < (l1.length : Int)) = false := decide_eq_false c6
    clear c6
    obtain rfl := Option.some.inj H
    go_wp2
    go_ret
    exact ⟨zac13, zac5⟩
   rw [if_pos c6] at H
   have c6b0 : decide (x17_1 < (l1.length : Int)) = true := decide_eq_true c6
   clear c6
   by_cases c7 : 0 ≤ x17_1
   rotate_left
   ·rw [if_neg c7] at H
    exact absurd H (by simp)
   rw [if_pos c7] at H
   have c7b0 : decide (0 ≤ x17_1) = true := decide_eq_true c7
   clear c7
   by_cases c8 : x17_1 < (l1.length : Int)
   rotate_left
   ·rw [if_neg c8] at H
    exact absurd H (by simp)
   rw [if_pos c8] at H
   have c8b0 : decide (x17_1 < (l1.length : Int)) = true := decide_eq_true c8
   clear c8
   replace H := Option.bind_eq_some_iff.mp H
   obtain ⟨t683, A90, H⟩ := H
   replace H : (if t683 = true then (if (rd l1 x17_1) < 0 then (some false) else (if (rd l1 x17_1) ≥ 9 then (some false) else ((impl_Board_has.f k1 a0_0 a0_1 l0_2 x17_1).bind fun t684 => (if t684 = true then (impl_Board_coloured.l0 k1 l1 (l1.length : Int) (wrap64 (x17_1 + 1)) a0_0 a0_1 l0_2) else (if (rd l1 x17_1) = (-1) then (impl_Board_coloured.l0 k1 l1 (l1.length : Int) (wrap64 (x17_1 + 1)) a0_0 a0_1 l0_2) else (some false)))))) else ((impl_Board_has.f k1 a0_0 a0_1 l0_2 x17_1).bind fun t685 => (if t685 = true then (impl_Board_coloured.l0 k1 l1 (l1.length : Int) (wrap64 (x17_1 + 1)) a0_0 a0_1 l0_2) else (if (rd l1 x17_1) = (-1) then (impl_Board_coloured.l0 k1 l1 (l1.length : Int) (wrap64 (x17_1 + 1)) a0_0 a0_1 l0_2) else (some false))))) = some r := H
   have A9 := Aside0.mk A90
   clear A90
   by_cases c10 : t683 = true
   rotate_left
   ·replace c10 := Bool.eq_false_iff.mpr c10
    subst c10
    have H1 : ((impl_Board_has.f k1 a0_0 a0_1 l0_2 x17_1).bind fun t685 => (if t685 = true then (impl_Board_coloured.l0 k1 l1 (l1.length : Int) (wrap64 (x17_1 + 1)) a0_0 a0_1 l0_2) else (if (rd l1 x17_1) = (-1) then (impl_Board_coloured.l0 k1 l1 (l1.length : Int) (wrap64 (x17_1 + 1)) a0_0 a0_1 l0_2) else (some false)))) = some r := by rw [if_neg (show ¬ (false = true) by decide)] at H; exact H
    clear H
    have H := H1
    clear H1
    replace H := Option.bind_eq_some_iff.mp H
    obtain ⟨t685, A320, H⟩ := H
    replace H : (if t685 = true then (impl_Board_coloured.l0 k1 l1 (l1.length : Int) (wrap64 (x17_1 + 1)) a0_0 a0_1 l0_2) else (if (rd l1 x17_1) = (-1) then (impl_Board_coloured.l0 k1 l1 (l1.length : Int) (wrap64 (x17_1 + 1)) a0_0 a0_1 l0_2) else (some false))) = some r := H
    have A32 := Aside0.mk A320
    clear A320
    by_cases c33 : t685 = true
    ·subst c33
     have H1 : (impl_Board_coloured.l0 k1 l1 (l1.length : Int) (wrap64 (x17_1 + 1)) a0_0 a0_1 l0_2) = some r := by rw [if_pos rfl] at H; exact H
     clear H
     have H := H1
     clear H1
     have H' := Aside0.mk H
     clear H
     have p682 : 0 ≤ (x17_1 : Int) := of_decide_eq_true zac10
     have q682 : x17_1 < (l1.length : Int) := of_decide_eq_true zac10
     obtain ⟨ad682, e682, hx682_0⟩ := Kd.at_int HR1.out x17_1 p682 q682
     cases e682
     (first | replace hx682_0 := (HB.out.cell (World.block_lt_of_cell? w _ hx682_0)).trans hx682_0 | skip)
     replace p682 := eq_true p682
     replace q682 := eq_true q682
     have hcz34_0 : wr.cell? ⟨gb681, 0, none⟩ = some (.int .i64 a0_0) := (blk_cell BK681.out 0).trans rfl
     have hcz34_1 : wr.cell? ⟨gb681, 1, none⟩ = some (.int .i64 a0_1) := (blk_cell BK681.out 1).trans rfl
     have hcz34_2 : wr.cell? ⟨gb681, 2, none⟩ = some (.slice A0_2 l0_2.length c0_2) := (blk_cell BK681.out 2).trans rfl
     have hfz34_0 := blk_frozen BK681.out 0
     have hfz34_1 := blk_frozen BK681.out 1
     have hfz34_2 := blk_frozen BK681.out 2
     go_wp2_with (first | ((with_reducible refine gate_callee (f := 91) rfl ?_); refine goesL_ (some 24) rfl rfl Try.func91 (by kernel_rfl) rfl #[.agg #[.int .i64 a0_0, .int .i64 a0_1, .slice A0_2 l0_2.length c0_2], .int .i64 x17_1] rfl zac12 ?_; (with_reducible refine (impl_Board_has.calls k1 a0_0 a0_1 _ _ l0_2 x17_1 false _ ?side1 ?side2 A9.out).mono ?_); (case side1 => exact zac2); (case side2 => exact HC0_2.out); rintro e w35 ⟨rfl, hb⟩; refine ⟨_, rfl, ?_⟩; have n0_ := Aside0.mk (blk_below (g := gb681) (o := .cells #[.int .i64 a0_0, .int .i64 a0_1, .slice A0_2 l0_2.length c0_2] 30 (0, 0)) zac8 hb); have n1_ := Aside0.mk (below_step zac5 hb); clear BK681; clear HB; have BK681 := n0_; have HB := n1_; clear n0_ n1_; (try clear hb); (try clear hb2); (try clear hk); (try clear hi); (try clear hna_); (try clear hnb_); have hcz36_0 : w35.cell? ⟨gb681, 0, none⟩ = some (.int .i64 a0_0) := (blk_cell BK681.out 0).trans rfl; have hcz36_1 : w35.cell? ⟨gb681, 1, none⟩ = some (.int .i64 a0_1) := (blk_cell BK681.out 1).trans rfl; have hcz36_2 : w35.cell? ⟨gb681, 2, none⟩ = some (.slice A0_2 l0_2.length c0_2) := (blk_cell BK681.out 2).trans rfl; have hfz36_0 := blk_frozen BK681.out 0; have hfz36_1 := blk_frozen BK681.out 1; have hfz36_2 := blk_frozen BK681.out 2) | (go_at_call 91; (with_reducible refine (impl_Board_has.calls k1 a0_0 a0_1 _ _ l0_2 x17_1 true _ ?side1 ?side2 A32.out).mono ?_); (case side1 => exact zac2); (case side2 => exact HC0_2.out); rintro e w37 ⟨rfl, hb⟩; have n0_ := Aside0.mk (blk_below (g := gb681) (o := .cells #[.int .i64 a0_0, .int .i64 a0_1, .slice A0_2 l0_2.length c0_2] 30 (0, 0)) zac8 hb); have n1_ := Aside0.mk (below_step zac5 hb); clear BK681; clear HB; have BK681 := n0_; have HB := n1_; clear n0_ n1_; (try clear hb); (try clear hb2); (try clear hk); (try clear hi); (try clear hna_); (try clear hnb_)))
     go_roundg k1
     case measure => have := HK1.out; omega
     case rel => exact ⟨(wrap64 (x17_1 + 1)), zac14, H', ⟨by have := HK1.out; omega⟩, ⟨zac8⟩, ⟨zac5⟩⟩
    replace c33 := Bool.eq_false_iff.mpr c33
    subst c33
    have H1 : (if (rd l1 x17_1) = (-1) then (impl_Board_coloured.l0 k1 l1 (l1.length : Int) (wrap64 (x17_1 + 1)) a0_0 a0_1 l0_2) else (some false)) = some r := by rw [if_neg (show ¬ (false = true) by decide)] at H; exact H
    clear H
    have H := H1
    clear H1
    by_cases c38 : (rd l1 x17_1) = (-1)
    rotate_left
    ·rw [if_neg c38] at H
     have c38b0 : ((rd l1 x17_1) == (-1)) = false := beq_eq_false_iff_ne.mpr c38
     have c38b1 : ((rd l1 x17_1) != (-1)) = true := bne_iff_ne.mpr c38
     obtain rfl := Option.some.inj H
     have p682 : 0 ≤ (x17_1 : Int) := of_decide_eq_true zac10
     have q682 : x17_1 < (l1.length : Int) := of_decide_eq_true zac10
     obtain ⟨ad682, e682, hx682_0⟩ := Kd.at_int HR1.out x17_1 p682 q682
     cases e682
     (first | replace hx682_0 := (HB.out.cell (World.block_lt_of_cell? w _ hx682_0)).trans hx682_0 | skip)
     replace p682 := eq_true p682
     replace q682 := eq_true q682
     have hcz43_0 : wr.cell? ⟨gb681, 0, none⟩ = some (.int .i64 a0_0) := (blk_cell BK681.out 0).trans rfl
     have hcz43_1 : wr.cell? ⟨gb681, 1, none⟩ = some (.int .i64 a0_1) := (blk_cell BK681.out 1).trans rfl
     have hcz43_2 : wr.cell? ⟨gb681, 2, none⟩ = some (.slice A0_2 l0_2.length c0_2) := (blk_cell BK681.out 2).trans rfl
     have hfz43_0 := blk_frozen BK681.out 0
     have hfz43_1 := blk_frozen BK681.out 1
     have hfz43_2 := blk_frozen BK681.out 2
     go_wp2_with (first | ((with_reducible refine gate_callee (f := 91) rfl ?_); refine goesL_ (some 24) rfl rfl Try.func91 (by kernel_rfl) rfl #[.agg #[.int .i64 a0_0, .int .i64 a0_1, .slice A0_2 l0_2.length c0_2], .int .i64 x17_1] rfl zac12 ?_; (with_reducible refine (impl_Board_has.calls k1 a0_0 a0_1 _ _ l0_2 x17_1 false _ ?side1 ?side2 A9.out).mono ?_); (case side1 => exact zac2); (case side2 => exact HC0_2.out); rintro e w44 ⟨rfl, hb⟩; refine ⟨_, rfl, ?_⟩; have n0_ := Aside0.mk (blk_below (g := gb681) (o := .cells #[.int .i64 a0_0, .int .i64 a0_1, .slice A0_2 l0_2.length c0_2] 30 (0, 0)) zac8 hb); have n1_ := Aside0.mk (below_step zac5 hb); clear BK681; clear HB; have BK681 := n0_; have HB := n1_; clear n0_ n1_; (try clear hb); (try clear hb2); (try clear hk); (try clear hi); (try clear hna_); (try clear hnb_); have hcz45_0 : w44.cell? ⟨gb681, 0, none⟩ = some (.int .i64 a0_0) := (blk_cell BK681.out 0).trans rfl; have hcz45_1 : w44.cell? ⟨gb681, 1, none⟩ = some (.int .i64 a0_1) := (blk_cell BK681.out 1).trans rfl; have hcz45_2 : w44.cell? ⟨gb681, 2, none⟩ = some (.slice A0_2 l0_2.length c0_2) := (blk_cell BK681.out 2).trans rfl; have hfz45_0 := blk_frozen BK681.out 0; have hfz45_1 := blk_frozen BK681.out 1; have hfz45_2 := blk_frozen BK681.out 2) | (go_at_call 91; (with_reducible refine (impl_Board_has.calls k1 a0_0 a0_1 _ _ l0_2 x17_1 false _ ?side1 ?side2 A32.out).mono ?_); (case side1 => exact zac2); (case side2 => exact HC0_2.out); rintro e w46 ⟨rfl, hb⟩; have n0_ := Aside0.mk (blk_below (g := gb681) (o := .cells #[.int .i64 a0_0, .int .i64 a0_1, .slice A0_2 l0_2.length c0_2] 30 (0, 0)) zac8 hb); have n1_ := Aside0.mk (below_step zac5 hb); clear BK681; clear HB; have BK681 := n0_; have HB := n1_; clear n0_ n1_; (try clear hb); (try clear hb2); (try clear hk); (try clear hi); (try clear hna_); (try clear hnb_)))
     go_ret
     exact ⟨zac13, zac5⟩
    rw [if_pos c38] at H
    have c38b0 : ((rd l1 x17_1) == (-1)) = true := beq_iff_eq.mpr c38
    have c38b1 : ((rd l1 x17_1) != (-1)) = false := bne_eq_false_iff_eq.mpr c38
    clear c38
    have H' := Aside0.mk H
    clear H
    have p682 : 0 ≤ (x17_1 : Int) := of_decide_eq_true zac10
    have q682 : x17_1 < (l1.length : Int) := of_decide_eq_true zac10
    obtain ⟨ad682, e682, hx682_0⟩ := Kd.at_int HR1.out x17_1 p682 q682
    cases e682
    (first | replace hx682_0 := (HB.out.cell (World.block_lt_of_cell? w _ hx682_0)).trans hx682_0 | skip)
    replace p682 := eq_true p682
    replace q682 := eq_true q682
    have hcz39_0 : wr.cell? ⟨gb681, 0, none⟩ = some (.int .i64 a0_0) := (blk_cell BK681.out 0).trans rfl
    have hcz39_1 : wr.cell? ⟨gb681, 1, none⟩ = some (.int .i64 a0_1) := (blk_cell BK681.out 1).trans rfl
    have hcz39_2 : wr.cell? ⟨gb681, 2, none⟩ = some (.slice A0_2 l0_2.length c0_2) := (blk_cell BK681.out 2).trans rfl
    have hfz39_0 := blk_frozen BK681.out 0
    have hfz39_1 := blk_frozen BK681.out 1
    have hfz39_2 := blk_frozen BK681.out 2
    go_wp2_with (first | ((with_reducible refine gate_callee (f := 91) rfl ?_); refine goesL_ (some 24) rfl rfl Try.func91 (by kernel_rfl) rfl #[.agg #[.int .i64 a0_0, .int .i64 a0_1, .slice A0_2 l0_2.length c0_2], .int .i64 x17_1] rfl zac12 ?_; (with_reducible refine (impl_Board_has.calls k1 a0_0 a0_1 _ _ l0_2 x17_1 false _ ?side1 ?side2 A9.out).mono ?_); (case side1 => exact zac2); (case side2 => exact HC0_2.out); rintro e w40 ⟨rfl, hb⟩; refine ⟨_, rfl, ?_⟩; have n0_ := Aside0.mk (blk_below (g := gb681) (o := .cells #[.int .i64 a0_0, .int .i64 a0_1, .slice A0_2 l0_2.length c0_2] 30 (0, 0)) zac8 hb); have n1_ := Aside0.mk (below_step zac5 hb); clear BK681; clear HB; have BK681 := n0_; have HB := n1_; clear n0_ n1_; (try clear hb); (try clear hb2); (try clear hk); (try clear hi); (try clear hna_); (try clear hnb_); have hcz41_0 : w40.cell? ⟨gb681, 0, none⟩ = some (.int .i64 a0_0) := (blk_cell BK681.out 0).trans rfl; have hcz41_1 : w40.cell? ⟨gb681, 1, none⟩ = some (.int .i64 a0_1) := (blk_cell BK681.out 1).trans rfl; have hcz41_2 : w40.cell? ⟨gb681, 2, none⟩ = some (.slice A0_2 l0_2.length c0_2) := (blk_cell BK681.out 2).trans rfl; have hfz41_0 := blk_frozen BK681.out 0; have hfz41_1 := blk_frozen BK681.out 1; have hfz41_2 := blk_frozen BK681.out 2) | (go_at_call 91; (with_reducible refine (impl_Board_has.calls k1 a0_0 a0_1 _ _ l0_2 x17_1 false _ ?side1 ?side2 A32.out).mono ?_); (case side1 => exact zac2); (case side2 => exact HC0_2.out); rintro e w42 ⟨rfl, hb⟩; have n0_ := Aside0.mk (blk_below (g := gb681) (o := .cells #[.int .i64 a0_0, .int .i64 a0_1, .slice A0_2 l0_2.length c0_2] 30 (0, 0)) zac8 hb); have n1_ := Aside0.mk (below_step zac5 hb); clear BK681; clear HB; have BK681 := n0_; have HB := n1_; clear n0_ n1_; (try clear hb); (try clear hb2); (try clear hk); (try clear hi); (try clear hna_); (try clear hnb_)))
    go_roundg k1
    case measure => have := HK1.out; omega
    case rel => exact ⟨(wrap64 (x17_1 + 1)), zac14, H', ⟨by have := HK1.out; omega⟩, ⟨zac8⟩, ⟨zac5⟩⟩
   subst c10
   have H1 : (if (rd l1 x17_1) < 0 then (some false) else (if (rd l1 x17_1) ≥ 9 then (some false) else ((impl_Board_has.f k1 a0_0 a0_1 l0_2 x17_1).bind fun t684 => (if t684 = true then (impl_Board_coloured.l0 k1 l1 (l1.length : Int) (wrap64 (x17_1 + 1)) a0_0 a0_1 l0_2) else (if (rd l1 x17_1) = (-1) then (impl_Board_coloured.l0 k1 l1 (l1.length : Int) (wrap64 (x17_1 + 1)) a0_0 a0_1 l0_2) else (some false)))))) = some r := by rw [if_pos rfl] at H; exact H
   clear H
   have H := H1
   clear H1
   by_cases c11 : (rd l1 x17_1) < 0
   ·rw [if_pos c11] at H
    have c11b0 : decide ((rd l1 x17_1) < 0) = true := decide_eq_true c11
    clear c11
    obtain rfl := Option.some.inj H
    have p682 : 0 ≤ (x17_1 : Int) := of_decide_eq_true zac10
    have q682 : x17_1 < (l1.length : Int) := of_decide_eq_true zac10
    obtain ⟨ad682, e682, hx682_0⟩ := Kd.at_int HR1.out x17_1 p682 q682
    cases e682
    (first | replace hx682_0 := (HB.out.cell (World.block_lt_of_cell? w _ hx682_0)).trans hx682_0 | skip)
    replace p682 := eq_true p682
    replace q682 := eq_true q682
    have hcz12_0 : wr.cell? ⟨gb681, 0, none⟩ = some (.int .i64 a0_0) := (blk_cell BK681.out 0).trans rfl
    have hcz12_1 : wr.cell? ⟨gb681, 1, none⟩ = some (.int .i64 a0_1) := (blk_cell BK681.out 1).trans rfl
    have hcz12_2 : wr.cell? ⟨gb681, 2, none⟩ = some (.slice A0_2 l0_2.length c0_2) := (blk_cell BK681.out 2).trans rfl
    have hfz12_0 := blk_frozen BK681.out 0
    have hfz12_1 := blk_frozen BK681.out 1
    have hfz12_2 := blk_frozen BK681.out 2
    go_wp2_with (first | ((with_reducible refine gate_callee (f := 91) rfl ?_); refine goesL_ (some 24) rfl rfl Try.func91 (by kernel_rfl) rfl #[.agg #[.int .i64 a0_0, .int .i64 a0_1, .slice A0_2 l0_2.length c0_2], .int .i64 x17_1] rfl zac12 ?_; (with_reducible refine (impl_Board_has.calls k1 a0_0 a0_1 _ _ l0_2 x17_1 true _ ?side1 ?side2 A9.out).mono ?_); (case side1 => exact zac2); (case side2 => exact HC0_2.out); rintro e w13 ⟨rfl, hb⟩; refine ⟨_, rfl, ?_⟩; have n0_ := Aside0.mk (blk_below (g := gb681) (o := .cells #[.int .i64 a0_0, .int .i64 a0_1, .slice A0_2 l0_2.length c0_2] 30 (0, 0)) zac8 hb); have n1_ := Aside0.mk (below_step zac5 hb); clear BK681; clear HB; have BK681 := n0_; have HB := n1_; clear n0_ n1_; (try clear hb); (try clear hb2); (try clear hk); (try clear hi); (try clear hna_); (try clear hnb_)))
    go_ret
    exact ⟨zac13, zac5⟩
   rw [if_neg c11] at H
   have c11b0 : decide ((rd l1 x17_1) < 0) = false := decide_eq_false c11
   clear c11
   by_cases c14 : (rd l1 x17_1) ≥ 9
   ·rw [if_pos c14] at H
    have c14b0 : decide (9 ≤ (rd l1 x17_1)) = true := decide_eq_true c14
    clear c14
    obtain rfl := Option.some.inj H
    have p682 : 0 ≤ (x17_1 : Int) := of_decide_eq_true zac10
    have q682 : x17_1 < (l1.length : Int) := of_decide_eq_true zac10
    obtain ⟨ad682, e682, hx682_0⟩ := Kd.at_int HR1.out x17_1 p682 q682
    cases e682
    (first | replace hx682_0 := (HB.out.cell (World.block_lt_of_cell? w _ hx682_0)).trans hx682_0 | skip)
    replace p682 := eq_true p682
    replace q682 := eq_true q682
    have hcz15_0 : wr.cell? ⟨gb681, 0, none⟩ = some (.int .i64 a0_0) := (blk_cell BK681.out 0).trans rfl
    have hcz15_1 : wr.cell? ⟨gb681, 1, none⟩ = some (.int .i64 a0_1) := (blk_cell BK681.out 1).trans rfl
    have hcz15_2 : wr.cell? ⟨gb681, 2, none⟩ = some (.slice A0_2 l0_2.length c0_2) := (blk_cell BK681.out 2).trans rfl
    have hfz15_0 := blk_frozen BK681.out 0
    have hfz15_1 := blk_frozen BK681.out 1
    have hfz15_2 := blk_frozen BK681.out 2
    go_wp2_with (first | ((with_reducible refine gate_callee (f := 91) rfl ?_); refine goesL_ (some 24) rfl rfl Try.func91 (by kernel_rfl) rfl #[.agg #[.int .i64 a0_0, .int .i64 a0_1, .slice A0_2 l0_2.length c0_2], .int .i64 x17_1] rfl zac12 ?_; (with_reducible refine (impl_Board_has.calls k1 a0_0 a0_1 _ _ l0_2 x17_1 true _ ?side1 ?side2 A9.out).mono ?_); (case side1 => exact zac2); (case side2 => exact HC0_2.out); rintro e w16 ⟨rfl, hb⟩; refine ⟨_, rfl, ?_⟩; have n0_ := Aside0.mk (blk_below (g := gb681) (o := .cells #[.int .i64 a0_0, .int .i64 a0_1, .slice A0_2 l0_2.length c0_2] 30 (0, 0)) zac8 hb); have n1_ := Aside0.mk (below_step zac5 hb); clear BK681; clear HB; have BK681 := n0_; have HB := n1_; clear n0_ n1_; (try clear hb); (try clear hb2); (try clear hk); (try clear hi); (try clear hna_); (try clear hnb_)))
    go_ret
    exact ⟨zac13, zac5⟩
   rw [if_neg c14] at H
   have c14b0 : decide (9 ≤ (rd l1 x17_1)) = false := decide_eq_false c14
   clear c14
   replace H := Option.bind_eq_some_iff.mp H
   obtain ⟨t684, A170, H⟩ := H
   replace H : (if t684 = true then (impl_Board_coloured.l0 k1 l1 (l1.length : Int) (wrap64 (x17_1 + 1)) a0_0 a0_1 l0_2) else (if (rd l1 x17_1) = (-1) then (impl_Board_coloured.l0 k1 l1 (l1.length : Int) (wrap64 (x17_1 + 1)) a0_0 a0_1 l0_2) else (some false))) = some r := H
   have A17 := Aside0.mk A170
   clear A170
   by_cases c18 : t684 = true
   ·subst c18
    have H1 : (impl_Board_coloured.l0 k1 l1 (l1.length : Int) (wrap64 (x17_1 + 1)) a0_0 a0_1 l0_2) = some r := by rw [if_pos rfl] at H; exact H
    clear H
    have H := H1
    clear H1
    have H' := Aside0.mk H
    clear H
    have p682 : 0 ≤ (x17_1 : Int) := of_decide_eq_true zac10
    have q682 : x17_1 < (l1.length : Int) := of_decide_eq_true zac10
    obtain ⟨ad682, e682, hx682_0⟩ := Kd.at_int HR1.out x17_1 p682 q682
    cases e682
    (first | replace hx682_0 := (HB.out.cell (World.block_lt_of_cell? w _ hx682_0)).trans hx682_0 | skip)
    replace p682 := eq_true p682
    replace q682 := eq_true q682
    have hcz19_0 : wr.cell? ⟨gb681, 0, none⟩ = some (.int .i64 a0_0) := (blk_cell BK681.out 0).trans rfl
    have hcz19_1 : wr.cell? ⟨gb681, 1, none⟩ = some (.int .i64 a0_1) := (blk_cell BK681.out 1).trans rfl
    have hcz19_2 : wr.cell? ⟨gb681, 2, none⟩ = some (.slice A0_2 l0_2.length c0_2) := (blk_cell BK681.out 2).trans rfl
    have hfz19_0 := blk_frozen BK681.out 0
    have hfz19_1 := blk_frozen BK681.out 1
    have hfz19_2 := blk_frozen BK681.out 2
    go_wp2_with (first | ((with_reducible refine gate_callee (f := 91) rfl ?_); refine goesL_ (some 24) rfl rfl Try.func91 (by kernel_rfl) rfl #[.agg #[.int .i64 a0_0, .int .i64 a0_1, .slice A0_2 l0_2.length c0_2], .int .i64 x17_1] rfl zac12 ?_; (with_reducible refine (impl_Board_has.calls k1 a0_0 a0_1 _ _ l0_2 x17_1 true _ ?side1 ?side2 A9.out).mono ?_); (case side1 => exact zac2); (case side2 => exact HC0_2.out); rintro e w20 ⟨rfl, hb⟩; refine ⟨_, rfl, ?_⟩; have n0_ := Aside0.mk (blk_below (g := gb681) (o := .cells #[.int .i64 a0_0, .int .i64 a0_1, .slice A0_2 l0_2.length c0_2] 30 (0, 0)) zac8 hb); have n1_ := Aside0.mk (below_step zac5 hb); clear BK681; clear HB; have BK681 := n0_; have HB := n1_; clear n0_ n1_; (try clear hb); (try clear hb2); (try clear hk); (try clear hi); (try clear hna_); (try clear hnb_); have hcz21_0 : w20.cell? ⟨gb681, 0, none⟩ = some (.int .i64 a0_0) := (blk_cell BK681.out 0).trans rfl; have hcz21_1 : w20.cell? ⟨gb681, 1, none⟩ = some (.int .i64 a0_1) := (blk_cell BK681.out 1).trans rfl; have hcz21_2 : w20.cell? ⟨gb681, 2, none⟩ = some (.slice A0_2 l0_2.length c0_2) := (blk_cell BK681.out 2).trans rfl; have hfz21_0 := blk_frozen BK681.out 0; have hfz21_1 := blk_frozen BK681.out 1; have hfz21_2 := blk_frozen BK681.out 2) | (go_at_call 91; (with_reducible refine (impl_Board_has.calls k1 a0_0 a0_1 _ _ l0_2 x17_1 true _ ?side1 ?side2 A17.out).mono ?_); (case side1 => exact zac2); (case side2 => exact HC0_2.out); rintro e w22 ⟨rfl, hb⟩; have n0_ := Aside0.mk (blk_below (g := gb681) (o := .cells #[.int .i64 a0_0, .int .i64 a0_1, .slice A0_2 l0_2.length c0_2] 30 (0, 0)) zac8 hb); have n1_ := Aside0.mk (below_step zac5 hb); clear BK681; clear HB; have BK681 := n0_; have HB := n1_; clear n0_ n1_; (try clear hb); (try clear hb2); (try clear hk); (try clear hi); (try clear hna_); (try clear hnb_)))
    go_roundg k1
    case measure => have := HK1.out; omega
    case rel => exact ⟨(wrap64 (x17_1 + 1)), zac14, H', ⟨by have := HK1.out; omega⟩, ⟨zac8⟩, ⟨zac5⟩⟩
   replace c18 := Bool.eq_false_iff.mpr c18
   subst c18
   have H1 : (if (rd l1 x17_1) = (-1) then (impl_Board_coloured.l0 k1 l1 (l1.length : Int) (wrap64 (x17_1 + 1)) a0_0 a0_1 l0_2) else (some false)) = some r := by rw [if_neg (show ¬ (false = true) by decide)] at H; exact H
   clear H
   have H := H1
   clear H1
   by_cases c23 : (rd l1 x17_1) = (-1)
   rotate_left
   ·rw [if_neg c23] at H
    have c23b0 : ((rd l1 x17_1) == (-1)) = false := beq_eq_false_iff_ne.mpr c23
    have c23b1 : ((rd l1 x17_1) != (-1)) = true := bne_iff_ne.mpr c23
    obtain rfl := Option.some.inj H
    have p682 : 0 ≤ (x17_1 : Int) := of_decide_eq_true zac10
    have q682 : x17_1 < (l1.length : Int) := of_decide_eq_true zac10
    obtain ⟨ad682, e682, hx682_0⟩ := Kd.at_int HR1.out x17_1 p682 q682
    cases e682
    (first | replace hx682_0 := (HB.out.cell (World.block_lt_of_cell? w _ hx682_0)).trans hx682_0 | skip)
    replace p682 := eq_true p682
    replace q682 := eq_true q682
    have hcz28_0 : wr.cell? ⟨gb681, 0, none⟩ = some (.int .i64 a0_0) := (blk_cell BK681.out 0).trans rfl
    have hcz28_1 : wr.cell? ⟨gb681, 1, none⟩ = some (.int .i64 a0_1) := (blk_cell BK681.out 1).trans rfl
    have hcz28_2 : wr.cell? ⟨gb681, 2, none⟩ = some (.slice A0_2 l0_2.length c0_2) := (blk_cell BK681.out 2).trans rfl
    have hfz28_0 := blk_frozen BK681.out 0
    have hfz28_1 := blk_frozen BK681.out 1
    have hfz28_2 := blk_frozen BK681.out 2
    go_wp2_with (first | ((with_reducible refine gate_callee (f := 91) rfl ?_); refine goesL_ (some 24) rfl rfl Try.func91 (by kernel_rfl) rfl #[.agg #[.int .i64 a0_0, .int .i64 a0_1, .slice A0_2 l0_2.length c0_2], .int .i64 x17_1] rfl zac12 ?_; (with_reducible refine (impl_Board_has.calls k1 a0_0 a0_1 _ _ l0_2 x17_1 true _ ?side1 ?side2 A9.out).mono ?_); (case side1 => exact zac2); (case side2 => exact HC0_2.out); rintro e w29 ⟨rfl, hb⟩; refine ⟨_, rfl, ?_⟩; have n0_ := Aside0.mk (blk_below (g := gb681) (o := .cells #[.int .i64 a0_0, .int .i64 a0_1, .slice A0_2 l0_2.length c0_2] 30 (0, 0)) zac8 hb); have n1_ := Aside0.mk (below_step zac5 hb); clear BK681; clear HB; have BK681 := n0_; have HB := n1_; clear n0_ n1_; (try clear hb); (try clear hb2); (try clear hk); (try clear hi); (try clear hna_); (try clear hnb_); have hcz30_0 : w29.cell? ⟨gb681, 0, none⟩ = some (.int .i64 a0_0) := (blk_cell BK681.out 0).trans rfl; have hcz30_1 : w29.cell? ⟨gb681, 1, none⟩ = some (.int .i64 a0_1) := (blk_cell BK681.out 1).trans rfl; have hcz30_2 : w29.cell? ⟨gb681, 2, none⟩ = some (.slice A0_2 l0_2.length c0_2) := (blk_cell BK681.out 2).trans rfl; have hfz30_0 := blk_frozen BK681.out 0; have hfz30_1 := blk_frozen BK681.out 1; have hfz30_2 := blk_frozen BK681.out 2) | (go_at_call 91; (with_reducible refine (impl_Board_has.calls k1 a0_0 a0_1 _ _ l0_2 x17_1 false _ ?side1 ?side2 A17.out).mono ?_); (case side1 => exact zac2); (case side2 => exact HC0_2.out); rintro e w31 ⟨rfl, hb⟩; have n0_ := Aside0.mk (blk_below (g := gb681) (o := .cells #[.int .i64 a0_0, .int .i64 a0_1, .slice A0_2 l0_2.length c0_2] 30 (0, 0)) zac8 hb); have n1_ := Aside0.mk (below_step zac5 hb); clear BK681; clear HB; have BK681 := n0_; have HB := n1_; clear n0_ n1_; (try clear hb); (try clear hb2); (try clear hk); (try clear hi); (try clear hna_); (try clear hnb_)))
    go_ret
    exact ⟨zac13, zac5⟩
   rw [if_pos c23] at H
   have c23b0 : ((rd l1 x17_1) == (-1)) = true := beq_iff_eq.mpr c23
   have c23b1 : ((rd l1 x17_1) != (-1)) = false := bne_eq_false_iff_eq.mpr c23
   clear c23
   have H' := Aside0.mk H
   clear H
   have p682 : 0 ≤ (x17_1 : Int) := of_decide_eq_true zac10
   have q682 : x17_1 < (l1.length : Int) := of_decide_eq_true zac10
   obtain ⟨ad682, e682, hx682_0⟩ := Kd.at_int HR1.out x17_1 p682 q682
   cases e682
   (first | replace hx682_0 := (HB.out.cell (World.block_lt_of_cell? w _ hx682_0)).trans hx682_0 | skip)
   replace p682 := eq_true p682
   replace q682 := eq_true q682
   have hcz24_0 : wr.cell? ⟨gb681, 0, none⟩ = some (.int .i64 a0_0) := (blk_cell BK681.out 0).trans rfl
   have hcz24_1 : wr.cell? ⟨gb681, 1, none⟩ = some (.int .i64 a0_1) := (blk_cell BK681.out 1).trans rfl
   have hcz24_2 : wr.cell? ⟨gb681, 2, none⟩ = some (.slice A0_2 l0_2.length c0_2) := (blk_cell BK681.out 2).trans rfl
   have hfz24_0 := blk_frozen BK681.out 0
   have hfz24_1 := blk_frozen BK681.out 1
   have hfz24_2 := blk_frozen BK681.out 2
   go_wp2_with (first | ((with_reducible refine gate_callee (f := 91) rfl ?_); refine goesL_ (some 24) rfl rfl Try.func91 (by kernel_rfl) rfl #[.agg #[.int .i64 a0_0, .int .i64 a0_1, .slice A0_2 l0_2.length c0_2], .int .i64 x17_1] rfl zac12 ?_; (with_reducible refine (impl_Board_has.calls k1 a0_0 a0_1 _ _ l0_2 x17_1 true _ ?side1 ?side2 A9.out).mono ?_); (case side1 => exact zac2); (case side2 => exact HC0_2.out); rintro e w25 ⟨rfl, hb⟩; refine ⟨_, rfl, ?_⟩; have n0_ := Aside0.mk (blk_below (g := gb681) (o := .cells #[.int .i64 a0_0, .int .i64 a0_1, .slice A0_2 l0_2.length c0_2] 30 (0, 0)) zac8 hb); have n1_ := Aside0.mk (below_step zac5 hb); clear BK681; clear HB; have BK681 := n0_; have HB := n1_; clear n0_ n1_; (try clear hb); (try clear hb2); (try clear hk); (try clear hi); (try clear hna_); (try clear hnb_); have hcz26_0 : w25.cell? ⟨gb681, 0, none⟩ = some (.int .i64 a0_0) := (blk_cell BK681.out 0).trans rfl; have hcz26_1 : w25.cell? ⟨gb681, 1, none⟩ = some (.int .i64 a0_1) := (blk_cell BK681.out 1).trans rfl; have hcz26_2 : w25.cell? ⟨gb681, 2, none⟩ = some (.slice A0_2 l0_2.length c0_2) := (blk_cell BK681.out 2).trans rfl; have hfz26_0 := blk_frozen BK681.out 0; have hfz26_1 := blk_frozen BK681.out 1; have hfz26_2 := blk_frozen BK681.out 2) | (go_at_call 91; (with_reducible refine (impl_Board_has.calls k1 a0_0 a0_1 _ _ l0_2 x17_1 false _ ?side1 ?side2 A17.out).mono ?_); (case side1 => exact zac2); (case side2 => exact HC0_2.out); rintro e w27 ⟨rfl, hb⟩; have n0_ := Aside0.mk (blk_below (g := gb681) (o := .cells #[.int .i64 a0_0, .int .i64 a0_1, .slice A0_2 l0_2.length c0_2] 30 (0, 0)) zac8 hb); have n1_ := Aside0.mk (below_step zac5 hb); clear BK681; clear HB; have BK681 := n0_; have HB := n1_; clear n0_ n1_; (try clear hb); (try clear hb2); (try clear hk); (try clear hi); (try clear hna_); (try clear hnb_)))
   go_roundg k1
   case measure => have := HK1.out; omega
   case rel => exact ⟨(wrap64 (x17_1 + 1)), zac14, H', ⟨by have := HK1.out; omega⟩, ⟨zac8⟩, ⟨zac5⟩⟩

end Go.Proofs.Ytbecdckdbeoomaa.Q

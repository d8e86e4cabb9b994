/- Written by a program of this session: functions of the translation as plain Lean functions, each with a proof that the call does what the plain function says; the conditions stand in each theorem. -/
import Derived.Test.YtjeongckkfkehaaQ0
import Derived.Test.YtjeongckkfkehaaQ1
import Derived.Test.YtjeongckkfkehaaQ4
import Derived.Test.YtjeongckkfkehaaQ7
import Derived.Test.YtjeongckkfkehaaQ38
import Derived.Test.YtjeongckkfkehaaQ48
import Derived.Test.YtjeongckkfkehaaHSort
namespace Go.Proofs.Ytjeongckkfkehaa.Q
open Go.RowKit Go.Proofs.YtjeongckkfkehaaW.PrintWords Go.Proofs.YtjeongckkfkehaaW.PrintLast Go.Proofs.YtjeongckkfkehaaW.PrintMore
attribute [local go_sem] max2_int min2_int max_two min_two max_three min_three max_four min_four   -- for this text's walks alone
set_option linter.unusedVariables false
set_option linter.unusedSimpArgs false

theorem zax1 {p : Prop} (h : p := by repeat (first | (with_reducible first | exact HB.out | apply below_alloc | apply pw_below_drewN | apply below_drew1 | refine below_set ?_ GE1438.out | refine below_set ?_ GE1439.out) | exact HB.out)) : p := h
theorem zax2 {p : Prop} (h : p := by first | exact BK1438.out | ((with_reducible repeat (first | refine blk_drewN ?_ _ | refine blk_drew ?_ | refine blk_alloc ?_ _)); exact BK1438.out)) : p := h
theorem zax3 {p : Prop} (h : p := by repeat (first | (with_reducible first | exact HB.out | apply below_alloc | apply pw_below_drewN | apply below_drew1) | exact HB.out)) : p := h
theorem zax4 {p : Prop} (h : p := by repeat (first | exact (Kd.C_below HR0_2.out HB.out) | (with_reducible refine Kd.C_alloc ?_ _) | (with_reducible refine Kd.C_drewN ?_ _) | (with_reducible refine Kd.C_drew ?_))) : p := h
theorem zax5 {p : Prop} (h : p := by repeat (first | (with_reducible first | exact HB.out | apply below_alloc | apply pw_below_drewN | apply below_drew1 | refine below_set ?_ GE1438.out | refine below_set ?_ GE1439.out | refine below_set ?_ GE1446.out) | exact HB.out)) : p := h
theorem zax6 {p : Prop} (h : p := by repeat (first | (with_reducible first | exact HB.out | apply below_alloc | apply pw_below_drewN | apply below_drew1 | refine below_set ?_ GE1422.out | refine below_set ?_ GE1423.out) | exact HB.out)) : p := h
theorem zax7 {p : Prop} (h : p := by repeat (first | (with_reducible first | exact HB.out | apply below_alloc | apply pw_below_drewN | apply below_drew1 | refine below_set ?_ GE1438.out) | exact HB.out)) : p := h
theorem zax8 {p : Prop} (h : p := by first | exact BK1439.out | ((with_reducible repeat (first | refine blk_drewN ?_ _ | refine blk_drew ?_ | refine blk_alloc ?_ _)); exact BK1439.out)) : p := h
theorem zax9 {p : Prop} (h : p := by first | exact BK1422.out | ((with_reducible repeat (first | refine blk_drewN ?_ _ | refine blk_drew ?_ | refine blk_alloc ?_ _)); exact BK1422.out)) : p := h
theorem zax10 {p : Prop} (h : p := by first | exact BK1446.out | ((with_reducible repeat (first | refine blk_drewN ?_ _ | refine blk_drew ?_ | refine blk_alloc ?_ _)); exact BK1446.out)) : p := h
theorem zax11 {p : Prop} (h : p := by repeat (first | exact (Kd.C_below HR2.out HB.out) | (with_reducible refine Kd.C_alloc ?_ _) | (with_reducible refine Kd.C_drewN ?_ _) | (with_reducible refine Kd.C_drew ?_))) : p := h
theorem zax12 {p : Prop} (h : p := by repeat (first | (with_reducible first | exact HB.out | apply below_alloc | apply pw_below_drewN | apply below_drew1 | refine below_set ?_ GE1422.out) | exact HB.out)) : p := h
theorem zax14 {p : Prop} (h : p := by repeat (first | exact (Kd.S_reads' HO1445.out).2.2 | (with_reducible refine Kd.C_alloc ?_ _) | (with_reducible refine Kd.C_drewN ?_ _) | (with_reducible refine Kd.C_drew ?_))) : p := h
theorem zax15 {p : Prop} (h : p := by repeat (first | exact (Kd.R_reads' HO1442.out).2.2 | (with_reducible refine Kd.C_alloc ?_ _) | (with_reducible refine Kd.C_drewN ?_ _) | (with_reducible refine Kd.C_drew ?_))) : p := h
theorem zax16 {p : Prop} (h : p := by (try simp only [List.map_toArray, List.map_cons, List.map_nil]); first | done | rfl | (simp only [List.length_drop, List.length_take]; rfl)) : p := h
theorem zax17 {p : Prop} (h : p := by first | exact BK1423.out | ((with_reducible repeat (first | refine blk_drewN ?_ _ | refine blk_drew ?_ | refine blk_alloc ?_ _)); exact BK1423.out)) : p := h
theorem zax18 {p : Prop} (h : p := by first | exact Kd.R_nil _ _ _ _ _ | exact Kd.N_nil _ _ _ _ _ | exact Kd.V_nil _ _ _ _ _ | exact Kd.Q_nil _ _ _ _ _ | exact Kd.S_nil _ _ _ _ _) : p := h
theorem zax19 {p : Prop} (h : p := by first | exact HO1442.out | ((with_reducible repeat (first | apply Kd.R_alloc | apply Kd.R_drewN | apply Kd.R_drew)); exact HO1442.out)) : p := h
theorem zax20 {p : Prop} (h : p := by first | (with_reducible assumption) | assumption) : p := h
theorem zax21 {p : Prop} (h : p := by first | rfl | (simp [errW_none, errW_some] <;> rfl) | (simp [*, errW_none, errW_some] <;> rfl)) : p := h
theorem zax22 {p : Prop} (h : p := by first | exact HO1445.out | ((with_reducible repeat (first | apply Kd.S_alloc | apply Kd.S_drewN | apply Kd.S_drew)); exact HO1445.out)) : p := h
theorem zax23 {p : Prop} (h : p := by repeat (first | exact HR0_6.out | (with_reducible refine Kd.C_alloc ?_ _) | (with_reducible refine Kd.C_drewN ?_ _) | (with_reducible refine Kd.C_drew ?_))) : p := h
theorem zax24 {p : Prop} (h : p := by repeat (first | exact HR0_5.out | (with_reducible refine Kd.C_alloc ?_ _) | (with_reducible refine Kd.C_drewN ?_ _) | (with_reducible refine Kd.C_drew ?_))) : p := h
theorem zax25 {p : Prop} (h : p := by repeat (first | exact HR0_2.out | (with_reducible refine Kd.C_alloc ?_ _) | (with_reducible refine Kd.C_drewN ?_ _) | (with_reducible refine Kd.C_drew ?_))) : p := h
theorem zax26 {p : Prop} (h : p := by first | exact BK0.out | ((with_reducible repeat (first | refine blk_drewN ?_ _ | refine blk_drew ?_ | refine blk_alloc ?_ _)); exact BK0.out)) : p := h
theorem zax27 {p : Prop} (h : p := by (try simp only [List.map_toArray, List.map_cons, List.map_nil]); first | done | (rw [show (l2.drop (a3 : Int).toNat).length = (l2.length - a3.toNat) from List.length_drop] <;> rfl) | rfl | (simp only [List.length_drop, List.length_take]; rfl)) : p := h
theorem zax28 {p : Prop} (h : p := by rw [hg]; exact Nat.ne_of_lt (blk_lt (g := gb1438) (o := .cells #[.int .i64 a0_0, .int .i64 a0_1, .slice A0_2 l0_2.length c0_2] 30 (0, 0)) zax2)) : p := h
theorem zax29 {p : Prop} (h : p := by rw [hg]; exact Nat.ne_of_gt (blk_lt (g := gb1438) (o := .cells #[.int .i64 a0_0, .int .i64 a0_1, .slice A0_2 l0_2.length c0_2] 30 (0, 0)) zax2)) : p := h
theorem zax30 {p : Prop} (h : p := by rw [hg]; exact (below_size zax3)) : p := h
theorem zax31 {p : Prop} (h : p := by rw [hg]; exact Nat.ne_of_lt (blk_lt (g := gb1422) (o := .cells #[.int .i64 a0_0, .int .i64 a0_1, .slice A0_2 l0_2.length c0_2] 30 (0, 0)) zax9)) : p := h
theorem zax32 {p : Prop} (h : p := by rw [hg]; exact Nat.ne_of_gt (blk_lt (g := gb1422) (o := .cells #[.int .i64 a0_0, .int .i64 a0_1, .slice A0_2 l0_2.length c0_2] 30 (0, 0)) zax9)) : p := h
theorem zax33 {p : Prop} (h : p := by rw [hg]; exact (below_size zax7)) : p := h
theorem zax34 {p : Prop} (h : p := by rw [hg]; exact (below_size zax12)) : p := h
theorem zax35 {p : Prop} (h : p := by exact (below_size zax1)) : p := h
/-! ### spec_SpinTour: function 46 -/
def spec_SpinTour.f (k : Nat) (a0_0 : Int) (a0_1 : Int) (l0_2 : List Int) (a1_0 : Int) (a1_1 : Int) (l2 : List Int) (a3 : Int) : Option (List Int × Bool) := (spec_boTwo.f k a0_0 a0_1 l0_2 a1_0 a1_1).bind fun t1424 => (if t1424 = true then ((spec_toClosed.f k a0_0 a0_1 l0_2 a1_0 a1_1 l2).bind fun t1425 => (if t1425 = true then ((spec_l1In.f a3 0 (wrap64 ((l2.length : Int) - 1))).bind fun t1426 => (if t1426 = true then (if 0 ≤ a3 then (if a3 ≤ (l2.length : Int) then ((spec_l1Own.f (l2.drop (a3 : Int).toNat)).bind fun t1428 => (if t1428.length + (l2.take (a3 : Int).toNat).length < 17592186044416 then (some ((t1428 ++ (l2.take (a3 : Int).toNat)), true)) else (none))) else (none)) else (none)) else (some (([] : List Int), false)))) else (some (([] : List Int), false)))) else (some (([] : List Int), false)))
def spec_SpinTour.T3 : Bool × List (List Nat × List Nat) := (true, [([], []), ([], []), ([0, 1], [0, 1]), ([2], [2]), ([], []), ([], []), ([4, 5], [4, 5]), ([3, 6, 3], [3, 6]), ([7, 7, 0, 1, 2, 3, 4, 5, 6, 7], [7]), ([8, 0, 1, 2, 3, 4, 5, 6, 7, 8], [])])
def spec_SpinTour.B3 : List Nat := [0, 0, 3, 7, 0, 0, 48, 127, 255, 511]
theorem spec_SpinTour.tab3 : rtab .any (opsOf Try.f46 3) = spec_SpinTour.T3 := by kernel_rfl
theorem spec_SpinTour.bits3 : waitsOk spec_SpinTour.T3.2 spec_SpinTour.B3 = true := by kernel_rfl
set_option maxHeartbeats 8000000 in
set_option maxRecDepth 100000 in
theorem spec_SpinTour.calls (k : Nat) (a0_0 : Int) (a0_1 : Int) (A0_2 : Option Addr) (c0_2 : Nat) (l0_2 : List Int) (a1_0 : Int) (a1_1 : Int) (A2 : Option Addr) (c2 : Nat) (l2 : List Int) (a3 : Int) (r1 : List Int) (r2 : Bool) (w : World) (hr0_2 : Kd.C (Kd.int .i64) w A0_2 l0_2.length l0_2) (hc0_2 : l0_2.length ≤ c0_2) (hr2 : Kd.C (Kd.int .i64) w A2 l2.length l2) (hc2 : l2.length ≤ c2) (h : spec_SpinTour.f k a0_0 a0_1 l0_2 a1_0 a1_1 l2 a3 = some (r1, r2)) :
  Calls Try.prog 46 #[.agg #[.int .i64 a0_0, .int .i64 a0_1, .slice A0_2 l0_2.length c0_2], .agg #[.int .i64 a1_0, .int .i64 a1_1], .slice A2 l2.length c2, .int .i64 a3] w fun e w' => ∃ v0_ : Value, e = .returned (.tuple #[v0_, .bool r2]) ∧ Kd.R (Kd.int .i64) 3 w' w.heap.size (fun _ => True) v0_ r1 ∧ Below w.heap.size w w' := by
 have hu30 := Try.underlying30
 have hu32 := Try.underlying32
 have HR0_2 := Aside0.mk hr0_2
 have HC0_2 := Aside0.mk hc0_2
 clear hr0_2 hc0_2
 have HR2 := Aside0.mk hr2
 have HC2 := Aside0.mk hc2
 clear hr2 hc2
 have HB := Aside0.mk (Below.refl w.heap.size w)
 have H : ((spec_boTwo.f k a0_0 a0_1 l0_2 a1_0 a1_1).bind fun t1424 => (if t1424 = true then ((spec_toClosed.f k a0_0 a0_1 l0_2 a1_0 a1_1 l2).bind fun t1425 => (if t1425 = true then ((spec_l1In.f a3 0 (wrap64 ((l2.length : Int) - 1))).bind fun t1426 => (if t1426 = true then (if 0 ≤ a3 then (if a3 ≤ (l2.length : Int) then ((spec_l1Own.f (l2.drop (a3 : Int).toNat)).bind fun t1428 => (if t1428.length + (l2.take (a3 : Int).toNat).length < 17592186044416 then (some ((t1428 ++ (l2.take (a3 : Int).toNat)), true)) else (none))) else (none)) else (none)) else (some (([] : List Int), false)))) else (some (([] : List Int), false)))) else (some (([] : List Int), false)))) = some (r1, r2) := h
 clear h
 replace H := Option.bind_eq_some_iff.mp H
 obtain ⟨t1424, A50, H⟩ := H
 replace H : (if t1424 = true then ((spec_toClosed.f k a0_0 a0_1 l0_2 a1_0 a1_1 l2).bind fun t1425 => (if t1425 = true then ((spec_l1In.f a3 0 (wrap64 ((l2.length : Int) - 1))).bind fun t1426 => (if t1426 = true then (if 0 ≤ a3 then (if a3 ≤ (l2.length : Int) then ((spec_l1Own.f (l2.drop (a3 : Int).toNat)).bind fun t1428 => (if t1428.length + (l2.take (a3 : Int).toNat).length < 17592186044416 then (some ((t1428 ++ (l2.take (a3 : Int).toNat)), true)) else (none))) else (none)) else (none)) else (some (([] : List Int), false)))) else (some (([] : List Int), false)))) else (some (([] : List Int), false))) = some (r1, r2) := H
 have A5 := Aside0.mk A50
 clear A50
 by_cases c6 : t1424 = true
 rotate_left
 ·replace c6 := Bool.eq_false_iff.mpr c6
  subst c6
  have H1 : (some (([] : List Int), false)) = some (r1, r2) := by rw [if_neg (show ¬ (false = true) by decide)] at H; exact H
  clear H
  have H := H1
  clear H1
  simp only [Option.some.injEq, Prod.mk.injEq] at H
  obtain ⟨rfl, rfl⟩ := H
  go_enter Try.func46, Try.ntmps46
  go_wp2_with (first | ((with_reducible refine gate_dst (N := 4) rfl ?_); (try (refine gate_guard (by rfl) ?_; dsimp only)); refine box_event ?hg (N := 4) ?hd (cs := #[.int .i64 a0_0, .int .i64 a0_1, .slice A0_2 l0_2.length c0_2]) (t := 30) ?hr ?_; (case hd => rfl); (case hg => rfl); (case hr => first | (go_simp; done) | (go_simp; rfl)); intro gb1422 hg w49 hbox hb; have n0_ := Aside0.mk (below_step zax3 hb); have n1_ := Aside0.mk (hbox); have n2_ := Aside0.mk ((zax30 : w.heap.size ≤ gb1422)); have n3_ := Aside0.mk ((zax30 : w.heap.size ≤ gb1422)); clear HB; have HB := n0_; have BK1422 := n1_; have GW1422 := n2_; have GE1422 := n3_; clear n0_ n1_ n2_ n3_; clear hb hbox hg) | ((with_reducible refine gate_dst (N := 5) rfl ?_); (try (refine gate_guard (by rfl) ?_; dsimp only)); refine box_event ?hg (N := 5) ?hd (cs := #[.int .i64 a1_0, .int .i64 a1_1]) (t := 32) ?hr ?_; (case hd => rfl); (case hg => rfl); (case hr => first | (go_simp; done) | (go_simp; rfl)); intro gb1423 hg w50 hbox hb; have n0_ := Aside0.mk (blk_below (g := gb1422) (o := .cells #[.int .i64 a0_0, .int .i64 a0_1, .slice A0_2 l0_2.length c0_2] 30 (0, 0)) zax9 hb); have n1_ := Aside0.mk (below_step zax12 hb); have n2_ := Aside0.mk (hbox); have n3_ := Aside0.mk ((zax34 : w.heap.size ≤ gb1423)); have n4_ := Aside0.mk ((zax34 : w.heap.size ≤ gb1423)); have n5_ := Aside0.mk ((zax31 : gb1422 ≠ gb1423)); have n6_ := Aside0.mk ((zax32 : gb1423 ≠ gb1422)); clear BK1422; clear HB; have BK1422 := n0_; have HB := n1_; have BK1423 := n2_; have GW1423 := n3_; have GE1423 := n4_; have NB1422_1423 := n5_; have NB1423_1422 := n6_; clear n0_ n1_ n2_ n3_ n4_ n5_ n6_; clear hb hbox hg; have hnb51 := NB1422_1423.out; have hnc51 := NB1423_1422.out; have hcz52_0 : w50.cell? ⟨gb1422, 0, none⟩ = some (.int .i64 a0_0) := (blk_cell BK1422.out 0).trans rfl; have hcz52_1 : w50.cell? ⟨gb1422, 1, none⟩ = some (.int .i64 a0_1) := (blk_cell BK1422.out 1).trans rfl; have hcz52_2 : w50.cell? ⟨gb1422, 2, none⟩ = some (.slice A0_2 l0_2.length c0_2) := (blk_cell BK1422.out 2).trans rfl; have hfz52_0 := blk_frozen BK1422.out 0; have hfz52_1 := blk_frozen BK1422.out 1; have hfz52_2 := blk_frozen BK1422.out 2; have hcz53_0 : w50.cell? ⟨gb1423, 0, none⟩ = some (.int .i64 a1_0) := (blk_cell BK1423.out 0).trans rfl; have hcz53_1 : w50.cell? ⟨gb1423, 1, none⟩ = some (.int .i64 a1_1) := (blk_cell BK1423.out 1).trans rfl; have hfz53_0 := blk_frozen BK1423.out 0; have hfz53_1 := blk_frozen BK1423.out 1) | ((with_reducible refine gate_callee (f := 53) rfl ?_); refine goesL_ (some 12) rfl rfl Try.func53 (by kernel_rfl) rfl #[.agg #[.int .i64 a0_0, .int .i64 a0_1, .slice A0_2 l0_2.length c0_2], .agg #[.int .i64 a1_0, .int .i64 a1_1]] rfl zax16 ?_; (with_reducible refine (spec_boTwo.calls k a0_0 a0_1 _ _ l0_2 a1_0 a1_1 false _ ?side1 ?side2 A5.out).mono ?_); (case side1 => exact zax4); (case side2 => exact HC0_2.out); rintro e w54 ⟨rfl, hb⟩; refine ⟨_, rfl, ?_⟩; have n0_ := Aside0.mk (blk_below (g := gb1422) (o := .cells #[.int .i64 a0_0, .int .i64 a0_1, .slice A0_2 l0_2.length c0_2] 30 (0, 0)) zax9 hb); have n1_ := Aside0.mk (blk_below (g := gb1423) (o := .cells #[.int .i64 a1_0, .int .i64 a1_1] 32 (0, 0)) zax17 hb); have n2_ := Aside0.mk (below_step zax6 hb); clear BK1422; clear BK1423; clear HB; have BK1422 := n0_; have BK1423 := n1_; have HB := n2_; clear n0_ n1_ n2_; (try clear hb); (try clear hb2); (try clear hk); (try clear hi); (try clear hna_); (try clear hnb_)))
  go_ret2
  exact ⟨_, zax21, zax18, zax6⟩
 subst c6
 have H1 : ((spec_toClosed.f k a0_0 a0_1 l0_2 a1_0 a1_1 l2).bind fun t1425 => (if t1425 = true then ((spec_l1In.f a3 0 (wrap64 ((l2.length : Int) - 1))).bind fun t1426 => (if t1426 = true then (if 0 ≤ a3 then (if a3 ≤ (l2.length : Int) then ((spec_l1Own.f (l2.drop (a3 : Int).toNat)).bind fun t1428 => (if t1428.length + (l2.take (a3 : Int).toNat).length < 17592186044416 then (some ((t1428 ++ (l2.take (a3 : Int).toNat)), true)) else (none))) else (none)) else (none)) else (some (([] : List Int), false)))) else (some (([] : List Int), false)))) = some (r1, r2) := by rw [if_pos rfl] at H; exact H
 clear H
 have H := H1
 clear H1
 replace H := Option.bind_eq_some_iff.mp H
 obtain ⟨t1425, A70, H⟩ := H
 replace H : (if t1425 = true then ((spec_l1In.f a3 0 (wrap64 ((l2.length : Int) - 1))).bind fun t1426 => (if t1426 = true then (if 0 ≤ a3 then (if a3 ≤ (l2.length : Int) then ((spec_l1Own.f (l2.drop (a3 : Int).toNat)).bind fun t1428 => (if t1428.length + (l2.take (a3 : Int).toNat).length < 17592186044416 then (some ((t1428 ++ (l2.take (a3 : Int).toNat)), true)) else (none))) else (none)) else (none)) else (some (([] : List Int), false)))) else (some (([] : List Int), false))) = some (r1, r2) := H
 have A7 := Aside0.mk A70
 clear A70
 by_cases c8 : t1425 = true
 rotate_left
 ·replace c8 := Bool.eq_false_iff.mpr c8
  subst c8
  have H1 : (some (([] : List Int), false)) = some (r1, r2) := by rw [if_neg (show ¬ (false = true) by decide)] at H; exact H
  clear H
  have H := H1
  clear H1
  simp only [Option.some.injEq, Prod.mk.injEq] at H
  obtain ⟨rfl, rfl⟩ := H
  go_enter Try.func46, Try.ntmps46
  go_wp2_with (first | ((with_reducible refine gate_dst (N := 4) rfl ?_); (try (refine gate_guard (by rfl) ?_; dsimp only)); refine box_event ?hg (N := 4) ?hd (cs := #[.int .i64 a0_0, .int .i64 a0_1, .slice A0_2 l0_2.length c0_2]) (t := 30) ?hr ?_; (case hd => rfl); (case hg => rfl); (case hr => first | (go_simp; done) | (go_simp; rfl)); intro gb1422 hg w40 hbox hb; have n0_ := Aside0.mk (below_step zax3 hb); have n1_ := Aside0.mk (hbox); have n2_ := Aside0.mk ((zax30 : w.heap.size ≤ gb1422)); have n3_ := Aside0.mk ((zax30 : w.heap.size ≤ gb1422)); clear HB; have HB := n0_; have BK1422 := n1_; have GW1422 := n2_; have GE1422 := n3_; clear n0_ n1_ n2_ n3_; clear hb hbox hg) | ((with_reducible refine gate_dst (N := 5) rfl ?_); (try (refine gate_guard (by rfl) ?_; dsimp only)); refine box_event ?hg (N := 5) ?hd (cs := #[.int .i64 a1_0, .int .i64 a1_1]) (t := 32) ?hr ?_; (case hd => rfl); (case hg => rfl); (case hr => first | (go_simp; done) | (go_simp; rfl)); intro gb1423 hg w41 hbox hb; have n0_ := Aside0.mk (blk_below (g := gb1422) (o := .cells #[.int .i64 a0_0, .int .i64 a0_1, .slice A0_2 l0_2.length c0_2] 30 (0, 0)) zax9 hb); have n1_ := Aside0.mk (below_step zax12 hb); have n2_ := Aside0.mk (hbox); have n3_ := Aside0.mk ((zax34 : w.heap.size ≤ gb1423)); have n4_ := Aside0.mk ((zax34 : w.heap.size ≤ gb1423)); have n5_ := Aside0.mk ((zax31 : gb1422 ≠ gb1423)); have n6_ := Aside0.mk ((zax32 : gb1423 ≠ gb1422)); clear BK1422; clear HB; have BK1422 := n0_; have HB := n1_; have BK1423 := n2_; have GW1423 := n3_; have GE1423 := n4_; have NB1422_1423 := n5_; have NB1423_1422 := n6_; clear n0_ n1_ n2_ n3_ n4_ n5_ n6_; clear hb hbox hg; have hnb42 := NB1422_1423.out; have hnc42 := NB1423_1422.out; have hcz43_0 : w41.cell? ⟨gb1422, 0, none⟩ = some (.int .i64 a0_0) := (blk_cell BK1422.out 0).trans rfl; have hcz43_1 : w41.cell? ⟨gb1422, 1, none⟩ = some (.int .i64 a0_1) := (blk_cell BK1422.out 1).trans rfl; have hcz43_2 : w41.cell? ⟨gb1422, 2, none⟩ = some (.slice A0_2 l0_2.length c0_2) := (blk_cell BK1422.out 2).trans rfl; have hfz43_0 := blk_frozen BK1422.out 0; have hfz43_1 := blk_frozen BK1422.out 1; have hfz43_2 := blk_frozen BK1422.out 2; have hcz44_0 : w41.cell? ⟨gb1423, 0, none⟩ = some (.int .i64 a1_0) := (blk_cell BK1423.out 0).trans rfl; have hcz44_1 : w41.cell? ⟨gb1423, 1, none⟩ = some (.int .i64 a1_1) := (blk_cell BK1423.out 1).trans rfl; have hfz44_0 := blk_frozen BK1423.out 0; have hfz44_1 := blk_frozen BK1423.out 1) | ((with_reducible refine gate_callee (f := 53) rfl ?_); refine goesL_ (some 12) rfl rfl Try.func53 (by kernel_rfl) rfl #[.agg #[.int .i64 a0_0, .int .i64 a0_1, .slice A0_2 l0_2.length c0_2], .agg #[.int .i64 a1_0, .int .i64 a1_1]] rfl zax16 ?_; (with_reducible refine (spec_boTwo.calls k a0_0 a0_1 _ _ l0_2 a1_0 a1_1 true _ ?side1 ?side2 A5.out).mono ?_); (case side1 => exact zax4); (case side2 => exact HC0_2.out); rintro e w45 ⟨rfl, hb⟩; refine ⟨_, rfl, ?_⟩; have n0_ := Aside0.mk (blk_below (g := gb1422) (o := .cells #[.int .i64 a0_0, .int .i64 a0_1, .slice A0_2 l0_2.length c0_2] 30 (0, 0)) zax9 hb); have n1_ := Aside0.mk (blk_below (g := gb1423) (o := .cells #[.int .i64 a1_0, .int .i64 a1_1] 32 (0, 0)) zax17 hb); have n2_ := Aside0.mk (below_step zax6 hb); clear BK1422; clear BK1423; clear HB; have BK1422 := n0_; have BK1423 := n1_; have HB := n2_; clear n0_ n1_ n2_; (try clear hb); (try clear hb2); (try clear hk); (try clear hi); (try clear hna_); (try clear hnb_); have hcz46_0 : w45.cell? ⟨gb1422, 0, none⟩ = some (.int .i64 a0_0) := (blk_cell BK1422.out 0).trans rfl; have hcz46_1 : w45.cell? ⟨gb1422, 1, none⟩ = some (.int .i64 a0_1) := (blk_cell BK1422.out 1).trans rfl; have hcz46_2 : w45.cell? ⟨gb1422, 2, none⟩ = some (.slice A0_2 l0_2.length c0_2) := (blk_cell BK1422.out 2).trans rfl; have hfz46_0 := blk_frozen BK1422.out 0; have hfz46_1 := blk_frozen BK1422.out 1; have hfz46_2 := blk_frozen BK1422.out 2; have hcz47_0 : w45.cell? ⟨gb1423, 0, none⟩ = some (.int .i64 a1_0) := (blk_cell BK1423.out 0).trans rfl; have hcz47_1 : w45.cell? ⟨gb1423, 1, none⟩ = some (.int .i64 a1_1) := (blk_cell BK1423.out 1).trans rfl; have hfz47_0 := blk_frozen BK1423.out 0; have hfz47_1 := blk_frozen BK1423.out 1) | (go_at_call 84; (with_reducible refine (spec_toClosed.calls k a0_0 a0_1 _ _ l0_2 a1_0 a1_1 _ _ l2 false _ ?side1 ?side2 ?side3 ?side4 A7.out).mono ?_); (case side1 => exact zax4); (case side2 => exact HC0_2.out); (case side3 => exact zax11); (case side4 => exact HC2.out); rintro e w48 ⟨rfl, hb⟩; have n0_ := Aside0.mk (blk_below (g := gb1422) (o := .cells #[.int .i64 a0_0, .int .i64 a0_1, .slice A0_2 l0_2.length c0_2] 30 (0, 0)) zax9 hb); have n1_ := Aside0.mk (blk_below (g := gb1423) (o := .cells #[.int .i64 a1_0, .int .i64 a1_1] 32 (0, 0)) zax17 hb); have n2_ := Aside0.mk (below_step zax6 hb); clear BK1422; clear BK1423; clear HB; have BK1422 := n0_; have BK1423 := n1_; have HB := n2_; clear n0_ n1_ n2_; (try clear hb); (try clear hb2); (try clear hk); (try clear hi); (try clear hna_); (try clear hnb_)))
  go_ret2
  exact ⟨_, zax21, zax18, zax6⟩
 subst c8
 have H1 : ((spec_l1In.f a3 0 (wrap64 ((l2.length : Int) - 1))).bind fun t1426 => (if t1426 = true then (if 0 ≤ a3 then (if a3 ≤ (l2.length : Int) then ((spec_l1Own.f (l2.drop (a3 : Int).toNat)).bind fun t1428 => (if t1428.length + (l2.take (a3 : Int).toNat).length < 17592186044416 then (some ((t1428 ++ (l2.take (a3 : Int).toNat)), true)) else (none))) else (none)) else (none)) else (some (([] : List Int), false)))) = some (r1, r2) := by rw [if_pos rfl] at H; exact H
 clear H
 have H := H1
 clear H1
 replace H := Option.bind_eq_some_iff.mp H
 obtain ⟨t1426, A90, H⟩ := H
 replace H : (if t1426 = true then (if 0 ≤ a3 then (if a3 ≤ (l2.length : Int) then ((spec_l1Own.f (l2.drop (a3 : Int).toNat)).bind fun t1428 => (if t1428.length + (l2.take (a3 : Int).toNat).length < 17592186044416 then (some ((t1428 ++ (l2.take (a3 : Int).toNat)), true)) else (none))) else (none)) else (none)) else (some (([] : List Int), false))) = some (r1, r2) := H
 have A9 := Aside0.mk A90
 clear A90
 by_cases c10 : t1426 = true
 rotate_left
 ·replace c10 := Bool.eq_false_iff.mpr c10
  subst c10
  have H1 : (some (([] : List Int), false)) = some (r1, r2) := by rw [if_neg (show ¬ (false = true) by decide)] at H; exact H
  clear H
  have H := H1
  clear H1
  simp only [Option.some.injEq, Prod.mk.injEq] at H
  obtain ⟨rfl, rfl⟩ := H
  go_enter Try.func46, Try.ntmps46
  go_wp2_with (first | ((with_reducible refine gate_dst (N := 4) rfl ?_); (try (refine gate_guard (by rfl) ?_; dsimp only)); refine box_event ?hg (N := 4) ?hd (cs := #[.int .i64 a0_0, .int .i64 a0_1, .slice A0_2 l0_2.length c0_2]) (t := 30) ?hr ?_; (case hd => rfl); (case hg => rfl); (case hr => first | (go_simp; done) | (go_simp; rfl)); intro gb1422 hg w31 hbox hb; have n0_ := Aside0.mk (below_step zax3 hb); have n1_ := Aside0.mk (hbox); have n2_ := Aside0.mk ((zax30 : w.heap.size ≤ gb1422)); have n3_ := Aside0.mk ((zax30 : w.heap.size ≤ gb1422)); clear HB; have HB := n0_; have BK1422 := n1_; have GW1422 := n2_; have GE1422 := n3_; clear n0_ n1_ n2_ n3_; clear hb hbox hg) | ((with_reducible refine gate_dst (N := 5) rfl ?_); (try (refine gate_guard (by rfl) ?_; dsimp only)); refine box_event ?hg (N := 5) ?hd (cs := #[.int .i64 a1_0, .int .i64 a1_1]) (t := 32) ?hr ?_; (case hd => rfl); (case hg => rfl); (case hr => first | (go_simp; done) | (go_simp; rfl)); intro gb1423 hg w32 hbox hb; have n0_ := Aside0.mk (blk_below (g := gb1422) (o := .cells #[.int .i64 a0_0, .int .i64 a0_1, .slice A0_2 l0_2.length c0_2] 30 (0, 0)) zax9 hb); have n1_ := Aside0.mk (below_step zax12 hb); have n2_ := Aside0.mk (hbox); have n3_ := Aside0.mk ((zax34 : w.heap.size ≤ gb1423)); have n4_ := Aside0.mk ((zax34 : w.heap.size ≤ gb1423)); have n5_ := Aside0.mk ((zax31 : gb1422 ≠ gb1423)); have n6_ := Aside0.mk ((zax32 : gb1423 ≠ gb1422)); clear BK1422; clear HB; have BK1422 := n0_; have HB := n1_; have BK1423 := n2_; have GW1423 := n3_; have GE1423 := n4_; have NB1422_1423 := n5_; have NB1423_1422 := n6_; clear n0_ n1_ n2_ n3_ n4_ n5_ n6_; clear hb hbox hg; have hnb33 := NB1422_1423.out; have hnc33 := NB1423_1422.out; have hcz34_0 : w32.cell? ⟨gb1422, 0, none⟩ = some (.int .i64 a0_0) := (blk_cell BK1422.out 0).trans rfl; have hcz34_1 : w32.cell? ⟨gb1422, 1, none⟩ = some (.int .i64 a0_1) := (blk_cell BK1422.out 1).trans rfl; have hcz34_2 : w32.cell? ⟨gb1422, 2, none⟩ = some (.slice A0_2 l0_2.length c0_2) := (blk_cell BK1422.out 2).trans rfl; have hfz34_0 := blk_frozen BK1422.out 0; have hfz34_1 := blk_frozen BK1422.out 1; have hfz34_2 := blk_frozen BK1422.out 2; have hcz35_0 : w32.cell? ⟨gb1423, 0, none⟩ = some (.int .i64 a1_0) := (blk_cell BK1423.out 0).trans rfl; have hcz35_1 : w32.cell? ⟨gb1423, 1, none⟩ = some (.int .i64 a1_1) := (blk_cell BK1423.out 1).trans rfl; have hfz35_0 := blk_frozen BK1423.out 0; have hfz35_1 := blk_frozen BK1423.out 1) | ((with_reducible refine gate_callee (f := 53) rfl ?_); refine goesL_ (some 12) rfl rfl Try.func53 (by kernel_rfl) rfl #[.agg #[.int .i64 a0_0, .int .i64 a0_1, .slice A0_2 l0_2.length c0_2], .agg #[.int .i64 a1_0, .int .i64 a1_1]] rfl zax16 ?_; (with_reducible refine (spec_boTwo.calls k a0_0 a0_1 _ _ l0_2 a1_0 a1_1 true _ ?side1 ?side2 A5.out).mono ?_); (case side1 => exact zax4); (case side2 => exact HC0_2.out); rintro e w36 ⟨rfl, hb⟩; refine ⟨_, rfl, ?_⟩; have n0_ := Aside0.mk (blk_below (g := gb1422) (o := .cells #[.int .i64 a0_0, .int .i64 a0_1, .slice A0_2 l0_2.length c0_2] 30 (0, 0)) zax9 hb); have n1_ := Aside0.mk (blk_below (g := gb1423) (o := .cells #[.int .i64 a1_0, .int .i64 a1_1] 32 (0, 0)) zax17 hb); have n2_ := Aside0.mk (below_step zax6 hb); clear BK1422; clear BK1423; clear HB; have BK1422 := n0_; have BK1423 := n1_; have HB := n2_; clear n0_ n1_ n2_; (try clear hb); (try clear hb2); (try clear hk); (try clear hi); (try clear hna_); (try clear hnb_); have hcz37_0 : w36.cell? ⟨gb1422, 0, none⟩ = some (.int .i64 a0_0) := (blk_cell BK1422.out 0).trans rfl; have hcz37_1 : w36.cell? ⟨gb1422, 1, none⟩ = some (.int .i64 a0_1) := (blk_cell BK1422.out 1).trans rfl; have hcz37_2 : w36.cell? ⟨gb1422, 2, none⟩ = some (.slice A0_2 l0_2.length c0_2) := (blk_cell BK1422.out 2).trans rfl; have hfz37_0 := blk_frozen BK1422.out 0; have hfz37_1 := blk_frozen BK1422.out 1; have hfz37_2 := blk_frozen BK1422.out 2; have hcz38_0 : w36.cell? ⟨gb1423, 0, none⟩ = some (.int .i64 a1_0) := (blk_cell BK1423.out 0).trans rfl; have hcz38_1 : w36.cell? ⟨gb1423, 1, none⟩ = some (.int .i64 a1_1) := (blk_cell BK1423.out 1).trans rfl; have hfz38_0 := blk_frozen BK1423.out 0; have hfz38_1 := blk_frozen BK1423.out 1) | (go_at_call 84; (with_reducible refine (spec_toClosed.calls k a0_0 a0_1 _ _ l0_2 a1_0 a1_1 _ _ l2 true _ ?side1 ?side2 ?side3 ?side4 A7.out).mono ?_); (case side1 => exact zax4); (case side2 => exact HC0_2.out); (case side3 => exact zax11); (case side4 => exact HC2.out); rintro e w39 ⟨rfl, hb⟩; have n0_ := Aside0.mk (blk_below (g := gb1422) (o := .cells #[.int .i64 a0_0, .int .i64 a0_1, .slice A0_2 l0_2.length c0_2] 30 (0, 0)) zax9 hb); have n1_ := Aside0.mk (blk_below (g := gb1423) (o := .cells #[.int .i64 a1_0, .int .i64 a1_1] 32 (0, 0)) zax17 hb); have n2_ := Aside0.mk (below_step zax6 hb); clear BK1422; clear BK1423; clear HB; have BK1422 := n0_; have BK1423 := n1_; have HB := n2_; clear n0_ n1_ n2_; (try clear hb); (try clear hb2); (try clear hk); (try clear hi); (try clear hna_); (try clear hnb_)) | (go_at_call 85; (with_reducible refine (spec_l1In.calls a3 0 (wrap64 ((l2.length : Int) - 1)) false _ A9.out).mono ?_); rintro e w' ⟨rfl, ⟨nd, rfl⟩⟩))
  go_ret2
  exact ⟨_, zax21, zax18, zax6⟩
 subst c10
 have H1 : (if 0 ≤ a3 then (if a3 ≤ (l2.length : Int) then ((spec_l1Own.f (l2.drop (a3 : Int).toNat)).bind fun t1428 => (if t1428.length + (l2.take (a3 : Int).toNat).length < 17592186044416 then (some ((t1428 ++ (l2.take (a3 : Int).toNat)), true)) else (none))) else (none)) else (none)) = some (r1, r2) := by rw [if_pos rfl] at H; exact H
 clear H
 have H := H1
 clear H1
 by_cases c11 : 0 ≤ a3
 rotate_left
 ·rw [if_neg c11] at H
  exact absurd H (by simp)
 rw [if_pos c11] at H
 have c11b0 := eq_true c11
 have c11b1 : decide (0 ≤ a3) = true := decide_eq_true c11
 clear c11
 by_cases c12 : a3 ≤ (l2.length : Int)
 rotate_left
 ·rw [if_neg c12] at H
  exact absurd H (by simp)
 rw [if_pos c12] at H
 have c12b0 := eq_true c12
 have c12b1 : decide (a3 ≤ (l2.length : Int)) = true := decide_eq_true c12
 clear c12
 replace H := Option.bind_eq_some_iff.mp H
 obtain ⟨t1428, A130, H⟩ := H
 replace H : (if t1428.length + (l2.take (a3 : Int).toNat).length < 17592186044416 then (some ((t1428 ++ (l2.take (a3 : Int).toNat)), true)) else (none)) = some (r1, r2) := H
 have A13 := Aside0.mk A130
 clear A130
 have c14b0 := eq_true (of_decide_eq_true zax20 : 0 ≤ a3)
 have c15b0 := eq_true (of_decide_eq_true zax20 : a3 ≤ (l2.length : Int))
 by_cases c16 : t1428.length + (l2.take (a3 : Int).toNat).length < 17592186044416
 rotate_left
 ·rw [if_neg c16] at H
  exact absurd H (by simp)
 rw [if_pos c16] at H
 have LMc16 := Aside0.mk c16
 clear c16
 obtain ⟨y1432, hy1432⟩ : ∃ y_ : List Int, y_ = (t1428 ++ (l2.take (a3 : Int).toNat)) := ⟨_, rfl⟩
 replace H : (some (y1432, true)) = some (r1, r2) := by first | (rw [hy1432]; with_reducible exact H) | (have H2_ := (Option.bind_some _ _).symm.trans H; rw [hy1432]; with_reducible exact H2_) | (have H2_ := (Option.bind_some _ _).symm.trans H; with_reducible exact H2_) | with_reducible exact H | (rw [hy1432]; exact H) | exact H
 have Ny1432 := Aside0.mk hy1432
 clear hy1432
 simp only [Option.some.injEq, Prod.mk.injEq] at H
 obtain ⟨rfl, rfl⟩ := H
 go_enter Try.func46, Try.ntmps46
 try go_wp2_with (first | ((with_reducible refine gate_dst (N := 4) rfl ?_); (try (refine gate_guard (by rfl) ?_; dsimp only)); refine box_event ?hg (N := 4) ?hd (cs := #[.int .i64 a0_0, .int .i64 a0_1, .slice A0_2 l0_2.length c0_2]) (t := 30) ?hr ?_; (case hd => rfl); (case hg => rfl); (case hr => first | (go_simp; done) | (go_simp; rfl)); intro gb1422 hg w17 hbox hb; have n0_ := Aside0.mk (below_step zax3 hb); have n1_ := Aside0.mk (hbox); have n2_ := Aside0.mk ((zax30 : w.heap.size ≤ gb1422)); have n3_ := Aside0.mk ((zax30 : w.heap.size ≤ gb1422)); clear HB; have HB := n0_; have BK1422 := n1_; have GW1422 := n2_; have GE1422 := n3_; clear n0_ n1_ n2_ n3_; clear hb hbox hg) | ((with_reducible refine gate_dst (N := 5) rfl ?_); (try (refine gate_guard (by rfl) ?_; dsimp only)); refine box_event ?hg (N := 5) ?hd (cs := #[.int .i64 a1_0, .int .i64 a1_1]) (t := 32) ?hr ?_; (case hd => rfl); (case hg => rfl); (case hr => first | (go_simp; done) | (go_simp; rfl)); intro gb1423 hg w18 hbox hb; have n0_ := Aside0.mk (blk_below (g := gb1422) (o := .cells #[.int .i64 a0_0, .int .i64 a0_1, .slice A0_2 l0_2.length c0_2] 30 (0, 0)) zax9 hb); have n1_ := Aside0.mk (below_step zax12 hb); have n2_ := Aside0.mk (hbox); have n3_ := Aside0.mk ((zax34 : w.heap.size ≤ gb1423)); have n4_ := Aside0.mk ((zax34 : w.heap.size ≤ gb1423)); have n5_ := Aside0.mk ((zax31 : gb1422 ≠ gb1423)); have n6_ := Aside0.mk ((zax32 : gb1423 ≠ gb1422)); clear BK1422; clear HB; have BK1422 := n0_; have HB := n1_; have BK1423 := n2_; have GW1423 := n3_; have GE1423 := n4_; have NB1422_1423 := n5_; have NB1423_1422 := n6_; clear n0_ n1_ n2_ n3_ n4_ n5_ n6_; clear hb hbox hg; have hnb19 := NB1422_1423.out; have hnc19 := NB1423_1422.out; have hcz20_0 : w18.cell? ⟨gb1422, 0, none⟩ = some (.int .i64 a0_0) := (blk_cell BK1422.out 0).trans rfl; have hcz20_1 : w18.cell? ⟨gb1422, 1, none⟩ = some (.int .i64 a0_1) := (blk_cell BK1422.out 1).trans rfl; have hcz20_2 : w18.cell? ⟨gb1422, 2, none⟩ = some (.slice A0_2 l0_2.length c0_2) := (blk_cell BK1422.out 2).trans rfl; have hfz20_0 := blk_frozen BK1422.out 0; have hfz20_1 := blk_frozen BK1422.out 1; have hfz20_2 := blk_frozen BK1422.out 2; have hcz21_0 : w18.cell? ⟨gb1423, 0, none⟩ = some (.int .i64 a1_0) := (blk_cell BK1423.out 0).trans rfl; have hcz21_1 : w18.cell? ⟨gb1423, 1, none⟩ = some (.int .i64 a1_1) := (blk_cell BK1423.out 1).trans rfl; have hfz21_0 := blk_frozen BK1423.out 0; have hfz21_1 := blk_frozen BK1423.out 1) | ((with_reducible refine gate_callee (f := 53) rfl ?_); refine goesL_ (some 12) rfl rfl Try.func53 (by kernel_rfl) rfl #[.agg #[.int .i64 a0_0, .int .i64 a0_1, .slice A0_2 l0_2.length c0_2], .agg #[.int .i64 a1_0, .int .i64 a1_1]] rfl zax16 ?_; (with_reducible refine (spec_boTwo.calls k a0_0 a0_1 _ _ l0_2 a1_0 a1_1 true _ ?side1 ?side2 A5.out).mono ?_); (case side1 => exact zax4); (case side2 => exact HC0_2.out); rintro e w22 ⟨rfl, hb⟩; refine ⟨_, rfl, ?_⟩; have n0_ := Aside0.mk (blk_below (g := gb1422) (o := .cells #[.int .i64 a0_0, .int .i64 a0_1, .slice A0_2 l0_2.length c0_2] 30 (0, 0)) zax9 hb); have n1_ := Aside0.mk (blk_below (g := gb1423) (o := .cells #[.int .i64 a1_0, .int .i64 a1_1] 32 (0, 0)) zax17 hb); have n2_ := Aside0.mk (below_step zax6 hb); clear BK1422; clear BK1423; clear HB; have BK1422 := n0_; have BK1423 := n1_; have HB := n2_; clear n0_ n1_ n2_; (try clear hb); (try clear hb2); (try clear hk); (try clear hi); (try clear hna_); (try clear hnb_); have hcz23_0 : w22.cell? ⟨gb1422, 0, none⟩ = some (.int .i64 a0_0) := (blk_cell BK1422.out 0).trans rfl; have hcz23_1 : w22.cell? ⟨gb1422, 1, none⟩ = some (.int .i64 a0_1) := (blk_cell BK1422.out 1).trans rfl; have hcz23_2 : w22.cell? ⟨gb1422, 2, none⟩ = some (.slice A0_2 l0_2.length c0_2) := (blk_cell BK1422.out 2).trans rfl; have hfz23_0 := blk_frozen BK1422.out 0; have hfz23_1 := blk_frozen BK1422.out 1; have hfz23_2 := blk_frozen BK1422.out 2; have hcz24_0 : w22.cell? ⟨gb1423, 0, none⟩ = some (.int .i64 a1_0) := (blk_cell BK1423.out 0).trans rfl; have hcz24_1 : w22.cell? ⟨gb1423, 1, none⟩ = some (.int .i64 a1_1) := (blk_cell BK1423.out 1).trans rfl; have hfz24_0 := blk_frozen BK1423.out 0; have hfz24_1 := blk_frozen BK1423.out 1) | (go_at_call 84; (with_reducible refine (spec_toClosed.calls k a0_0 a0_1 _ _ l0_2 a1_0 a1_1 _ _ l2 true _ ?side1 ?side2 ?side3 ?side4 A7.out).mono ?_); (case side1 => exact zax4); (case side2 => exact HC0_2.out); (case side3 => exact zax11); (case side4 => exact HC2.out); rintro e w25 ⟨rfl, hb⟩; have n0_ := Aside0.mk (blk_below (g := gb1422) (o := .cells #[.int .i64 a0_0, .int .i64 a0_1, .slice A0_2 l0_2.length c0_2] 30 (0, 0)) zax9 hb); have n1_ := Aside0.mk (blk_below (g := gb1423) (o := .cells #[.int .i64 a1_0, .int .i64 a1_1] 32 (0, 0)) zax17 hb); have n2_ := Aside0.mk (below_step zax6 hb); clear BK1422; clear BK1423; clear HB; have BK1422 := n0_; have BK1423 := n1_; have HB := n2_; clear n0_ n1_ n2_; (try clear hb); (try clear hb2); (try clear hk); (try clear hi); (try clear hna_); (try clear hnb_)) | (go_at_call 85; (with_reducible refine (spec_l1In.calls a3 0 (wrap64 ((l2.length : Int) - 1)) true _ A9.out).mono ?_); rintro e w' ⟨rfl, ⟨nd, rfl⟩⟩))
 (try (rw [drewN_self w25]; generalize hq_ : World.drewN w25 _ = w25; have n0_ : Aside0 (w25.heap[gb1422]? = some (.cells #[.int .i64 a0_0, .int .i64 a0_1, .slice A0_2 l0_2.length c0_2] 30 (0, 0))) := ⟨by rw [← hq_]; exact zax9⟩; have n1_ : Aside0 (w25.heap[gb1423]? = some (.cells #[.int .i64 a1_0, .int .i64 a1_1] 32 (0, 0))) := ⟨by rw [← hq_]; exact zax17⟩; have n2_ : Aside0 (Below w.heap.size w w25) := ⟨by rw [← hq_]; exact zax6⟩; clear BK1422 BK1423 HB hq_; have BK1422 := n0_; have BK1423 := n1_; have HB := n2_; clear n0_ n1_ n2_))
 have n0_ := Aside0.mk (blk_drew BK1422.out)
 have n1_ := Aside0.mk (blk_drew BK1423.out)
 have n2_ := Aside0.mk (below_drew1 HB.out)
 clear BK1422
 clear BK1423
 clear HB
 have BK1422 := n0_
 have BK1423 := n1_
 have HB := n2_
 clear n0_ n1_ n2_
 obtain ⟨i027, hi027, _, hsz27, _⟩ := info_parts info3
 obtain ⟨A27, hcut27, hA27, hC27⟩ := print_drop_of (P := Try.prog) (Value.int .i64) 0 22 3 .i64 Try.underlying22 hi027 hsz27 A2 c2 l2 a3 (of_decide_eq_true zax20) (of_decide_eq_true zax20) HC2.out
 have HR1427 := Aside0.mk (Kd.C_of_reads (h1 := fun _ => rfl) (hA27 _ (Kd.reads_of_C HR2.out)))
 have HC1427 := Aside0.mk hC27
 clear hA27 hC27 hi027 hsz27
 obtain ⟨i028, hi028, _, hsz28, _⟩ := info_parts info3
 obtain ⟨hcut28, hA28, hC28⟩ := print_take_of (P := Try.prog) (Value.int .i64) 0 22 3 .i64 Try.underlying22 hi028 hsz28 A2 c2 l2 a3 (of_decide_eq_true zax20) (of_decide_eq_true zax20) HC2.out
 have HR1431 := Aside0.mk (Kd.C_of_reads (h1 := fun _ => rfl) (hA28 _ (Kd.reads_of_C HR2.out)))
 have HC1431 := Aside0.mk hC28
 clear hA28 hC28 hi028 hsz28
 have hcl28 := Aside0.mk (show (l2.take (a3 : Int).toNat).length = a3.toNat from (by rw [List.length_take]; have h_ : (a3 : Int) ≤ (l2.length : Int) := of_decide_eq_true zax20; omega))
 refine start_ (n := 10) (S := fun w' => True) (ds := []) #[false, false, false, false, false, false, false, false, false, false] (by kernel_rfl) rfl rfl trivial (fun hHeld => ?_); refine with_tabW spec_SpinTour.tab3 spec_SpinTour.bits3 (fun HT_ HW_ => ?_)
 generalize w25.drew = w26 at BK1422 BK1423 HB HR1427 HR1431 hHeld ⊢
 refine pure_ (i := 0) (N := some 29) (v := ?_) (a' := ?_) #[true, false, false, false, false, false, false, false, false, false] rfl rfl (any_of HT_.out (by kernel_rfl)) (fun _ _ _ h => h) (Or.inl ⟨by rfl, ?_⟩) ?_ ?_
 rotate_left
 ·intro w'
  go_simp
  with_reducible rfl
 rotate_left
 ·simp only [Act.put, List.setIfInBounds_toArray, List.set_cons_zero, List.set_cons_succ, i64_w, i32_w]
  rfl
 refine pure_ (i := 1) (N := some 30) (v := ?_) (a' := ?_) #[true, true, false, false, false, false, false, false, false, false] rfl rfl (any_of HT_.out (by kernel_rfl)) (fun _ _ _ h => h) (Or.inl ⟨by rfl, ?_⟩) ?_ ?_
 rotate_left
 ·intro w'
  go_simp
  with_reducible rfl
 rotate_left
 ·simp only [Act.put, List.setIfInBounds_toArray, List.set_cons_zero, List.set_cons_succ, i64_w, i32_w]
  rfl
 refine pure_ (i := 2) (N := some 31) (v := ?_) (a' := ?_) #[true, true, true, false, false, false, false, false, false, false] rfl rfl (any_of HT_.out (by kernel_rfl)) (fun _ _ _ h => h) (Or.inl ⟨by rfl, ?_⟩) ?_ ?_
 rotate_left
 ·intro w'
  go_simp
  with_reducible rfl
 rotate_left
 ·simp only [Act.put, List.setIfInBounds_toArray, List.set_cons_zero, List.set_cons_succ, i64_w, i32_w]
  rfl
 refine pure_ (i := 4) (N := some 33) (v := ?_) (a' := ?_) #[true, true, true, false, true, false, false, false, false, false] rfl rfl (any_of HT_.out (by kernel_rfl)) (fun _ _ _ h => h) (Or.inl ⟨by rfl, ?_⟩) ?_ ?_
 rotate_left
 ·intro w'
  go_simp
  with_reducible rfl
 rotate_left
 ·simp only [Act.put, List.setIfInBounds_toArray, List.set_cons_zero, List.set_cons_succ, i64_w, i32_w]
  rfl
 refine pure_ (i := 5) (N := some 34) (v := ?_) (a' := ?_) #[true, true, true, false, true, true, false, false, false, false] rfl rfl (any_of HT_.out (by kernel_rfl)) (fun _ _ _ h => h) (Or.inl ⟨by rfl, ?_⟩) ?_ ?_
 rotate_left
 ·intro w'
  go_simp
  with_reducible rfl
 rotate_left
 ·simp only [Act.put, List.setIfInBounds_toArray, List.set_cons_zero, List.set_cons_succ, i64_w, i32_w]
  rfl
 refine pure_ (i := 6) (N := some 35) (v := ?_) (a' := ?_) #[true, true, true, false, true, true, true, false, false, false] rfl rfl (any_of HT_.out (by kernel_rfl)) (fun _ _ _ h => h) (Or.inl ⟨by rfl, ?_⟩) ?_ ?_
 rotate_left
 ·intro w'
  go_simp
  with_reducible rfl
 rotate_left
 ·simp only [Act.put, List.setIfInBounds_toArray, List.set_cons_zero, List.set_cons_succ, i64_w, i32_w]
  rfl
 refine one_ (i := 3) (N := some 32) #[true, true, true, true, true, true, true, false, false, false] rfl rfl (one_of HT_.out (by kernel_rfl)) (by decide) (fun K hK => ?_)
 refine goes_ Try.func86 (by kernel_rfl) rfl #[.slice A27 (l2.drop (a3 : Int).toNat).length (c2 - a3.toNat)] (by rfl) rfl rfl zax27 ?_
 with_reducible refine (spec_l1Own.calls _ _ (l2.drop (a3 : Int).toNat) t1428 _ ?side1 ?side2 A13.out).mono ?_
 (case side1 => repeat (first | exact (Kd.C_below HR1427.out HB.out) | (with_reducible refine Kd.C_alloc ?_ _) | (with_reducible refine Kd.C_drewN ?_ _) | (with_reducible refine Kd.C_drew ?_)))
 (case side2 => exact HC1427.out)
 rintro e w29 ⟨v1429, rfl, ho0, hb⟩
 refine ⟨_, rfl, ?_⟩
 have n0_ := Aside0.mk (Kd.R_lower ho0 (below_size zax6))
 have n1_ := Aside0.mk (blk_below (g := gb1422) (o := .cells #[.int .i64 a0_0, .int .i64 a0_1, .slice A0_2 l0_2.length c0_2] 30 (0, 0)) zax9 hb)
 have n2_ := Aside0.mk (blk_below (g := gb1423) (o := .cells #[.int .i64 a1_0, .int .i64 a1_1] 32 (0, 0)) zax17 hb)
 have n3_ := Aside0.mk (below_step zax6 hb)
 clear BK1422
 clear BK1423
 clear HB
 have HO1430 := n0_
 have BK1422 := n1_
 have BK1423 := n2_
 have HB := n3_
 clear n0_ n1_ n2_ n3_
 (try clear hb)
 (try clear hb2)
 (try clear hk)
 (try clear hi)
 (try clear ho0)
 (try clear hna_)
 (try clear hnb_)
 refine hK.out _ _ trivial (fun hHeld => ?_)
 clear hK K
 refine norm_ (a' := ?_) ?_ ?_
 rotate_left
 ·show Act.put _ (some 32) _ = _
  simp only [Act.put, List.setIfInBounds_toArray, List.set_cons_zero, List.set_cons_succ, i64_w, i32_w]
  rfl
 refine one_ (i := 7) (N := some 36) #[true, true, true, true, true, true, true, true, false, false] rfl rfl (one_of HT_.out (by kernel_rfl)) (by decide) (fun K hK => ?_)
 refine Kd.R_append_rows_step (Kd.int .i64) (w0 := w) w.heap.size (by rfl) (.tmp 32) (.tmp 35) 22 3 (.int .i64 0) 8 rfl Try.underlying22 info3 rfl (by decide) (by omega) v1429 t1428 (l2.take (a3 : Int).toNat) _ _ _ (fun _ => True) (fun _ => False) rfl rfl ?aO ?aR (fun _ _ h => h) (fun _ h => h.elim) ?aF ?aB ?aS ?aL ?_
 (case aR => first | (have h_ := Kd.C_below HR1431.out HB.out; rw [show (l2.take (a3 : Int).toNat).length = a3.toNat from (by rw [List.length_take]; have h_ : (a3 : Int) ≤ (l2.length : Int) := of_decide_eq_true zax20; omega)] at h_; exact h_) | (rw [← show (l2.take (a3 : Int).toNat).length = a3.toNat from (by rw [List.length_take]; have h_ : (a3 : Int) ≤ (l2.length : Int) := of_decide_eq_true zax20; omega)]; repeat (first | exact (Kd.C_below HR1431.out HB.out) | (with_reducible refine Kd.C_alloc ?_ _) | (with_reducible refine Kd.C_drewN ?_ _) | (with_reducible refine Kd.C_drew ?_))) | (repeat (first | exact (Kd.C_below HR1431.out HB.out) | (with_reducible refine Kd.C_alloc ?_ _) | (with_reducible refine Kd.C_drewN ?_ _) | (with_reducible refine Kd.C_drew ?_))))
 (case aB => exact zax6)
 (case aF => exact (fun _ _ => trivial))
 (case aO => exact (by first | exact HO1430.out | ((with_reducible repeat (first | apply Kd.R_alloc | apply Kd.R_drewN | apply Kd.R_drew)); exact HO1430.out)))
 (case aS => exact (below_size zax6))
 (case aL => have := LMc16.out; have hlx_ := (show (l2.take (a3 : Int).toNat).length = a3.toNat from (by rw [List.length_take]; have h_ : (a3 : Int) ≤ (l2.length : Int) := of_decide_eq_true zax20; omega)); omega)
 intro v1433 w30 ho hb hg hat
 rw [← Ny1432.out] at ho
 have n0_ := Aside0.mk (blk_grown (g := gb1422) (o := .cells #[.int .i64 a0_0, .int .i64 a0_1, .slice A0_2 l0_2.length c0_2] 30 (0, 0)) zax9 hg (Kd.R_ne HO1430.out BK1422.out (by decide)))
 have n1_ := Aside0.mk (blk_grown (g := gb1423) (o := .cells #[.int .i64 a1_0, .int .i64 a1_1] 32 (0, 0)) zax17 hg (Kd.R_ne HO1430.out BK1423.out (by decide)))
 have n2_ := Aside0.mk (hb)
 have n3_ := Aside0.mk (ho)
 clear BK1422
 clear BK1423
 clear HB
 clear HO1430
 have BK1422 := n0_
 have BK1423 := n1_
 have HB := n2_
 have HO1434 := n3_
 clear n0_ n1_ n2_ n3_
 clear ho hb hg hat
 refine hK.out _ _ trivial (fun hHeld => ?_)
 clear hK K
 refine norm_ (a' := ?_) ?_ ?_
 rotate_left
 ·show Act.put _ (some 36) _ = _
  simp only [Act.put, List.setIfInBounds_toArray, List.set_cons_zero, List.set_cons_succ, i64_w, i32_w]
  rfl
 refine pure_ (i := 8) (N := some 8) (v := ?_) (a' := ?_) #[true, true, true, true, true, true, true, true, true, false] rfl rfl (any_of HT_.out (by kernel_rfl)) (fun _ _ _ h => h) (Or.inl ⟨by rfl, ?_⟩) ?_ ?_
 rotate_left
 ·intro w'
  go_simp
  with_reducible rfl
 rotate_left
 ·simp only [Act.put, List.setIfInBounds_toArray, List.set_cons_zero, List.set_cons_succ, i64_w, i32_w]
  rfl
 refine pure_ (i := 9) (N := some 9) (v := ?_) (a' := ?_) #[true, true, true, true, true, true, true, true, true, true] rfl rfl (any_of HT_.out (by kernel_rfl)) (fun _ _ _ h => h) (Or.inl ⟨by rfl, ?_⟩) ?_ ?_
 rotate_left
 ·intro w'
  go_simp
  with_reducible rfl
 rotate_left
 ·simp only [Act.put, List.setIfInBounds_toArray, List.set_cons_zero, List.set_cons_succ, i64_w, i32_w]
  rfl
 refine done_ (done_of HT_.out (by kernel_rfl)) ?_
 try go_wp2
 go_ret2
 exact ⟨_, zax21, by first | exact HO1434.out | ((with_reducible repeat (first | apply Kd.R_alloc | apply Kd.R_drewN | apply Kd.R_drew)); exact HO1434.out), zax6⟩

/-! ### impl_graph_closes: function 87 -/
def impl_graph_closes.f (k : Nat) (a0_0 : Int) (a0_1 : Int) (l0_2 : List Int) (a0_3 : Int) (a0_4 : Int) (l0_5 : List Int) (l0_6 : List (List Int)) (l1 : List Int) : Option (Bool) := if (l1.length : Int) ≥ 3 then (if 0 ≤ (wrap64 ((l1.length : Int) - 1)) then (if (wrap64 ((l1.length : Int) - 1)) < (l1.length : Int) then (if 0 < (l1.length : Int) then ((impl_graph_leaps.f k a0_0 a0_1 l0_2 a0_3 a0_4 l0_5 l0_6 (rd l1 (wrap64 ((l1.length : Int) - 1))) (rd l1 0)).bind fun t1437 => (some t1437)) else (none)) else (none)) else (none)) else (some false)
set_option maxHeartbeats 8000000 in
set_option maxRecDepth 100000 in
theorem impl_graph_closes.calls (k : Nat) (gb0 : Nat) (a0_0 : Int) (a0_1 : Int) (A0_2 : Option Addr) (c0_2 : Nat) (l0_2 : List Int) (a0_3 : Int) (a0_4 : Int) (A0_5 : Option Addr) (c0_5 : Nat) (l0_5 : List Int) (A0_6 : Option Addr) (c0_6 : Nat) (l0_6 : List (List Int)) (A1 : Option Addr) (c1 : Nat) (l1 : List Int) (r : Bool) (w : World) (hg0 : w.heap[gb0]? = some (.cells #[.int .i64 a0_0, .int .i64 a0_1, .slice A0_2 l0_2.length c0_2, .int .i64 a0_3, .int .i64 a0_4, .slice A0_5 l0_5.length c0_5, .slice A0_6 l0_6.length c0_6] 82 (0, 0))) (hr0_2 : Kd.C (Kd.int .i64) w A0_2 l0_2.length l0_2) (hc0_2 : l0_2.length ≤ c0_2) (hr0_5 : Kd.C (Kd.int .i64) w A0_5 l0_5.length l0_5) (hc0_5 : l0_5.length ≤ c0_5) (hr0_6 : Kd.C (Kd.slice 3 (Kd.int .i64)) w A0_6 l0_6.length l0_6) (hc0_6 : l0_6.length ≤ c0_6) (hr1 : Kd.C (Kd.int .i64) w A1 l1.length l1) (hc1 : l1.length ≤ c1) (h : impl_graph_closes.f k a0_0 a0_1 l0_2 a0_3 a0_4 l0_5 l0_6 l1 = some r) :
  Calls Try.prog 87 #[.pointer (some ⟨gb0, 0, none⟩), .slice A1 l1.length c1] w fun e w' => e = .returned (.bool r) ∧ Drawn0 w w' := by
 have HR0_2 := Aside0.mk hr0_2
 have HC0_2 := Aside0.mk hc0_2
 clear hr0_2 hc0_2
 have HR0_5 := Aside0.mk hr0_5
 have HC0_5 := Aside0.mk hc0_5
 clear hr0_5 hc0_5
 have HR0_6 := Aside0.mk hr0_6
 have HC0_6 := Aside0.mk hc0_6
 clear hr0_6 hc0_6
 have HR1 := Aside0.mk hr1
 have HC1 := Aside0.mk hc1
 clear hr1 hc1
 have BK0 := Aside0.mk hg0
 clear hg0
 have H : (if (l1.length : Int) ≥ 3 then (if 0 ≤ (wrap64 ((l1.length : Int) - 1)) then (if (wrap64 ((l1.length : Int) - 1)) < (l1.length : Int) then (if 0 < (l1.length : Int) then ((impl_graph_leaps.f k a0_0 a0_1 l0_2 a0_3 a0_4 l0_5 l0_6 (rd l1 (wrap64 ((l1.length : Int) - 1))) (rd l1 0)).bind fun t1437 => (some t1437)) else (none)) else (none)) else (none)) else (some false)) = some r := h
 clear h
 by_cases c3 : (l1.length : Int) ≥ 3
 rotate_left
 ·rw [if_neg c3] at H
  have c3b0 : decide (3 ≤ (l1.length : Int)) = false := decide_eq_false c3
  have c3b1 : decide (3 ≤ l1.length) = false := decide_eq_false (by omega)
  clear c3
  obtain rfl := Option.some.inj H
  go_enter Try.func87, Try.ntmps87
  go_wp2
  repeat ((first | go_quiet (fail) | (refine wp_region_quiet_lit (by kernel_rfl) (by kernel_rfl) ?_; (repeat (any_goals (first | go_big_quiet_step (fail) | quiet_step (fail)))); all_goals (refine wpQuiet_nil ?_; intro _ hw2_; obtain ⟨nq, hw3_⟩ := hw2_; subst hw3_))); try go_wp2)
  go_ret
  exact ⟨by first | rfl | (simp; done) | (simp [*]; done), by repeat (first | exact Drawn0.refl _ | apply Drawn0.step)⟩
 rw [if_pos c3] at H
 have c3b0 : decide (3 ≤ (l1.length : Int)) = true := decide_eq_true c3
 have c3b1 : decide (3 ≤ l1.length) = true := decide_eq_true (by omega)
 clear c3
 obtain ⟨ji4, hji4⟩ : ∃ j_ : Int, (wrap64 ((l1.length : Int) - 1)) = j_ := ⟨_, rfl⟩
 replace H : (if 0 ≤ (ji4) then (if (ji4) < (l1.length : Int) then (if 0 < (l1.length : Int) then ((impl_graph_leaps.f k a0_0 a0_1 l0_2 a0_3 a0_4 l0_5 l0_6 (rd l1 (ji4)) (rd l1 0)).bind fun t1437 => (some t1437)) else (none)) else (none)) else (none)) = some r := by first | (rw [hji4] at H; exact H) | (simp only [hji4] at H ⊢; exact H)
 have hji4w : (IntKind.i64.wrap ((l1.length : Int) - 1)) = ji4 := (i64_w _).trans hji4
 by_cases c5 : 0 ≤ (ji4)
 rotate_left
 ·rw [if_neg c5] at H
  exact absurd H (by simp)
 rw [if_pos c5] at H
 have c5b0 : decide (0 ≤ (ji4)) = true := decide_eq_true c5
 clear c5
 by_cases c6 : (ji4) < (l1.length : Int)
 rotate_left
 ·rw [if_neg c6] at H
  exact absurd H (by simp)
 rw [if_pos c6] at H
 have c6b0 : decide ((ji4) < (l1.length : Int)) = true := decide_eq_true c6
 clear c6
 by_cases c7 : 0 < (l1.length : Int)
 rotate_left
 ·rw [if_neg c7] at H
  exact absurd H (by simp)
 rw [if_pos c7] at H
 have c7b0 : decide (0 < (l1.length : Int)) = true := decide_eq_true c7
 have c7b1 : decide (0 < l1.length) = true := decide_eq_true (by omega)
 clear c7
 replace H := Option.bind_eq_some_iff.mp H
 obtain ⟨t1437, A80, H⟩ := H
 replace H : (some t1437) = some r := H
 have A8 := Aside0.mk A80
 clear A80
 obtain rfl := Option.some.inj H
 have p1435 : 0 ≤ ((ji4) : Int) := of_decide_eq_true zax20
 have q1435 : (ji4) < (l1.length : Int) := of_decide_eq_true zax20
 obtain ⟨ad1435, e1435, hx1435_0⟩ := Kd.at_int HR1.out (ji4) p1435 q1435
 cases e1435
 replace p1435 := eq_true p1435
 replace q1435 := eq_true q1435
 have p1436 : 0 ≤ (0 : Int) := (by omega)
 have q1436 : 0 < (l1.length : Int) := of_decide_eq_true zax20
 obtain ⟨ad1436, e1436, hx1436_0⟩ := Kd.at_int HR1.out 0 p1436 q1436
 obtain rfl : ad1435 = ad1436 := (by injection e1436)
 have qi1436 : (0 < l1.length) = True := eq_true (by omega)
 (try rw [show ((0 : Int)).toNat = 0 from rfl] at hx1436_0)
 (try rw [Addr.add_zero'] at hx1436_0)
 replace p1436 := eq_true p1436
 replace q1436 := eq_true q1436
 go_enter Try.func87, Try.ntmps87
 go_wp2_with (first | (go_at_call 96; (with_reducible refine (impl_graph_leaps.calls k gb0 a0_0 a0_1 A0_2 c0_2 l0_2 a0_3 a0_4 A0_5 c0_5 l0_5 A0_6 c0_6 l0_6 (rd l1 (ji4)) (rd l1 0) t1437 _ ?side1 ?side2 ?side3 ?side4 ?side5 ?side6 ?side7 A8.out).mono ?_); (case side1 => exact zax26); (case side2 => exact zax25); (case side3 => exact HC0_2.out); (case side4 => exact zax24); (case side5 => exact HC0_5.out); (case side6 => exact zax23); (case side7 => exact HC0_6.out); rintro e w' ⟨rfl, ⟨nd, rfl⟩⟩; (try first | exact ⟨rfl, _, World.drewN_drewN _ _ _⟩ | exact ⟨rfl, _, Eq.trans (World.drewN_drewN _ _ _) (congrArg (World.drewN _) (Nat.add_assoc _ _ _))⟩)))
 repeat ((first | go_quiet (first | (go_at_call 96; (with_reducible refine (impl_graph_leaps.calls k gb0 a0_0 a0_1 A0_2 c0_2 l0_2 a0_3 a0_4 A0_5 c0_5 l0_5 A0_6 c0_6 l0_6 (rd l1 (ji4)) (rd l1 0) t1437 _ ?side1 ?side2 ?side3 ?side4 ?side5 ?side6 ?side7 A8.out).mono ?_); (case side1 => exact zax26); (case side2 => exact zax25); (case side3 => exact HC0_2.out); (case side4 => exact zax24); (case side5 => exact HC0_5.out); (case side6 => exact zax23); (case side7 => exact HC0_6.out); rintro e w' ⟨rfl, ⟨nd, rfl⟩⟩; (try first | exact ⟨rfl, _, World.drewN_drewN _ _ _⟩ | exact ⟨rfl, _, Eq.trans (World.drewN_drewN _ _ _) (congrArg (World.drewN _) (Nat.add_assoc _ _ _))⟩))) | (refine wp_region_quiet_lit (by kernel_rfl) (by kernel_rfl) ?_; (repeat (any_goals (first | go_big_quiet_step (first | (go_at_call 96; (with_reducible refine (impl_graph_leaps.calls k gb0 a0_0 a0_1 A0_2 c0_2 l0_2 a0_3 a0_4 A0_5 c0_5 l0_5 A0_6 c0_6 l0_6 (rd l1 (ji4)) (rd l1 0) t1437 _ ?side1 ?side2 ?side3 ?side4 ?side5 ?side6 ?side7 A8.out).mono ?_); (case side1 => exact zax26); (case side2 => exact zax25); (case side3 => exact HC0_2.out); (case side4 => exact zax24); (case side5 => exact HC0_5.out); (case side6 => exact zax23); (case side7 => exact HC0_6.out); rintro e w' ⟨rfl, ⟨nd, rfl⟩⟩; (try first | exact ⟨rfl, _, World.drewN_drewN _ _ _⟩ | exact ⟨rfl, _, Eq.trans (World.drewN_drewN _ _ _) (congrArg (World.drewN _) (Nat.add_assoc _ _ _))⟩))) | quiet_step (first | (go_at_call 96; (with_reducible refine (impl_graph_leaps.calls k gb0 a0_0 a0_1 A0_2 c0_2 l0_2 a0_3 a0_4 A0_5 c0_5 l0_5 A0_6 c0_6 l0_6 (rd l1 (ji4)) (rd l1 0) t1437 _ ?side1 ?side2 ?side3 ?side4 ?side5 ?side6 ?side7 A8.out).mono ?_); (case side1 => exact zax26); (case side2 => exact zax25); (case side3 => exact HC0_2.out); (case side4 => exact zax24); (case side5 => exact HC0_5.out); (case side6 => exact zax23); (case side7 => exact HC0_6.out); rintro e w' ⟨rfl, ⟨nd, rfl⟩⟩; (try first | exact ⟨rfl, _, World.drewN_drewN _ _ _⟩ | exact ⟨rfl, _, Eq.trans (World.drewN_drewN _ _ _) (congrArg (World.drewN _) (Nat.add_assoc _ _ _))⟩)))))); all_goals (refine wpQuiet_nil ?_; intro _ hw2_; obtain ⟨nq, hw3_⟩ := hw2_; subst hw3_))); try go_wp2_with (first | (go_at_call 96; (with_reducible refine (impl_graph_leaps.calls k gb0 a0_0 a0_1 A0_2 c0_2 l0_2 a0_3 a0_4 A0_5 c0_5 l0_5 A0_6 c0_6 l0_6 (rd l1 (ji4)) (rd l1 0) t1437 _ ?side1 ?side2 ?side3 ?side4 ?side5 ?side6 ?side7 A8.out).mono ?_); (case side1 => exact zax26); (case side2 => exact zax25); (case side3 => exact HC0_2.out); (case side4 => exact zax24); (case side5 => exact HC0_5.out); (case side6 => exact zax23); (case side7 => exact HC0_6.out); rintro e w' ⟨rfl, ⟨nd, rfl⟩⟩; (try first | exact ⟨rfl, _, World.drewN_drewN _ _ _⟩ | exact ⟨rfl, _, Eq.trans (World.drewN_drewN _ _ _) (congrArg (World.drewN _) (Nat.add_assoc _ _ _))⟩))))
 go_ret
 exact ⟨by first | rfl | (simp; done) | (simp only [← hji4] <;> (first | rfl | simp)) | (simp [*]; done), by repeat (first | exact Drawn0.refl _ | apply Drawn0.step)⟩

/-! ### impl_SpinTour: function 47 -/
def impl_SpinTour.f (k : Nat) (a0_0 : Int) (a0_1 : Int) (l0_2 : List Int) (a1_0 : Int) (a1_1 : Int) (l2 : List Int) (a3 : Int) : Option (List Int × Bool) := (impl_graphOf.f k a0_0 a0_1 l0_2 a1_0 a1_1).bind fun bt1440 => (if bt1440.2.2 = true then ((impl_graph_isTour.f k a0_0 a0_1 l0_2 a1_0 a1_1 bt1440.1 bt1440.2.1 l2).bind fun t1449 => (if t1449 = true then ((impl_graph_closes.f k a0_0 a0_1 l0_2 a1_0 a1_1 bt1440.1 bt1440.2.1 l2).bind fun t1450 => (if t1450 = true then (if a3 < 0 then (some (([] : List Int), false)) else (if a3 ≥ (l2.length : Int) then (some (([] : List Int), false)) else (if 0 ≤ a3 then (if a3 ≤ (l2.length : Int) then ((slices_Clone_int_int.f (l2.drop (a3 : Int).toNat)).bind fun t1452 => (if t1452.length + (l2.take (a3 : Int).toNat).length < 17592186044416 then (some ((t1452 ++ (l2.take (a3 : Int).toNat)), true)) else (none))) else (none)) else (none)))) else (some (([] : List Int), false)))) else (some (([] : List Int), false)))) else (some (([] : List Int), false)))
def impl_SpinTour.T4 : Bool × List (List Nat × List Nat) := (true, [([], []), ([], []), ([0, 1], [0, 1]), ([2], [2]), ([], []), ([], []), ([4, 5], [4, 5]), ([3, 6, 3], [3, 6]), ([7, 7, 0, 1, 2, 3, 4, 5, 6, 7], [7]), ([8, 0, 1, 2, 3, 4, 5, 6, 7, 8], [])])
def impl_SpinTour.B4 : List Nat := [0, 0, 3, 7, 0, 0, 48, 127, 255, 511]
theorem impl_SpinTour.tab4 : rtab .any (opsOf Try.f47 4) = impl_SpinTour.T4 := by kernel_rfl
theorem impl_SpinTour.bits4 : waitsOk impl_SpinTour.T4.2 impl_SpinTour.B4 = true := by kernel_rfl
set_option maxHeartbeats 8000000 in
set_option maxRecDepth 100000 in
theorem impl_SpinTour.calls (k : Nat) (a0_0 : Int) (a0_1 : Int) (A0_2 : Option Addr) (c0_2 : Nat) (l0_2 : List Int) (a1_0 : Int) (a1_1 : Int) (A2 : Option Addr) (c2 : Nat) (l2 : List Int) (a3 : Int) (r1 : List Int) (r2 : Bool) (w : World) (hr0_2 : Kd.C (Kd.int .i64) w A0_2 l0_2.length l0_2) (hc0_2 : l0_2.length ≤ c0_2) (hr2 : Kd.C (Kd.int .i64) w A2 l2.length l2) (hc2 : l2.length ≤ c2) (h : impl_SpinTour.f k a0_0 a0_1 l0_2 a1_0 a1_1 l2 a3 = some (r1, r2)) :
  Calls Try.prog 47 #[.agg #[.int .i64 a0_0, .int .i64 a0_1, .slice A0_2 l0_2.length c0_2], .agg #[.int .i64 a1_0, .int .i64 a1_1], .slice A2 l2.length c2, .int .i64 a3] w fun e w' => ∃ v0_ : Value, e = .returned (.tuple #[v0_, .bool r2]) ∧ Kd.R (Kd.int .i64) 3 w' w.heap.size (fun _ => True) v0_ r1 ∧ Below w.heap.size w w' := by
 have hu30 := Try.underlying30
 have hu32 := Try.underlying32
 have HR0_2 := Aside0.mk hr0_2
 have HC0_2 := Aside0.mk hc0_2
 clear hr0_2 hc0_2
 have HR2 := Aside0.mk hr2
 have HC2 := Aside0.mk hc2
 clear hr2 hc2
 have HB := Aside0.mk (Below.refl w.heap.size w)
 have H : ((impl_graphOf.f k a0_0 a0_1 l0_2 a1_0 a1_1).bind fun bt1440 => (if bt1440.2.2 = true then ((impl_graph_isTour.f k a0_0 a0_1 l0_2 a1_0 a1_1 bt1440.1 bt1440.2.1 l2).bind fun t1449 => (if t1449 = true then ((impl_graph_closes.f k a0_0 a0_1 l0_2 a1_0 a1_1 bt1440.1 bt1440.2.1 l2).bind fun t1450 => (if t1450 = true then (if a3 < 0 then (some (([] : List Int), false)) else (if a3 ≥ (l2.length : Int) then (some (([] : List Int), false)) else (if 0 ≤ a3 then (if a3 ≤ (l2.length : Int) then ((slices_Clone_int_int.f (l2.drop (a3 : Int).toNat)).bind fun t1452 => (if t1452.length + (l2.take (a3 : Int).toNat).length < 17592186044416 then (some ((t1452 ++ (l2.take (a3 : Int).toNat)), true)) else (none))) else (none)) else (none)))) else (some (([] : List Int), false)))) else (some (([] : List Int), false)))) else (some (([] : List Int), false)))) = some (r1, r2) := h
 clear h
 replace H := Option.bind_eq_some_iff.mp H
 obtain ⟨⟨t1440, t1443, t1448⟩, A50, H⟩ := H
 replace H : (if t1448 = true then ((impl_graph_isTour.f k a0_0 a0_1 l0_2 a1_0 a1_1 t1440 t1443 l2).bind fun t1449 => (if t1449 = true then ((impl_graph_closes.f k a0_0 a0_1 l0_2 a1_0 a1_1 t1440 t1443 l2).bind fun t1450 => (if t1450 = true then (if a3 < 0 then (some (([] : List Int), false)) else (if a3 ≥ (l2.length : Int) then (some (([] : List Int), false)) else (if 0 ≤ a3 then (if a3 ≤ (l2.length : Int) then ((slices_Clone_int_int.f (l2.drop (a3 : Int).toNat)).bind fun t1452 => (if t1452.length + (l2.take (a3 : Int).toNat).length < 17592186044416 then (some ((t1452 ++ (l2.take (a3 : Int).toNat)), true)) else (none))) else (none)) else (none)))) else (some (([] : List Int), false)))) else (some (([] : List Int), false)))) else (some (([] : List Int), false))) = some (r1, r2) := H
 have A5 := Aside0.mk A50
 clear A50
 by_cases c6 : t1448 = true
 rotate_left
 ·replace c6 := Bool.eq_false_iff.mpr c6
  subst c6
  have H1 : (some (([] : List Int), false)) = some (r1, r2) := by rw [if_neg (show ¬ (false = true) by decide)] at H; exact H
  clear H
  have H := H1
  clear H1
  simp only [Option.some.injEq, Prod.mk.injEq] at H
  obtain ⟨rfl, rfl⟩ := H
  go_enter Try.func47, Try.ntmps47
  go_wp2_with (first | ((with_reducible refine gate_dst (N := 4) rfl ?_); (try (refine gate_guard (by rfl) ?_; dsimp only)); refine box_event ?hg (N := 4) ?hd (cs := #[.int .i64 a0_0, .int .i64 a0_1, .slice A0_2 l0_2.length c0_2]) (t := 30) ?hr ?_; (case hd => rfl); (case hg => rfl); (case hr => first | (go_simp; done) | (go_simp; rfl)); intro gb1438 hg w69 hbox hb; have n0_ := Aside0.mk (below_step zax3 hb); have n1_ := Aside0.mk (hbox); have n2_ := Aside0.mk ((zax30 : w.heap.size ≤ gb1438)); have n3_ := Aside0.mk ((zax30 : w.heap.size ≤ gb1438)); clear HB; have HB := n0_; have BK1438 := n1_; have GW1438 := n2_; have GE1438 := n3_; clear n0_ n1_ n2_ n3_; clear hb hbox hg) | ((with_reducible refine gate_dst (N := 5) rfl ?_); (try (refine gate_guard (by rfl) ?_; dsimp only)); refine box_event ?hg (N := 5) ?hd (cs := #[.int .i64 a1_0, .int .i64 a1_1]) (t := 32) ?hr ?_; (case hd => rfl); (case hg => rfl); (case hr => first | (go_simp; done) | (go_simp; rfl)); intro gb1439 hg w70 hbox hb; have n0_ := Aside0.mk (blk_below (g := gb1438) (o := .cells #[.int .i64 a0_0, .int .i64 a0_1, .slice A0_2 l0_2.length c0_2] 30 (0, 0)) zax2 hb); have n1_ := Aside0.mk (below_step zax7 hb); have n2_ := Aside0.mk (hbox); have n3_ := Aside0.mk ((zax33 : w.heap.size ≤ gb1439)); have n4_ := Aside0.mk ((zax33 : w.heap.size ≤ gb1439)); have n5_ := Aside0.mk ((zax28 : gb1438 ≠ gb1439)); have n6_ := Aside0.mk ((zax29 : gb1439 ≠ gb1438)); clear BK1438; clear HB; have BK1438 := n0_; have HB := n1_; have BK1439 := n2_; have GW1439 := n3_; have GE1439 := n4_; have NB1438_1439 := n5_; have NB1439_1438 := n6_; clear n0_ n1_ n2_ n3_ n4_ n5_ n6_; clear hb hbox hg; have hnb71 := NB1438_1439.out; have hnc71 := NB1439_1438.out; have hcz72_0 : w70.cell? ⟨gb1438, 0, none⟩ = some (.int .i64 a0_0) := (blk_cell BK1438.out 0).trans rfl; have hcz72_1 : w70.cell? ⟨gb1438, 1, none⟩ = some (.int .i64 a0_1) := (blk_cell BK1438.out 1).trans rfl; have hcz72_2 : w70.cell? ⟨gb1438, 2, none⟩ = some (.slice A0_2 l0_2.length c0_2) := (blk_cell BK1438.out 2).trans rfl; have hfz72_0 := blk_frozen BK1438.out 0; have hfz72_1 := blk_frozen BK1438.out 1; have hfz72_2 := blk_frozen BK1438.out 2; have hcz73_0 : w70.cell? ⟨gb1439, 0, none⟩ = some (.int .i64 a1_0) := (blk_cell BK1439.out 0).trans rfl; have hcz73_1 : w70.cell? ⟨gb1439, 1, none⟩ = some (.int .i64 a1_1) := (blk_cell BK1439.out 1).trans rfl; have hfz73_0 := blk_frozen BK1439.out 0; have hfz73_1 := blk_frozen BK1439.out 1) | ((with_reducible refine gate_callee (f := 50) rfl ?_); refine goesL_ (some 15) rfl rfl Try.func50 (by kernel_rfl) rfl #[.agg #[.int .i64 a0_0, .int .i64 a0_1, .slice A0_2 l0_2.length c0_2], .agg #[.int .i64 a1_0, .int .i64 a1_1]] rfl zax16 ?_; (with_reducible refine (impl_graphOf.calls k a0_0 a0_1 _ _ l0_2 a1_0 a1_1 t1440 t1443 false _ ?side1 ?side2 A5.out).mono ?_); (case side1 => exact zax4); (case side2 => exact HC0_2.out); rintro e w74 ⟨v1441, v1444, pv1447, rfl, hgp, ho0, ho1, hb⟩; refine ⟨_, rfl, ?_⟩; obtain rfl := hgp.2 rfl; have n0_ := Aside0.mk (Kd.R_lower ho0 (below_size zax1)); have n1_ := Aside0.mk (Kd.S_lower ho1 (below_size zax1)); have n2_ := Aside0.mk (blk_below (g := gb1438) (o := .cells #[.int .i64 a0_0, .int .i64 a0_1, .slice A0_2 l0_2.length c0_2] 30 (0, 0)) zax2 hb); have n3_ := Aside0.mk (blk_below (g := gb1439) (o := .cells #[.int .i64 a1_0, .int .i64 a1_1] 32 (0, 0)) zax8 hb); have n4_ := Aside0.mk (below_step zax1 hb); clear BK1438; clear BK1439; clear HB; have HO1442 := n0_; have HO1445 := n1_; have BK1438 := n2_; have BK1439 := n3_; have HB := n4_; clear n0_ n1_ n2_ n3_ n4_; (try clear hb); (try clear hb2); (try clear hk); (try clear hi); (try clear ho0); (try clear ho1); (try clear hgp); (try clear hbox); (try clear hge); (try clear hna_); (try clear hnb_)))
  go_ret2
  exact ⟨_, zax21, zax18, zax1⟩
 subst c6
 have H1 : ((impl_graph_isTour.f k a0_0 a0_1 l0_2 a1_0 a1_1 t1440 t1443 l2).bind fun t1449 => (if t1449 = true then ((impl_graph_closes.f k a0_0 a0_1 l0_2 a1_0 a1_1 t1440 t1443 l2).bind fun t1450 => (if t1450 = true then (if a3 < 0 then (some (([] : List Int), false)) else (if a3 ≥ (l2.length : Int) then (some (([] : List Int), false)) else (if 0 ≤ a3 then (if a3 ≤ (l2.length : Int) then ((slices_Clone_int_int.f (l2.drop (a3 : Int).toNat)).bind fun t1452 => (if t1452.length + (l2.take (a3 : Int).toNat).length < 17592186044416 then (some ((t1452 ++ (l2.take (a3 : Int).toNat)), true)) else (none))) else (none)) else (none)))) else (some (([] : List Int), false)))) else (some (([] : List Int), false)))) = some (r1, r2) := by rw [if_pos rfl] at H; exact H
 clear H
 have H := H1
 clear H1
 replace H := Option.bind_eq_some_iff.mp H
 obtain ⟨t1449, A70, H⟩ := H
 replace H : (if t1449 = true then ((impl_graph_closes.f k a0_0 a0_1 l0_2 a1_0 a1_1 t1440 t1443 l2).bind fun t1450 => (if t1450 = true then (if a3 < 0 then (some (([] : List Int), false)) else (if a3 ≥ (l2.length : Int) then (some (([] : List Int), false)) else (if 0 ≤ a3 then (if a3 ≤ (l2.length : Int) then ((slices_Clone_int_int.f (l2.drop (a3 : Int).toNat)).bind fun t1452 => (if t1452.length + (l2.take (a3 : Int).toNat).length < 17592186044416 then (some ((t1452 ++ (l2.take (a3 : Int).toNat)), true)) else (none))) else (none)) else (none)))) else (some (([] : List Int), false)))) else (some (([] : List Int), false))) = some (r1, r2) := H
 have A7 := Aside0.mk A70
 clear A70
 by_cases c8 : t1449 = true
 rotate_left
 ·replace c8 := Bool.eq_false_iff.mpr c8
  subst c8
  have H1 : (some (([] : List Int), false)) = some (r1, r2) := by rw [if_neg (show ¬ (false = true) by decide)] at H; exact H
  clear H
  have H := H1
  clear H1
  simp only [Option.some.injEq, Prod.mk.injEq] at H
  obtain ⟨rfl, rfl⟩ := H
  go_enter Try.func47, Try.ntmps47
  go_wp2_with (first | ((with_reducible refine gate_dst (N := 4) rfl ?_); (try (refine gate_guard (by rfl) ?_; dsimp only)); refine box_event ?hg (N := 4) ?hd (cs := #[.int .i64 a0_0, .int .i64 a0_1, .slice A0_2 l0_2.length c0_2]) (t := 30) ?hr ?_; (case hd => rfl); (case hg => rfl); (case hr => first | (go_simp; done) | (go_simp; rfl)); intro gb1438 hg w60 hbox hb; have n0_ := Aside0.mk (below_step zax3 hb); have n1_ := Aside0.mk (hbox); have n2_ := Aside0.mk ((zax30 : w.heap.size ≤ gb1438)); have n3_ := Aside0.mk ((zax30 : w.heap.size ≤ gb1438)); clear HB; have HB := n0_; have BK1438 := n1_; have GW1438 := n2_; have GE1438 := n3_; clear n0_ n1_ n2_ n3_; clear hb hbox hg) | ((with_reducible refine gate_dst (N := 5) rfl ?_); (try (refine gate_guard (by rfl) ?_; dsimp only)); refine box_event ?hg (N := 5) ?hd (cs := #[.int .i64 a1_0, .int .i64 a1_1]) (t := 32) ?hr ?_; (case hd => rfl); (case hg => rfl); (case hr => first | (go_simp; done) | (go_simp; rfl)); intro gb1439 hg w61 hbox hb; have n0_ := Aside0.mk (blk_below (g := gb1438) (o := .cells #[.int .i64 a0_0, .int .i64 a0_1, .slice A0_2 l0_2.length c0_2] 30 (0, 0)) zax2 hb); have n1_ := Aside0.mk (below_step zax7 hb); have n2_ := Aside0.mk (hbox); have n3_ := Aside0.mk ((zax33 : w.heap.size ≤ gb1439)); have n4_ := Aside0.mk ((zax33 : w.heap.size ≤ gb1439)); have n5_ := Aside0.mk ((zax28 : gb1438 ≠ gb1439)); have n6_ := Aside0.mk ((zax29 : gb1439 ≠ gb1438)); clear BK1438; clear HB; have BK1438 := n0_; have HB := n1_; have BK1439 := n2_; have GW1439 := n3_; have GE1439 := n4_; have NB1438_1439 := n5_; have NB1439_1438 := n6_; clear n0_ n1_ n2_ n3_ n4_ n5_ n6_; clear hb hbox hg; have hnb62 := NB1438_1439.out; have hnc62 := NB1439_1438.out; have hcz63_0 : w61.cell? ⟨gb1438, 0, none⟩ = some (.int .i64 a0_0) := (blk_cell BK1438.out 0).trans rfl; have hcz63_1 : w61.cell? ⟨gb1438, 1, none⟩ = some (.int .i64 a0_1) := (blk_cell BK1438.out 1).trans rfl; have hcz63_2 : w61.cell? ⟨gb1438, 2, none⟩ = some (.slice A0_2 l0_2.length c0_2) := (blk_cell BK1438.out 2).trans rfl; have hfz63_0 := blk_frozen BK1438.out 0; have hfz63_1 := blk_frozen BK1438.out 1; have hfz63_2 := blk_frozen BK1438.out 2; have hcz64_0 : w61.cell? ⟨gb1439, 0, none⟩ = some (.int .i64 a1_0) := (blk_cell BK1439.out 0).trans rfl; have hcz64_1 : w61.cell? ⟨gb1439, 1, none⟩ = some (.int .i64 a1_1) := (blk_cell BK1439.out 1).trans rfl; have hfz64_0 := blk_frozen BK1439.out 0; have hfz64_1 := blk_frozen BK1439.out 1) | ((with_reducible refine gate_callee (f := 50) rfl ?_); refine goesL_ (some 15) rfl rfl Try.func50 (by kernel_rfl) rfl #[.agg #[.int .i64 a0_0, .int .i64 a0_1, .slice A0_2 l0_2.length c0_2], .agg #[.int .i64 a1_0, .int .i64 a1_1]] rfl zax16 ?_; (with_reducible refine (impl_graphOf.calls k a0_0 a0_1 _ _ l0_2 a1_0 a1_1 t1440 t1443 true _ ?side1 ?side2 A5.out).mono ?_); (case side1 => exact zax4); (case side2 => exact HC0_2.out); rintro e w65 ⟨v1441, v1444, pv1447, rfl, hgp, ho0, ho1, hb⟩; refine ⟨_, rfl, ?_⟩; obtain ⟨gb1446, rfl, hbox, hge⟩ := hgp.1 rfl; have n0_ := Aside0.mk (Kd.R_lower ho0 (below_size zax1)); have n1_ := Aside0.mk (Kd.S_lower ho1 (below_size zax1)); have n2_ := Aside0.mk (blk_below (g := gb1438) (o := .cells #[.int .i64 a0_0, .int .i64 a0_1, .slice A0_2 l0_2.length c0_2] 30 (0, 0)) zax2 hb); have n3_ := Aside0.mk (blk_below (g := gb1439) (o := .cells #[.int .i64 a1_0, .int .i64 a1_1] 32 (0, 0)) zax8 hb); have n4_ := Aside0.mk (hbox); have n5_ := Aside0.mk ((Nat.le_trans zax35 hge : w.heap.size ≤ gb1446)); have n6_ := Aside0.mk ((Nat.le_trans zax35 hge : w.heap.size ≤ gb1446)); have n7_ := Aside0.mk ((Nat.ne_of_lt (Nat.lt_of_lt_of_le (blk_lt (g := gb1438) (o := .cells #[.int .i64 a0_0, .int .i64 a0_1, .slice A0_2 l0_2.length c0_2] 30 (0, 0)) zax2) hge) : gb1438 ≠ gb1446)); have n8_ := Aside0.mk ((Nat.ne_of_gt (Nat.lt_of_lt_of_le (blk_lt (g := gb1438) (o := .cells #[.int .i64 a0_0, .int .i64 a0_1, .slice A0_2 l0_2.length c0_2] 30 (0, 0)) zax2) hge) : gb1446 ≠ gb1438)); have n9_ := Aside0.mk ((Nat.ne_of_lt (Nat.lt_of_lt_of_le (blk_lt (g := gb1439) (o := .cells #[.int .i64 a1_0, .int .i64 a1_1] 32 (0, 0)) zax8) hge) : gb1439 ≠ gb1446)); have n10_ := Aside0.mk ((Nat.ne_of_gt (Nat.lt_of_lt_of_le (blk_lt (g := gb1439) (o := .cells #[.int .i64 a1_0, .int .i64 a1_1] 32 (0, 0)) zax8) hge) : gb1446 ≠ gb1439)); have n11_ := Aside0.mk (below_step zax1 hb); clear BK1438; clear BK1439; clear HB; have HO1442 := n0_; have HO1445 := n1_; have BK1438 := n2_; have BK1439 := n3_; have BK1446 := n4_; have GW1446 := n5_; have GE1446 := n6_; have NB1438_1446 := n7_; have NB1446_1438 := n8_; have NB1439_1446 := n9_; have NB1446_1439 := n10_; have HB := n11_; clear n0_ n1_ n2_ n3_ n4_ n5_ n6_ n7_ n8_ n9_ n10_ n11_; (try clear hb); (try clear hb2); (try clear hk); (try clear hi); (try clear ho0); (try clear ho1); (try clear hgp); (try clear hbox); (try clear hge); (try clear hna_); (try clear hnb_); obtain ⟨Ao66, co66, eo66⟩ := Kd.R_slice HO1442.out; subst eo66; obtain ⟨Ao67, co67, eo67⟩ := Kd.S_slice HO1445.out; subst eo67) | (go_at_call 82; (with_reducible refine (impl_graph_isTour.calls k gb1446 a0_0 a0_1 A0_2 c0_2 l0_2 a1_0 a1_1 Ao66 co66 t1440 Ao67 co67 t1443 _ _ l2 false _ ?side1 ?side2 ?side3 ?side4 ?side5 ?side6 ?side7 ?side8 ?side9 A7.out).mono ?_); (case side1 => exact zax10); (case side2 => exact zax4); (case side3 => exact HC0_2.out); (case side4 => exact zax15); (case side5 => exact (Kd.R_reads' HO1442.out).2.1); (case side6 => exact zax14); (case side7 => exact (Kd.S_reads' HO1445.out).2.1); (case side8 => exact zax11); (case side9 => exact HC2.out); rintro e w68 ⟨rfl, hb⟩; have n0_ := Aside0.mk (Kd.R_below zax19 hb); have n1_ := Aside0.mk (Kd.S_below zax22 hb); have n2_ := Aside0.mk (blk_below (g := gb1438) (o := .cells #[.int .i64 a0_0, .int .i64 a0_1, .slice A0_2 l0_2.length c0_2] 30 (0, 0)) zax2 hb); have n3_ := Aside0.mk (blk_below (g := gb1439) (o := .cells #[.int .i64 a1_0, .int .i64 a1_1] 32 (0, 0)) zax8 hb); have n4_ := Aside0.mk (blk_below (g := gb1446) (o := .cells #[.int .i64 a0_0, .int .i64 a0_1, .slice A0_2 l0_2.length c0_2, .int .i64 a1_0, .int .i64 a1_1, .slice Ao66 t1440.length co66, .slice Ao67 t1443.length co67] 82 (0, 0)) zax10 hb); have n5_ := Aside0.mk (below_step zax5 hb); clear HO1442; clear HO1445; clear BK1438; clear BK1439; clear BK1446; clear HB; have HO1442 := n0_; have HO1445 := n1_; have BK1438 := n2_; have BK1439 := n3_; have BK1446 := n4_; have HB := n5_; clear n0_ n1_ n2_ n3_ n4_ n5_; (try clear hb); (try clear hb2); (try clear hk); (try clear hi); (try clear hna_); (try clear hnb_)))
  go_ret2
  exact ⟨_, zax21, zax18, zax5⟩
 subst c8
 have H1 : ((impl_graph_closes.f k a0_0 a0_1 l0_2 a1_0 a1_1 t1440 t1443 l2).bind fun t1450 => (if t1450 = true then (if a3 < 0 then (some (([] : List Int), false)) else (if a3 ≥ (l2.length : Int) then (some (([] : List Int), false)) else (if 0 ≤ a3 then (if a3 ≤ (l2.length : Int) then ((slices_Clone_int_int.f (l2.drop (a3 : Int).toNat)).bind fun t1452 => (if t1452.length + (l2.take (a3 : Int).toNat).length < 17592186044416 then (some ((t1452 ++ (l2.take (a3 : Int).toNat)), true)) else (none))) else (none)) else (none)))) else (some (([] : List Int), false)))) = some (r1, r2) := by rw [if_pos rfl] at H; exact H
 clear H
 have H := H1
 clear H1
 replace H := Option.bind_eq_some_iff.mp H
 obtain ⟨t1450, A90, H⟩ := H
 replace H : (if t1450 = true then (if a3 < 0 then (some (([] : List Int), false)) else (if a3 ≥ (l2.length : Int) then (some (([] : List Int), false)) else (if 0 ≤ a3 then (if a3 ≤ (l2.length : Int) then ((slices_Clone_int_int.f (l2.drop (a3 : Int).toNat)).bind fun t1452 => (if t1452.length + (l2.take (a3 : Int).toNat).length < 17592186044416 then (some ((t1452 ++ (l2.take (a3 : Int).toNat)), true)) else (none))) else (none)) else (none)))) else (some (([] : List Int), false))) = some (r1, r2) := H
 have A9 := Aside0.mk A90
 clear A90
 by_cases c10 : t1450 = true
 rotate_left
 ·replace c10 := Bool.eq_false_iff.mpr c10
  subst c10
  have H1 : (some (([] : List Int), false)) = some (r1, r2) := by rw [if_neg (show ¬ (false = true) by decide)] at H; exact H
  clear H
  have H := H1
  clear H1
  simp only [Option.some.injEq, Prod.mk.injEq] at H
  obtain ⟨rfl, rfl⟩ := H
  go_enter Try.func47, Try.ntmps47
  go_wp2_with (first | ((with_reducible refine gate_dst (N := 4) rfl ?_); (try (refine gate_guard (by rfl) ?_; dsimp only)); refine box_event ?hg (N := 4) ?hd (cs := #[.int .i64 a0_0, .int .i64 a0_1, .slice A0_2 l0_2.length c0_2]) (t := 30) ?hr ?_; (case hd => rfl); (case hg => rfl); (case hr => first | (go_simp; done) | (go_simp; rfl)); intro gb1438 hg w51 hbox hb; have n0_ := Aside0.mk (below_step zax3 hb); have n1_ := Aside0.mk (hbox); have n2_ := Aside0.mk ((zax30 : w.heap.size ≤ gb1438)); have n3_ := Aside0.mk ((zax30 : w.heap.size ≤ gb1438)); clear HB; have HB := n0_; have BK1438 := n1_; have GW1438 := n2_; have GE1438 := n3_; clear n0_ n1_ n2_ n3_; clear hb hbox hg) | ((with_reducible refine gate_dst (N := 5) rfl ?_); (try (refine gate_guard (by rfl) ?_; dsimp only)); refine box_event ?hg (N := 5) ?hd (cs := #[.int .i64 a1_0, .int .i64 a1_1]) (t := 32) ?hr ?_; (case hd => rfl); (case hg => rfl); (case hr => first | (go_simp; done) | (go_simp; rfl)); intro gb1439 hg w52 hbox hb; have n0_ := Aside0.mk (blk_below (g := gb1438) (o := .cells #[.int .i64 a0_0, .int .i64 a0_1, .slice A0_2 l0_2.length c0_2] 30 (0, 0)) zax2 hb); have n1_ := Aside0.mk (below_step zax7 hb); have n2_ := Aside0.mk (hbox); have n3_ := Aside0.mk ((zax33 : w.heap.size ≤ gb1439)); have n4_ := Aside0.mk ((zax33 : w.heap.size ≤ gb1439)); have n5_ := Aside0.mk ((zax28 : gb1438 ≠ gb1439)); have n6_ := Aside0.mk ((zax29 : gb1439 ≠ gb1438)); clear BK1438; clear HB; have BK1438 := n0_; have HB := n1_; have BK1439 := n2_; have GW1439 := n3_; have GE1439 := n4_; have NB1438_1439 := n5_; have NB1439_1438 := n6_; clear n0_ n1_ n2_ n3_ n4_ n5_ n6_; clear hb hbox hg; have hnb53 := NB1438_1439.out; have hnc53 := NB1439_1438.out; have hcz54_0 : w52.cell? ⟨gb1438, 0, none⟩ = some (.int .i64 a0_0) := (blk_cell BK1438.out 0).trans rfl; have hcz54_1 : w52.cell? ⟨gb1438, 1, none⟩ = some (.int .i64 a0_1) := (blk_cell BK1438.out 1).trans rfl; have hcz54_2 : w52.cell? ⟨gb1438, 2, none⟩ = some (.slice A0_2 l0_2.length c0_2) := (blk_cell BK1438.out 2).trans rfl; have hfz54_0 := blk_frozen BK1438.out 0; have hfz54_1 := blk_frozen BK1438.out 1; have hfz54_2 := blk_frozen BK1438.out 2; have hcz55_0 : w52.cell? ⟨gb1439, 0, none⟩ = some (.int .i64 a1_0) := (blk_cell BK1439.out 0).trans rfl; have hcz55_1 : w52.cell? ⟨gb1439, 1, none⟩ = some (.int .i64 a1_1) := (blk_cell BK1439.out 1).trans rfl; have hfz55_0 := blk_frozen BK1439.out 0; have hfz55_1 := blk_frozen BK1439.out 1) | ((with_reducible refine gate_callee (f := 50) rfl ?_); refine goesL_ (some 15) rfl rfl Try.func50 (by kernel_rfl) rfl #[.agg #[.int .i64 a0_0, .int .i64 a0_1, .slice A0_2 l0_2.length c0_2], .agg #[.int .i64 a1_0, .int .i64 a1_1]] rfl zax16 ?_; (with_reducible refine (impl_graphOf.calls k a0_0 a0_1 _ _ l0_2 a1_0 a1_1 t1440 t1443 true _ ?side1 ?side2 A5.out).mono ?_); (case side1 => exact zax4); (case side2 => exact HC0_2.out); rintro e w56 ⟨v1441, v1444, pv1447, rfl, hgp, ho0, ho1, hb⟩; refine ⟨_, rfl, ?_⟩; obtain ⟨gb1446, rfl, hbox, hge⟩ := hgp.1 rfl; have n0_ := Aside0.mk (Kd.R_lower ho0 (below_size zax1)); have n1_ := Aside0.mk (Kd.S_lower ho1 (below_size zax1)); have n2_ := Aside0.mk (blk_below (g := gb1438) (o := .cells #[.int .i64 a0_0, .int .i64 a0_1, .slice A0_2 l0_2.length c0_2] 30 (0, 0)) zax2 hb); have n3_ := Aside0.mk (blk_below (g := gb1439) (o := .cells #[.int .i64 a1_0, .int .i64 a1_1] 32 (0, 0)) zax8 hb); have n4_ := Aside0.mk (hbox); have n5_ := Aside0.mk ((Nat.le_trans zax35 hge : w.heap.size ≤ gb1446)); have n6_ := Aside0.mk ((Nat.le_trans zax35 hge : w.heap.size ≤ gb1446)); have n7_ := Aside0.mk ((Nat.ne_of_lt (Nat.lt_of_lt_of_le (blk_lt (g := gb1438) (o := .cells #[.int .i64 a0_0, .int .i64 a0_1, .slice A0_2 l0_2.length c0_2] 30 (0, 0)) zax2) hge) : gb1438 ≠ gb1446)); have n8_ := Aside0.mk ((Nat.ne_of_gt (Nat.lt_of_lt_of_le (blk_lt (g := gb1438) (o := .cells #[.int .i64 a0_0, .int .i64 a0_1, .slice A0_2 l0_2.length c0_2] 30 (0, 0)) zax2) hge) : gb1446 ≠ gb1438)); have n9_ := Aside0.mk ((Nat.ne_of_lt (Nat.lt_of_lt_of_le (blk_lt (g := gb1439) (o := .cells #[.int .i64 a1_0, .int .i64 a1_1] 32 (0, 0)) zax8) hge) : gb1439 ≠ gb1446)); have n10_ := Aside0.mk ((Nat.ne_of_gt (Nat.lt_of_lt_of_le (blk_lt (g := gb1439) (o := .cells #[.int .i64 a1_0, .int .i64 a1_1] 32 (0, 0)) zax8) hge) : gb1446 ≠ gb1439)); have n11_ := Aside0.mk (below_step zax1 hb); clear BK1438; clear BK1439; clear HB; have HO1442 := n0_; have HO1445 := n1_; have BK1438 := n2_; have BK1439 := n3_; have BK1446 := n4_; have GW1446 := n5_; have GE1446 := n6_; have NB1438_1446 := n7_; have NB1446_1438 := n8_; have NB1439_1446 := n9_; have NB1446_1439 := n10_; have HB := n11_; clear n0_ n1_ n2_ n3_ n4_ n5_ n6_ n7_ n8_ n9_ n10_ n11_; (try clear hb); (try clear hb2); (try clear hk); (try clear hi); (try clear ho0); (try clear ho1); (try clear hgp); (try clear hbox); (try clear hge); (try clear hna_); (try clear hnb_); obtain ⟨Ao57, co57, eo57⟩ := Kd.R_slice HO1442.out; subst eo57; obtain ⟨Ao58, co58, eo58⟩ := Kd.S_slice HO1445.out; subst eo58) | (go_at_call 82; (with_reducible refine (impl_graph_isTour.calls k gb1446 a0_0 a0_1 A0_2 c0_2 l0_2 a1_0 a1_1 Ao57 co57 t1440 Ao58 co58 t1443 _ _ l2 true _ ?side1 ?side2 ?side3 ?side4 ?side5 ?side6 ?side7 ?side8 ?side9 A7.out).mono ?_); (case side1 => exact zax10); (case side2 => exact zax4); (case side3 => exact HC0_2.out); (case side4 => exact zax15); (case side5 => exact (Kd.R_reads' HO1442.out).2.1); (case side6 => exact zax14); (case side7 => exact (Kd.S_reads' HO1445.out).2.1); (case side8 => exact zax11); (case side9 => exact HC2.out); rintro e w59 ⟨rfl, hb⟩; have n0_ := Aside0.mk (Kd.R_below zax19 hb); have n1_ := Aside0.mk (Kd.S_below zax22 hb); have n2_ := Aside0.mk (blk_below (g := gb1438) (o := .cells #[.int .i64 a0_0, .int .i64 a0_1, .slice A0_2 l0_2.length c0_2] 30 (0, 0)) zax2 hb); have n3_ := Aside0.mk (blk_below (g := gb1439) (o := .cells #[.int .i64 a1_0, .int .i64 a1_1] 32 (0, 0)) zax8 hb); have n4_ := Aside0.mk (blk_below (g := gb1446) (o := .cells #[.int .i64 a0_0, .int .i64 a0_1, .slice A0_2 l0_2.length c0_2, .int .i64 a1_0, .int .i64 a1_1, .slice Ao57 t1440.length co57, .slice Ao58 t1443.length co58] 82 (0, 0)) zax10 hb); have n5_ := Aside0.mk (below_step zax5 hb); clear HO1442; clear HO1445; clear BK1438; clear BK1439; clear BK1446; clear HB; have HO1442 := n0_; have HO1445 := n1_; have BK1438 := n2_; have BK1439 := n3_; have BK1446 := n4_; have HB := n5_; clear n0_ n1_ n2_ n3_ n4_ n5_; (try clear hb); (try clear hb2); (try clear hk); (try clear hi); (try clear hna_); (try clear hnb_)) | (go_at_call 87; (with_reducible refine (impl_graph_closes.calls k gb1446 a0_0 a0_1 A0_2 c0_2 l0_2 a1_0 a1_1 Ao57 co57 t1440 Ao58 co58 t1443 _ _ l2 false _ ?side1 ?side2 ?side3 ?side4 ?side5 ?side6 ?side7 ?side8 ?side9 A9.out).mono ?_); (case side1 => exact zax10); (case side2 => exact zax4); (case side3 => exact HC0_2.out); (case side4 => exact zax15); (case side5 => exact (Kd.R_reads' HO1442.out).2.1); (case side6 => exact zax14); (case side7 => exact (Kd.S_reads' HO1445.out).2.1); (case side8 => exact zax11); (case side9 => exact HC2.out); rintro e w' ⟨rfl, ⟨nd, rfl⟩⟩))
  go_ret2
  exact ⟨_, zax21, zax18, zax5⟩
 subst c10
 have H1 : (if a3 < 0 then (some (([] : List Int), false)) else (if a3 ≥ (l2.length : Int) then (some (([] : List Int), false)) else (if 0 ≤ a3 then (if a3 ≤ (l2.length : Int) then ((slices_Clone_int_int.f (l2.drop (a3 : Int).toNat)).bind fun t1452 => (if t1452.length + (l2.take (a3 : Int).toNat).length < 17592186044416 then (some ((t1452 ++ (l2.take (a3 : Int).toNat)), true)) else (none))) else (none)) else (none)))) = some (r1, r2) := by rw [if_pos rfl] at H; exact H
 clear H
 have H := H1
 clear H1
 by_cases c11 : a3 < 0
 ·rw [if_pos c11] at H
  have c11b0 : decide (a3 < 0) = true := decide_eq_true c11
  clear c11
  simp only [Option.some.injEq, Prod.mk.injEq] at H
  obtain ⟨rfl, rfl⟩ := H
  go_enter Try.func47, Try.ntmps47
  go_wp2_with (first | ((with_reducible refine gate_dst (N := 4) rfl ?_); (try (refine gate_guard (by rfl) ?_; dsimp only)); refine box_event ?hg (N := 4) ?hd (cs := #[.int .i64 a0_0, .int .i64 a0_1, .slice A0_2 l0_2.length c0_2]) (t := 30) ?hr ?_; (case hd => rfl); (case hg => rfl); (case hr => first | (go_simp; done) | (go_simp; rfl)); intro gb1438 hg w12 hbox hb; have n0_ := Aside0.mk (below_step zax3 hb); have n1_ := Aside0.mk (hbox); have n2_ := Aside0.mk ((zax30 : w.heap.size ≤ gb1438)); have n3_ := Aside0.mk ((zax30 : w.heap.size ≤ gb1438)); clear HB; have HB := n0_; have BK1438 := n1_; have GW1438 := n2_; have GE1438 := n3_; clear n0_ n1_ n2_ n3_; clear hb hbox hg) | ((with_reducible refine gate_dst (N := 5) rfl ?_); (try (refine gate_guard (by rfl) ?_; dsimp only)); refine box_event ?hg (N := 5) ?hd (cs := #[.int .i64 a1_0, .int .i64 a1_1]) (t := 32) ?hr ?_; (case hd => rfl); (case hg => rfl); (case hr => first | (go_simp; done) | (go_simp; rfl)); intro gb1439 hg w13 hbox hb; have n0_ := Aside0.mk (blk_below (g := gb1438) (o := .cells #[.int .i64 a0_0, .int .i64 a0_1, .slice A0_2 l0_2.length c0_2] 30 (0, 0)) zax2 hb); have n1_ := Aside0.mk (below_step zax7 hb); have n2_ := Aside0.mk (hbox); have n3_ := Aside0.mk ((zax33 : w.heap.size ≤ gb1439)); have n4_ := Aside0.mk ((zax33 : w.heap.size ≤ gb1439)); have n5_ := Aside0.mk ((zax28 : gb1438 ≠ gb1439)); have n6_ := Aside0.mk ((zax29 : gb1439 ≠ gb1438)); clear BK1438; clear HB; have BK1438 := n0_; have HB := n1_; have BK1439 := n2_; have GW1439 := n3_; have GE1439 := n4_; have NB1438_1439 := n5_; have NB1439_1438 := n6_; clear n0_ n1_ n2_ n3_ n4_ n5_ n6_; clear hb hbox hg; have hnb14 := NB1438_1439.out; have hnc14 := NB1439_1438.out; have hcz15_0 : w13.cell? ⟨gb1438, 0, none⟩ = some (.int .i64 a0_0) := (blk_cell BK1438.out 0).trans rfl; have hcz15_1 : w13.cell? ⟨gb1438, 1, none⟩ = some (.int .i64 a0_1) := (blk_cell BK1438.out 1).trans rfl; have hcz15_2 : w13.cell? ⟨gb1438, 2, none⟩ = some (.slice A0_2 l0_2.length c0_2) := (blk_cell BK1438.out 2).trans rfl; have hfz15_0 := blk_frozen BK1438.out 0; have hfz15_1 := blk_frozen BK1438.out 1; have hfz15_2 := blk_frozen BK1438.out 2; have hcz16_0 : w13.cell? ⟨gb1439, 0, none⟩ = some (.int .i64 a1_0) := (blk_cell BK1439.out 0).trans rfl; have hcz16_1 : w13.cell? ⟨gb1439, 1, none⟩ = some (.int .i64 a1_1) := (blk_cell BK1439.out 1).trans rfl; have hfz16_0 := blk_frozen BK1439.out 0; have hfz16_1 := blk_frozen BK1439.out 1) | ((with_reducible refine gate_callee (f := 50) rfl ?_); refine goesL_ (some 15) rfl rfl Try.func50 (by kernel_rfl) rfl #[.agg #[.int .i64 a0_0, .int .i64 a0_1, .slice A0_2 l0_2.length c0_2], .agg #[.int .i64 a1_0, .int .i64 a1_1]] rfl zax16 ?_; (with_reducible refine (impl_graphOf.calls k a0_0 a0_1 _ _ l0_2 a1_0 a1_1 t1440 t1443 true _ ?side1 ?side2 A5.out).mono ?_); (case side1 => exact zax4); (case side2 => exact HC0_2.out); rintro e w17 ⟨v1441, v1444, pv1447, rfl, hgp, ho0, ho1, hb⟩; refine ⟨_, rfl, ?_⟩; obtain ⟨gb1446, rfl, hbox, hge⟩ := hgp.1 rfl; have n0_ := Aside0.mk (Kd.R_lower ho0 (below_size zax1)); have n1_ := Aside0.mk (Kd.S_lower ho1 (below_size zax1)); have n2_ := Aside0.mk (blk_below (g := gb1438) (o := .cells #[.int .i64 a0_0, .int .i64 a0_1, .slice A0_2 l0_2.length c0_2] 30 (0, 0)) zax2 hb); have n3_ := Aside0.mk (blk_below (g := gb1439) (o := .cells #[.int .i64 a1_0, .int .i64 a1_1] 32 (0, 0)) zax8 hb); have n4_ := Aside0.mk (hbox); have n5_ := Aside0.mk ((Nat.le_trans zax35 hge : w.heap.size ≤ gb1446)); have n6_ := Aside0.mk ((Nat.le_trans zax35 hge : w.heap.size ≤ gb1446)); have n7_ := Aside0.mk ((Nat.ne_of_lt (Nat.lt_of_lt_of_le (blk_lt (g := gb1438) (o := .cells #[.int .i64 a0_0, .int .i64 a0_1, .slice A0_2 l0_2.length c0_2] 30 (0, 0)) zax2) hge) : gb1438 ≠ gb1446)); have n8_ := Aside0.mk ((Nat.ne_of_gt (Nat.lt_of_lt_of_le (blk_lt (g := gb1438) (o := .cells #[.int .i64 a0_0, .int .i64 a0_1, .slice A0_2 l0_2.length c0_2] 30 (0, 0)) zax2) hge) : gb1446 ≠ gb1438)); have n9_ := Aside0.mk ((Nat.ne_of_lt (Nat.lt_of_lt_of_le (blk_lt (g := gb1439) (o := .cells #[.int .i64 a1_0, .int .i64 a1_1] 32 (0, 0)) zax8) hge) : gb1439 ≠ gb1446)); have n10_ := Aside0.mk ((Nat.ne_of_gt (Nat.lt_of_lt_of_le (blk_lt (g := gb1439) (o := .cells #[.int .i64 a1_0, .int .i64 a1_1] 32 (0, 0)) zax8) hge) : gb1446 ≠ gb1439)); have n11_ := Aside0.mk (below_step zax1 hb); clear BK1438; clear BK1439; clear HB; have HO1442 := n0_; have HO1445 := n1_; have BK1438 := n2_; have BK1439 := n3_; have BK1446 := n4_; have GW1446 := n5_; have GE1446 := n6_; have NB1438_1446 := n7_; have NB1446_1438 := n8_; have NB1439_1446 := n9_; have NB1446_1439 := n10_; have HB := n11_; clear n0_ n1_ n2_ n3_ n4_ n5_ n6_ n7_ n8_ n9_ n10_ n11_; (try clear hb); (try clear hb2); (try clear hk); (try clear hi); (try clear ho0); (try clear ho1); (try clear hgp); (try clear hbox); (try clear hge); (try clear hna_); (try clear hnb_); obtain ⟨Ao18, co18, eo18⟩ := Kd.R_slice HO1442.out; subst eo18; obtain ⟨Ao19, co19, eo19⟩ := Kd.S_slice HO1445.out; subst eo19) | (go_at_call 82; (with_reducible refine (impl_graph_isTour.calls k gb1446 a0_0 a0_1 A0_2 c0_2 l0_2 a1_0 a1_1 Ao18 co18 t1440 Ao19 co19 t1443 _ _ l2 true _ ?side1 ?side2 ?side3 ?side4 ?side5 ?side6 ?side7 ?side8 ?side9 A7.out).mono ?_); (case side1 => exact zax10); (case side2 => exact zax4); (case side3 => exact HC0_2.out); (case side4 => exact zax15); (case side5 => exact (Kd.R_reads' HO1442.out).2.1); (case side6 => exact zax14); (case side7 => exact (Kd.S_reads' HO1445.out).2.1); (case side8 => exact zax11); (case side9 => exact HC2.out); rintro e w20 ⟨rfl, hb⟩; have n0_ := Aside0.mk (Kd.R_below zax19 hb); have n1_ := Aside0.mk (Kd.S_below zax22 hb); have n2_ := Aside0.mk (blk_below (g := gb1438) (o := .cells #[.int .i64 a0_0, .int .i64 a0_1, .slice A0_2 l0_2.length c0_2] 30 (0, 0)) zax2 hb); have n3_ := Aside0.mk (blk_below (g := gb1439) (o := .cells #[.int .i64 a1_0, .int .i64 a1_1] 32 (0, 0)) zax8 hb); have n4_ := Aside0.mk (blk_below (g := gb1446) (o := .cells #[.int .i64 a0_0, .int .i64 a0_1, .slice A0_2 l0_2.length c0_2, .int .i64 a1_0, .int .i64 a1_1, .slice Ao18 t1440.length co18, .slice Ao19 t1443.length co19] 82 (0, 0)) zax10 hb); have n5_ := Aside0.mk (below_step zax5 hb); clear HO1442; clear HO1445; clear BK1438; clear BK1439; clear BK1446; clear HB; have HO1442 := n0_; have HO1445 := n1_; have BK1438 := n2_; have BK1439 := n3_; have BK1446 := n4_; have HB := n5_; clear n0_ n1_ n2_ n3_ n4_ n5_; (try clear hb); (try clear hb2); (try clear hk); (try clear hi); (try clear hna_); (try clear hnb_)) | (go_at_call 87; (with_reducible refine (impl_graph_closes.calls k gb1446 a0_0 a0_1 A0_2 c0_2 l0_2 a1_0 a1_1 Ao18 co18 t1440 Ao19 co19 t1443 _ _ l2 true _ ?side1 ?side2 ?side3 ?side4 ?side5 ?side6 ?side7 ?side8 ?side9 A9.out).mono ?_); (case side1 => exact zax10); (case side2 => exact zax4); (case side3 => exact HC0_2.out); (case side4 => exact zax15); (case side5 => exact (Kd.R_reads' HO1442.out).2.1); (case side6 => exact zax14); (case side7 => exact (Kd.S_reads' HO1445.out).2.1); (case side8 => exact zax11); (case side9 => exact HC2.out); rintro e w' ⟨rfl, ⟨nd, rfl⟩⟩))
  go_ret2
  exact ⟨_, zax21, zax18, zax5⟩
 rw [if_neg c11] at H
 have c11b0 : decide (a3 < 0) = false := decide_eq_false c11
 clear c11
 by_cases c21 : a3 ≥ (l2.length : Int)
 ·rw [if_pos c21] at H
  have c21b0 : decide ((l2.length : Int) ≤ a3) = true := decide_eq_true c21
  clear c21
  simp only [Option.some.injEq, Prod.mk.injEq] at H
  obtain ⟨rfl, rfl⟩ := H
  go_enter Try.func47, Try.ntmps47
  go_wp2_with (first | ((with_reducible refine gate_dst (N := 4) rfl ?_); (try (refine gate_guard (by rfl) ?_; dsimp only)); refine box_event ?hg (N := 4) ?hd (cs := #[.int .i64 a0_0, .int .i64 a0_1, .slice A0_2 l0_2.length c0_2]) (t := 30) ?hr ?_; (case hd => rfl); (case hg => rfl); (case hr => first | (go_simp; done) | (go_simp; rfl)); intro gb1438 hg w22 hbox hb; have n0_ := Aside0.mk (below_step zax3 hb); have n1_ := Aside0.mk (hbox); have n2_ := Aside0.mk ((zax30 : w.heap.size ≤ gb1438)); have n3_ := Aside0.mk ((zax30 : w.heap.size ≤ gb1438)); clear HB; have HB := n0_; have BK1438 := n1_; have GW1438 := n2_; have GE1438 := n3_; clear n0_ n1_ n2_ n3_; clear hb hbox hg) | ((with_reducible refine gate_dst (N := 5) rfl ?_); (try (refine gate_guard (by rfl) ?_; dsimp only)); refine box_event ?hg (N := 5) ?hd (cs := #[.int .i64 a1_0, .int .i64 a1_1]) (t := 32) ?hr ?_; (case hd => rfl); (case hg => rfl); (case hr => first | (go_simp; done) | (go_simp; rfl)); intro gb1439 hg w23 hbox hb; have n0_ := Aside0.mk (blk_below (g := gb1438) (o := .cells #[.int .i64 a0_0, .int .i64 a0_1, .slice A0_2 l0_2.length c0_2] 30 (0, 0)) zax2 hb); have n1_ := Aside0.mk (below_step zax7 hb); have n2_ := Aside0.mk (hbox); have n3_ := Aside0.mk ((zax33 : w.heap.size ≤ gb1439)); have n4_ := Aside0.mk ((zax33 : w.heap.size ≤ gb1439)); have n5_ := Aside0.mk ((zax28 : gb1438 ≠ gb1439)); have n6_ := Aside0.mk ((zax29 : gb1439 ≠ gb1438)); clear BK1438; clear HB; have BK1438 := n0_; have HB := n1_; have BK1439 := n2_; have GW1439 := n3_; have GE1439 := n4_; have NB1438_1439 := n5_; have NB1439_1438 := n6_; clear n0_ n1_ n2_ n3_ n4_ n5_ n6_; clear hb hbox hg; have hnb24 := NB1438_1439.out; have hnc24 := NB1439_1438.out; have hcz25_0 : w23.cell? ⟨gb1438, 0, none⟩ = some (.int .i64 a0_0) := (blk_cell BK1438.out 0).trans rfl; have hcz25_1 : w23.cell? ⟨gb1438, 1, none⟩ = some (.int .i64 a0_1) := (blk_cell BK1438.out 1).trans rfl; have hcz25_2 : w23.cell? ⟨gb1438, 2, none⟩ = some (.slice A0_2 l0_2.length c0_2) := (blk_cell BK1438.out 2).trans rfl; have hfz25_0 := blk_frozen BK1438.out 0; have hfz25_1 := blk_frozen BK1438.out 1; have hfz25_2 := blk_frozen BK1438.out 2; have hcz26_0 : w23.cell? ⟨gb1439, 0, none⟩ = some (.int .i64 a1_0) := (blk_cell BK1439.out 0).trans rfl; have hcz26_1 : w23.cell? ⟨gb1439, 1, none⟩ = some (.int .i64 a1_1) := (blk_cell BK1439.out 1).trans rfl; have hfz26_0 := blk_frozen BK1439.out 0; have hfz26_1 := blk_frozen BK1439.out 1) | ((with_reducible refine gate_callee (f := 50) rfl ?_); refine goesL_ (some 15) rfl rfl Try.func50 (by kernel_rfl) rfl #[.agg #[.int .i64 a0_0, .int .i64 a0_1, .slice A0_2 l0_2.length c0_2], .agg #[.int .i64 a1_0, .int .i64 a1_1]] rfl zax16 ?_; (with_reducible refine (impl_graphOf.calls k a0_0 a0_1 _ _ l0_2 a1_0 a1_1 t1440 t1443 true _ ?side1 ?side2 A5.out).mono ?_); (case side1 => exact zax4); (case side2 => exact HC0_2.out); rintro e w27 ⟨v1441, v1444, pv1447, rfl, hgp, ho0, ho1, hb⟩; refine ⟨_, rfl, ?_⟩; obtain ⟨gb1446, rfl, hbox, hge⟩ := hgp.1 rfl; have n0_ := Aside0.mk (Kd.R_lower ho0 (below_size zax1)); have n1_ := Aside0.mk (Kd.S_lower ho1 (below_size zax1)); have n2_ := Aside0.mk (blk_below (g := gb1438) (o := .cells #[.int .i64 a0_0, .int .i64 a0_1, .slice A0_2 l0_2.length c0_2] 30 (0, 0)) zax2 hb); have n3_ := Aside0.mk (blk_below (g := gb1439) (o := .cells #[.int .i64 a1_0, .int .i64 a1_1] 32 (0, 0)) zax8 hb); have n4_ := Aside0.mk (hbox); have n5_ := Aside0.mk ((Nat.le_trans zax35 hge : w.heap.size ≤ gb1446)); have n6_ := Aside0.mk ((Nat.le_trans zax35 hge : w.heap.size ≤ gb1446)); have n7_ := Aside0.mk ((Nat.ne_of_lt (Nat.lt_of_lt_of_le (blk_lt (g := gb1438) (o := .cells #[.int .i64 a0_0, .int .i64 a0_1, .slice A0_2 l0_2.length c0_2] 30 (0, 0)) zax2) hge) : gb1438 ≠ gb1446)); have n8_ := Aside0.mk ((Nat.ne_of_gt (Nat.lt_of_lt_of_le (blk_lt (g := gb1438) (o := .cells #[.int .i64 a0_0, .int .i64 a0_1, .slice A0_2 l0_2.length c0_2] 30 (0, 0)) zax2) hge) : gb1446 ≠ gb1438)); have n9_ := Aside0.mk ((Nat.ne_of_lt (Nat.lt_of_lt_of_le (blk_lt (g := gb1439) (o := .cells #[.int .i64 a1_0, .int .i64 a1_1] 32 (0, 0)) zax8) hge) : gb1439 ≠ gb1446)); have n10_ := Aside0.mk ((Nat.ne_of_gt (Nat.lt_of_lt_of_le (blk_lt (g := gb1439) (o := .cells #[.int .i64 a1_0, .int .i64 a1_1] 32 (0, 0)) zax8) hge) : gb1446 ≠ gb1439)); have n11_ := Aside0.mk (below_step zax1 hb); clear BK1438; clear BK1439; clear HB; have HO1442 := n0_; have HO1445 := n1_; have BK1438 := n2_; have BK1439 := n3_; have BK1446 := n4_; have GW1446 := n5_; have GE1446 := n6_; have NB1438_1446 := n7_; have NB1446_1438 := n8_; have NB1439_1446 := n9_; have NB1446_1439 := n10_; have HB := n11_; clear n0_ n1_ n2_ n3_ n4_ n5_ n6_ n7_ n8_ n9_ n10_ n11_; (try clear hb); (try clear hb2); (try clear hk); (try clear hi); (try clear ho0); (try clear ho1); (try clear hgp); (try clear hbox); (try clear hge); (try clear hna_); (try clear hnb_); obtain ⟨Ao28, co28, eo28⟩ := Kd.R_slice HO1442.out; subst eo28; obtain ⟨Ao29, co29, eo29⟩ := Kd.S_slice HO1445.out; subst eo29) | (go_at_call 82; (with_reducible refine (impl_graph_isTour.calls k gb1446 a0_0 a0_1 A0_2 c0_2 l0_2 a1_0 a1_1 Ao28 co28 t1440 Ao29 co29 t1443 _ _ l2 true _ ?side1 ?side2 ?side3 ?side4 ?side5 ?side6 ?side7 ?side8 ?side9 A7.out).mono ?_); (case side1 => exact zax10); (case side2 => exact zax4); (case side3 => exact HC0_2.out); (case side4 => exact zax15); (case side5 => exact (Kd.R_reads' HO1442.out).2.1); (case side6 => exact zax14); (case side7 => exact (Kd.S_reads' HO1445.out).2.1); (case side8 => exact zax11); (case side9 => exact HC2.out); rintro e w30 ⟨rfl, hb⟩; have n0_ := Aside0.mk (Kd.R_below zax19 hb); have n1_ := Aside0.mk (Kd.S_below zax22 hb); have n2_ := Aside0.mk (blk_below (g := gb1438) (o := .cells #[.int .i64 a0_0, .int .i64 a0_1, .slice A0_2 l0_2.length c0_2] 30 (0, 0)) zax2 hb); have n3_ := Aside0.mk (blk_below (g := gb1439) (o := .cells #[.int .i64 a1_0, .int .i64 a1_1] 32 (0, 0)) zax8 hb); have n4_ := Aside0.mk (blk_below (g := gb1446) (o := .cells #[.int .i64 a0_0, .int .i64 a0_1, .slice A0_2 l0_2.length c0_2, .int .i64 a1_0, .int .i64 a1_1, .slice Ao28 t1440.length co28, .slice Ao29 t1443.length co29] 82 (0, 0)) zax10 hb); have n5_ := Aside0.mk (below_step zax5 hb); clear HO1442; clear HO1445; clear BK1438; clear BK1439; clear BK1446; clear HB; have HO1442 := n0_; have HO1445 := n1_; have BK1438 := n2_; have BK1439 := n3_; have BK1446 := n4_; have HB := n5_; clear n0_ n1_ n2_ n3_ n4_ n5_; (try clear hb); (try clear hb2); (try clear hk); (try clear hi); (try clear hna_); (try clear hnb_)) | (go_at_call 87; (with_reducible refine (impl_graph_closes.calls k gb1446 a0_0 a0_1 A0_2 c0_2 l0_2 a1_0 a1_1 Ao28 co28 t1440 Ao29 co29 t1443 _ _ l2 true _ ?side1 ?side2 ?side3 ?side4 ?side5 ?side6 ?side7 ?side8 ?side9 A9.out).mono ?_); (case side1 => exact zax10); (case side2 => exact zax4); (case side3 => exact HC0_2.out); (case side4 => exact zax15); (case side5 => exact (Kd.R_reads' HO1442.out).2.1); (case side6 => exact zax14); (case side7 => exact (Kd.S_reads' HO1445.out).2.1); (case side8 => exact zax11); (case side9 => exact HC2.out); rintro e w' ⟨rfl, ⟨nd, rfl⟩⟩))
  go_ret2
  exact ⟨_, zax21, zax18, zax5⟩
 rw [if_neg c21] at H
 have c21b0 : decide ((l2.length : Int) ≤ a3) = false := decide_eq_false c21
 clear c21
 by_cases c31 : 0 ≤ a3
 rotate_left
 ·rw [if_neg c31] at H
  exact absurd H (by simp)
 rw [if_pos c31] at H
 have c31b0 := eq_true c31
 have c31b1 : decide (0 ≤ a3) = true := decide_eq_true c31
 clear c31
 by_cases c32 : a3 ≤ (l2.length : Int)
 rotate_left
 ·rw [if_neg c32] at H
  exact absurd H (by simp)
 rw [if_pos c32] at H
 have c32b0 := eq_true c32
 have c32b1 : decide (a3 ≤ (l2.length : Int)) = true := decide_eq_true c32
 clear c32
 replace H := Option.bind_eq_some_iff.mp H
 obtain ⟨t1452, A330, H⟩ := H
 replace H : (if t1452.length + (l2.take (a3 : Int).toNat).length < 17592186044416 then (some ((t1452 ++ (l2.take (a3 : Int).toNat)), true)) else (none)) = some (r1, r2) := H
 have A33 := Aside0.mk A330
 clear A330
 have c34b0 := eq_true (of_decide_eq_true zax20 : 0 ≤ a3)
 have c35b0 := eq_true (of_decide_eq_true zax20 : a3 ≤ (l2.length : Int))
 by_cases c36 : t1452.length + (l2.take (a3 : Int).toNat).length < 17592186044416
 rotate_left
 ·rw [if_neg c36] at H
  exact absurd H (by simp)
 rw [if_pos c36] at H
 have LMc36 := Aside0.mk c36
 clear c36
 obtain ⟨y1456, hy1456⟩ : ∃ y_ : List Int, y_ = (t1452 ++ (l2.take (a3 : Int).toNat)) := ⟨_, rfl⟩
 replace H : (some (y1456, true)) = some (r1, r2) := by first | (rw [hy1456]; with_reducible exact H) | (have H2_ := (Option.bind_some _ _).symm.trans H; rw [hy1456]; with_reducible exact H2_) | (have H2_ := (Option.bind_some _ _).symm.trans H; with_reducible exact H2_) | with_reducible exact H | (rw [hy1456]; exact H) | exact H
 have Ny1456 := Aside0.mk hy1456
 clear hy1456
 simp only [Option.some.injEq, Prod.mk.injEq] at H
 obtain ⟨rfl, rfl⟩ := H
 go_enter Try.func47, Try.ntmps47
 try go_wp2_with (first | ((with_reducible refine gate_dst (N := 4) rfl ?_); (try (refine gate_guard (by rfl) ?_; dsimp only)); refine box_event ?hg (N := 4) ?hd (cs := #[.int .i64 a0_0, .int .i64 a0_1, .slice A0_2 l0_2.length c0_2]) (t := 30) ?hr ?_; (case hd => rfl); (case hg => rfl); (case hr => first | (go_simp; done) | (go_simp; rfl)); intro gb1438 hg w37 hbox hb; have n0_ := Aside0.mk (below_step zax3 hb); have n1_ := Aside0.mk (hbox); have n2_ := Aside0.mk ((zax30 : w.heap.size ≤ gb1438)); have n3_ := Aside0.mk ((zax30 : w.heap.size ≤ gb1438)); clear HB; have HB := n0_; have BK1438 := n1_; have GW1438 := n2_; have GE1438 := n3_; clear n0_ n1_ n2_ n3_; clear hb hbox hg) | ((with_reducible refine gate_dst (N := 5) rfl ?_); (try (refine gate_guard (by rfl) ?_; dsimp only)); refine box_event ?hg (N := 5) ?hd (cs := #[.int .i64 a1_0, .int .i64 a1_1]) (t := 32) ?hr ?_; (case hd => rfl); (case hg => rfl); (case hr => first | (go_simp; done) | (go_simp; rfl)); intro gb1439 hg w38 hbox hb; have n0_ := Aside0.mk (blk_below (g := gb1438) (o := .cells #[.int .i64 a0_0, .int .i64 a0_1, .slice A0_2 l0_2.length c0_2] 30 (0, 0)) zax2 hb); have n1_ := Aside0.mk (below_step zax7 hb); have n2_ := Aside0.mk (hbox); have n3_ := Aside0.mk ((zax33 : w.heap.size ≤ gb1439)); have n4_ := Aside0.mk ((zax33 : w.heap.size ≤ gb1439)); have n5_ := Aside0.mk ((zax28 : gb1438 ≠ gb1439)); have n6_ := Aside0.mk ((zax29 : gb1439 ≠ gb1438)); clear BK1438; clear HB; have BK1438 := n0_; have HB := n1_; have BK1439 := n2_; have GW1439 := n3_; have GE1439 := n4_; have NB1438_1439 := n5_; have NB1439_1438 := n6_; clear n0_ n1_ n2_ n3_ n4_ n5_ n6_; clear hb hbox hg; have hnb39 := NB1438_1439.out; have hnc39 := NB1439_1438.out; have hcz40_0 : w38.cell? ⟨gb1438, 0, none⟩ = some (.int .i64 a0_0) := (blk_cell BK1438.out 0).trans rfl; have hcz40_1 : w38.cell? ⟨gb1438, 1, none⟩ = some (.int .i64 a0_1) := (blk_cell BK1438.out 1).trans rfl; have hcz40_2 : w38.cell? ⟨gb1438, 2, none⟩ = some (.slice A0_2 l0_2.length c0_2) := (blk_cell BK1438.out 2).trans rfl; have hfz40_0 := blk_frozen BK1438.out 0; have hfz40_1 := blk_frozen BK1438.out 1; have hfz40_2 := blk_frozen BK1438.out 2; have hcz41_0 : w38.cell? ⟨gb1439, 0, none⟩ = some (.int .i64 a1_0) := (blk_cell BK1439.out 0).trans rfl; have hcz41_1 : w38.cell? ⟨gb1439, 1, none⟩ = some (.int .i64 a1_1) := (blk_cell BK1439.out 1).trans rfl; have hfz41_0 := blk_frozen BK1439.out 0; have hfz41_1 := blk_frozen BK1439.out 1) | ((with_reducible refine gate_callee (f := 50) rfl ?_); refine goesL_ (some 15) rfl rfl Try.func50 (by kernel_rfl) rfl #[.agg #[.int .i64 a0_0, .int .i64 a0_1, .slice A0_2 l0_2.length c0_2], .agg #[.int .i64 a1_0, .int .i64 a1_1]] rfl zax16 ?_; (with_reducible refine (impl_graphOf.calls k a0_0 a0_1 _ _ l0_2 a1_0 a1_1 t1440 t1443 true _ ?side1 ?side2 A5.out).mono ?_); (case side1 => exact zax4); (case side2 => exact HC0_2.out); rintro e w42 ⟨v1441, v1444, pv1447, rfl, hgp, ho0, ho1, hb⟩; refine ⟨_, rfl, ?_⟩; obtain ⟨gb1446, rfl, hbox, hge⟩ := hgp.1 rfl; have n0_ := Aside0.mk (Kd.R_lower ho0 (below_size zax1)); have n1_ := Aside0.mk (Kd.S_lower ho1 (below_size zax1)); have n2_ := Aside0.mk (blk_below (g := gb1438) (o := .cells #[.int .i64 a0_0, .int .i64 a0_1, .slice A0_2 l0_2.length c0_2] 30 (0, 0)) zax2 hb); have n3_ := Aside0.mk (blk_below (g := gb1439) (o := .cells #[.int .i64 a1_0, .int .i64 a1_1] 32 (0, 0)) zax8 hb); have n4_ := Aside0.mk (hbox); have n5_ := Aside0.mk ((Nat.le_trans zax35 hge : w.heap.size ≤ gb1446)); have n6_ := Aside0.mk ((Nat.le_trans zax35 hge : w.heap.size ≤ gb1446)); have n7_ := Aside0.mk ((Nat.ne_of_lt (Nat.lt_of_lt_of_le (blk_lt (g := gb1438) (o := .cells #[.int .i64 a0_0, .int .i64 a0_1, .slice A0_2 l0_2.length c0_2] 30 (0, 0)) zax2) hge) : gb1438 ≠ gb1446)); have n8_ := Aside0.mk ((Nat.ne_of_gt (Nat.lt_of_lt_of_le (blk_lt (g := gb1438) (o := .cells #[.int .i64 a0_0, .int .i64 a0_1, .slice A0_2 l0_2.length c0_2] 30 (0, 0)) zax2) hge) : gb1446 ≠ gb1438)); have n9_ := Aside0.mk ((Nat.ne_of_lt (Nat.lt_of_lt_of_le (blk_lt (g := gb1439) (o := .cells #[.int .i64 a1_0, .int .i64 a1_1] 32 (0, 0)) zax8) hge) : gb1439 ≠ gb1446)); have n10_ := Aside0.mk ((Nat.ne_of_gt (Nat.lt_of_lt_of_le (blk_lt (g := gb1439) (o := .cells #[.int .i64 a1_0, .int .i64 a1_1] 32 (0, 0)) zax8) hge) : gb1446 ≠ gb1439)); have n11_ := Aside0.mk (below_step zax1 hb); clear BK1438; clear BK1439; clear HB; have HO1442 := n0_; have HO1445 := n1_; have BK1438 := n2_; have BK1439 := n3_; have BK1446 := n4_; have GW1446 := n5_; have GE1446 := n6_; have NB1438_1446 := n7_; have NB1446_1438 := n8_; have NB1439_1446 := n9_; have NB1446_1439 := n10_; have HB := n11_; clear n0_ n1_ n2_ n3_ n4_ n5_ n6_ n7_ n8_ n9_ n10_ n11_; (try clear hb); (try clear hb2); (try clear hk); (try clear hi); (try clear ho0); (try clear ho1); (try clear hgp); (try clear hbox); (try clear hge); (try clear hna_); (try clear hnb_); obtain ⟨Ao43, co43, eo43⟩ := Kd.R_slice HO1442.out; subst eo43; obtain ⟨Ao44, co44, eo44⟩ := Kd.S_slice HO1445.out; subst eo44) | (go_at_call 82; (with_reducible refine (impl_graph_isTour.calls k gb1446 a0_0 a0_1 A0_2 c0_2 l0_2 a1_0 a1_1 Ao43 co43 t1440 Ao44 co44 t1443 _ _ l2 true _ ?side1 ?side2 ?side3 ?side4 ?side5 ?side6 ?side7 ?side8 ?side9 A7.out).mono ?_); (case side1 => exact zax10); (case side2 => exact zax4); (case side3 => exact HC0_2.out); (case side4 => exact zax15); (case side5 => exact (Kd.R_reads' HO1442.out).2.1); (case side6 => exact zax14); (case side7 => exact (Kd.S_reads' HO1445.out).2.1); (case side8 => exact zax11); (case side9 => exact HC2.out); rintro e w45 ⟨rfl, hb⟩; have n0_ := Aside0.mk (Kd.R_below zax19 hb); have n1_ := Aside0.mk (Kd.S_below zax22 hb); have n2_ := Aside0.mk (blk_below (g := gb1438) (o := .cells #[.int .i64 a0_0, .int .i64 a0_1, .slice A0_2 l0_2.length c0_2] 30 (0, 0)) zax2 hb); have n3_ := Aside0.mk (blk_below (g := gb1439) (o := .cells #[.int .i64 a1_0, .int .i64 a1_1] 32 (0, 0)) zax8 hb); have n4_ := Aside0.mk (blk_below (g := gb1446) (o := .cells #[.int .i64 a0_0, .int .i64 a0_1, .slice A0_2 l0_2.length c0_2, .int .i64 a1_0, .int .i64 a1_1, .slice Ao43 t1440.length co43, .slice Ao44 t1443.length co44] 82 (0, 0)) zax10 hb); have n5_ := Aside0.mk (below_step zax5 hb); clear HO1442; clear HO1445; clear BK1438; clear BK1439; clear BK1446; clear HB; have HO1442 := n0_; have HO1445 := n1_; have BK1438 := n2_; have BK1439 := n3_; have BK1446 := n4_; have HB := n5_; clear n0_ n1_ n2_ n3_ n4_ n5_; (try clear hb); (try clear hb2); (try clear hk); (try clear hi); (try clear hna_); (try clear hnb_)) | (go_at_call 87; (with_reducible refine (impl_graph_closes.calls k gb1446 a0_0 a0_1 A0_2 c0_2 l0_2 a1_0 a1_1 Ao43 co43 t1440 Ao44 co44 t1443 _ _ l2 true _ ?side1 ?side2 ?side3 ?side4 ?side5 ?side6 ?side7 ?side8 ?side9 A9.out).mono ?_); (case side1 => exact zax10); (case side2 => exact zax4); (case side3 => exact HC0_2.out); (case side4 => exact zax15); (case side5 => exact (Kd.R_reads' HO1442.out).2.1); (case side6 => exact zax14); (case side7 => exact (Kd.S_reads' HO1445.out).2.1); (case side8 => exact zax11); (case side9 => exact HC2.out); rintro e w' ⟨rfl, ⟨nd, rfl⟩⟩))
 (try (rw [drewN_self w45]; generalize hq_ : World.drewN w45 _ = w45; have n0_ : Aside0 (Kd.R (Kd.int .i64) 3 w45 w.heap.size (fun k_ => True) (.slice Ao43 t1440.length co43) t1440) := ⟨by rw [← hq_]; exact zax19⟩; have n1_ : Aside0 (Kd.S (Kd.slice 3 (Kd.int .i64)) 22 w45 w.heap.size (fun k_ => some k_ ≠ (.slice Ao43 t1440.length co43 : Value).ownBlock) (.slice Ao44 t1443.length co44) t1443) := ⟨by rw [← hq_]; exact zax22⟩; have n2_ : Aside0 (w45.heap[gb1438]? = some (.cells #[.int .i64 a0_0, .int .i64 a0_1, .slice A0_2 l0_2.length c0_2] 30 (0, 0))) := ⟨by rw [← hq_]; exact zax2⟩; have n3_ : Aside0 (w45.heap[gb1439]? = some (.cells #[.int .i64 a1_0, .int .i64 a1_1] 32 (0, 0))) := ⟨by rw [← hq_]; exact zax8⟩; have n4_ : Aside0 (w45.heap[gb1446]? = some (.cells #[.int .i64 a0_0, .int .i64 a0_1, .slice A0_2 l0_2.length c0_2, .int .i64 a1_0, .int .i64 a1_1, .slice Ao43 t1440.length co43, .slice Ao44 t1443.length co44] 82 (0, 0))) := ⟨by rw [← hq_]; exact zax10⟩; have n5_ : Aside0 (Below w.heap.size w w45) := ⟨by rw [← hq_]; exact zax5⟩; clear HO1442 HO1445 BK1438 BK1439 BK1446 HB hq_; have HO1442 := n0_; have HO1445 := n1_; have BK1438 := n2_; have BK1439 := n3_; have BK1446 := n4_; have HB := n5_; clear n0_ n1_ n2_ n3_ n4_ n5_))
 have n0_ := Aside0.mk (Kd.R_drew HO1442.out)
 have n1_ := Aside0.mk (Kd.S_drew HO1445.out)
 have n2_ := Aside0.mk (blk_drew BK1438.out)
 have n3_ := Aside0.mk (blk_drew BK1439.out)
 have n4_ := Aside0.mk (blk_drew BK1446.out)
 have n5_ := Aside0.mk (below_drew1 HB.out)
 clear HO1442
 clear HO1445
 clear BK1438
 clear BK1439
 clear BK1446
 clear HB
 have HO1442 := n0_
 have HO1445 := n1_
 have BK1438 := n2_
 have BK1439 := n3_
 have BK1446 := n4_
 have HB := n5_
 clear n0_ n1_ n2_ n3_ n4_ n5_
 obtain ⟨i047, hi047, _, hsz47, _⟩ := info_parts info3
 obtain ⟨A47, hcut47, hA47, hC47⟩ := print_drop_of (P := Try.prog) (Value.int .i64) 0 22 3 .i64 Try.underlying22 hi047 hsz47 A2 c2 l2 a3 (of_decide_eq_true zax20) (of_decide_eq_true zax20) HC2.out
 have HR1451 := Aside0.mk (Kd.C_of_reads (h1 := fun _ => rfl) (hA47 _ (Kd.reads_of_C HR2.out)))
 have HC1451 := Aside0.mk hC47
 clear hA47 hC47 hi047 hsz47
 obtain ⟨i048, hi048, _, hsz48, _⟩ := info_parts info3
 obtain ⟨hcut48, hA48, hC48⟩ := print_take_of (P := Try.prog) (Value.int .i64) 0 22 3 .i64 Try.underlying22 hi048 hsz48 A2 c2 l2 a3 (of_decide_eq_true zax20) (of_decide_eq_true zax20) HC2.out
 have HR1455 := Aside0.mk (Kd.C_of_reads (h1 := fun _ => rfl) (hA48 _ (Kd.reads_of_C HR2.out)))
 have HC1455 := Aside0.mk hC48
 clear hA48 hC48 hi048 hsz48
 have hcl48 := Aside0.mk (show (l2.take (a3 : Int).toNat).length = a3.toNat from (by rw [List.length_take]; have h_ : (a3 : Int) ≤ (l2.length : Int) := of_decide_eq_true zax20; omega))
 refine start_ (n := 10) (S := fun w' => True) (ds := []) #[false, false, false, false, false, false, false, false, false, false] (by kernel_rfl) rfl rfl trivial (fun hHeld => ?_); refine with_tabW impl_SpinTour.tab4 impl_SpinTour.bits4 (fun HT_ HW_ => ?_)
 generalize w45.drew = w46 at HO1442 HO1445 BK1438 BK1439 BK1446 HB HR1451 HR1455 hHeld ⊢
 refine pure_ (i := 0) (N := some 42) (v := ?_) (a' := ?_) #[true, false, false, false, false, false, false, false, false, false] rfl rfl (any_of HT_.out (by kernel_rfl)) (fun _ _ _ h => h) (Or.inl ⟨by rfl, ?_⟩) ?_ ?_
 rotate_left
 ·intro w'
  go_simp
  with_reducible rfl
 rotate_left
 ·simp only [Act.put, List.setIfInBounds_toArray, List.set_cons_zero, List.set_cons_succ, i64_w, i32_w]
  rfl
 refine pure_ (i := 1) (N := some 43) (v := ?_) (a' := ?_) #[true, true, false, false, false, false, false, false, false, false] rfl rfl (any_of HT_.out (by kernel_rfl)) (fun _ _ _ h => h) (Or.inl ⟨by rfl, ?_⟩) ?_ ?_
 rotate_left
 ·intro w'
  go_simp
  with_reducible rfl
 rotate_left
 ·simp only [Act.put, List.setIfInBounds_toArray, List.set_cons_zero, List.set_cons_succ, i64_w, i32_w]
  rfl
 refine pure_ (i := 2) (N := some 44) (v := ?_) (a' := ?_) #[true, true, true, false, false, false, false, false, false, false] rfl rfl (any_of HT_.out (by kernel_rfl)) (fun _ _ _ h => h) (Or.inl ⟨by rfl, ?_⟩) ?_ ?_
 rotate_left
 ·intro w'
  go_simp
  with_reducible rfl
 rotate_left
 ·simp only [Act.put, List.setIfInBounds_toArray, List.set_cons_zero, List.set_cons_succ, i64_w, i32_w]
  rfl
 refine pure_ (i := 4) (N := some 46) (v := ?_) (a' := ?_) #[true, true, true, false, true, false, false, false, false, false] rfl rfl (any_of HT_.out (by kernel_rfl)) (fun _ _ _ h => h) (Or.inl ⟨by rfl, ?_⟩) ?_ ?_
 rotate_left
 ·intro w'
  go_simp
  with_reducible rfl
 rotate_left
 ·simp only [Act.put, List.setIfInBounds_toArray, List.set_cons_zero, List.set_cons_succ, i64_w, i32_w]
  rfl
 refine pure_ (i := 5) (N := some 47) (v := ?_) (a' := ?_) #[true, true, true, false, true, true, false, false, false, false] rfl rfl (any_of HT_.out (by kernel_rfl)) (fun _ _ _ h => h) (Or.inl ⟨by rfl, ?_⟩) ?_ ?_
 rotate_left
 ·intro w'
  go_simp
  with_reducible rfl
 rotate_left
 ·simp only [Act.put, List.setIfInBounds_toArray, List.set_cons_zero, List.set_cons_succ, i64_w, i32_w]
  rfl
 refine pure_ (i := 6) (N := some 48) (v := ?_) (a' := ?_) #[true, true, true, false, true, true, true, false, false, false] rfl rfl (any_of HT_.out (by kernel_rfl)) (fun _ _ _ h => h) (Or.inl ⟨by rfl, ?_⟩) ?_ ?_
 rotate_left
 ·intro w'
  go_simp
  with_reducible rfl
 rotate_left
 ·simp only [Act.put, List.setIfInBounds_toArray, List.set_cons_zero, List.set_cons_succ, i64_w, i32_w]
  rfl
 refine one_ (i := 3) (N := some 45) #[true, true, true, true, true, true, true, false, false, false] rfl rfl (one_of HT_.out (by kernel_rfl)) (by decide) (fun K hK => ?_)
 refine goes_ Try.func88 (by kernel_rfl) rfl #[.slice A47 (l2.drop (a3 : Int).toNat).length (c2 - a3.toNat)] (by rfl) rfl rfl zax27 ?_
 with_reducible refine (slices_Clone_int_int.calls _ _ (l2.drop (a3 : Int).toNat) t1452 _ ?side1 ?side2 A33.out).mono ?_
 (case side1 => repeat (first | exact (Kd.C_below HR1451.out HB.out) | (with_reducible refine Kd.C_alloc ?_ _) | (with_reducible refine Kd.C_drewN ?_ _) | (with_reducible refine Kd.C_drew ?_)))
 (case side2 => exact HC1451.out)
 rintro e w49 ⟨v1453, rfl, ho0, hb⟩
 refine ⟨_, rfl, ?_⟩
 have n0_ := Aside0.mk (Kd.R_elder' zax19 (Kd.R_base ho0) hb)
 have n1_ := Aside0.mk (Kd.S_elder' zax22 (Kd.R_base ho0) hb)
 have n2_ := Aside0.mk (Kd.R_lower (Kd.R_new' ho0 (Kd.R_lt zax19)) (below_size zax5))
 have n3_ := Aside0.mk (blk_below (g := gb1438) (o := .cells #[.int .i64 a0_0, .int .i64 a0_1, .slice A0_2 l0_2.length c0_2] 30 (0, 0)) zax2 hb)
 have n4_ := Aside0.mk (blk_below (g := gb1439) (o := .cells #[.int .i64 a1_0, .int .i64 a1_1] 32 (0, 0)) zax8 hb)
 have n5_ := Aside0.mk (blk_below (g := gb1446) (o := .cells #[.int .i64 a0_0, .int .i64 a0_1, .slice A0_2 l0_2.length c0_2, .int .i64 a1_0, .int .i64 a1_1, .slice Ao43 t1440.length co43, .slice Ao44 t1443.length co44] 82 (0, 0)) zax10 hb)
 have n6_ := Aside0.mk (below_step zax5 hb)
 clear HO1442
 clear HO1445
 clear BK1438
 clear BK1439
 clear BK1446
 clear HB
 have HO1442 := n0_
 have HO1445 := n1_
 have HO1454 := n2_
 have BK1438 := n3_
 have BK1439 := n4_
 have BK1446 := n5_
 have HB := n6_
 clear n0_ n1_ n2_ n3_ n4_ n5_ n6_
 (try clear hb)
 (try clear hb2)
 (try clear hk)
 (try clear hi)
 (try clear ho0)
 (try clear hna_)
 (try clear hnb_)
 refine hK.out _ _ trivial (fun hHeld => ?_)
 clear hK K
 refine norm_ (a' := ?_) ?_ ?_
 rotate_left
 ·show Act.put _ (some 45) _ = _
  simp only [Act.put, List.setIfInBounds_toArray, List.set_cons_zero, List.set_cons_succ, i64_w, i32_w]
  rfl
 refine one_ (i := 7) (N := some 49) #[true, true, true, true, true, true, true, true, false, false] rfl rfl (one_of HT_.out (by kernel_rfl)) (by decide) (fun K hK => ?_)
 refine Kd.R_append_rows_step (Kd.int .i64) (w0 := w) w.heap.size (by rfl) (.tmp 45) (.tmp 48) 22 3 (.int .i64 0) 8 rfl Try.underlying22 info3 rfl (by decide) (by omega) v1453 t1452 (l2.take (a3 : Int).toNat) _ _ _ (fun k_ => some k_ ≠ (.slice Ao43 t1440.length co43 : Value).ownBlock) (fun _ => False) rfl rfl ?aO ?aR (fun _ _ h => h) (fun _ h => h.elim) ?aF ?aB ?aS ?aL ?_
 (case aR => first | (have h_ := Kd.C_below HR1455.out HB.out; rw [show (l2.take (a3 : Int).toNat).length = a3.toNat from (by rw [List.length_take]; have h_ : (a3 : Int) ≤ (l2.length : Int) := of_decide_eq_true zax20; omega)] at h_; exact h_) | (rw [← show (l2.take (a3 : Int).toNat).length = a3.toNat from (by rw [List.length_take]; have h_ : (a3 : Int) ≤ (l2.length : Int) := of_decide_eq_true zax20; omega)]; repeat (first | exact (Kd.C_below HR1455.out HB.out) | (with_reducible refine Kd.C_alloc ?_ _) | (with_reducible refine Kd.C_drewN ?_ _) | (with_reducible refine Kd.C_drew ?_))) | (repeat (first | exact (Kd.C_below HR1455.out HB.out) | (with_reducible refine Kd.C_alloc ?_ _) | (with_reducible refine Kd.C_drewN ?_ _) | (with_reducible refine Kd.C_drew ?_))))
 (case aB => exact zax5)
 (case aF => exact (fun k_ hk => Kd.fresh' (Kd.R_lt zax19) k_ hk))
 (case aO => exact (by (with_reducible repeat (first | apply Kd.R_alloc | apply Kd.R_drewN | apply Kd.R_drew)); exact Kd.R_mono HO1454.out (fun _ hk => hk.2)))
 (case aS => exact (below_size zax5))
 (case aL => have := LMc36.out; have hlx_ := (show (l2.take (a3 : Int).toNat).length = a3.toNat from (by rw [List.length_take]; have h_ : (a3 : Int) ≤ (l2.length : Int) := of_decide_eq_true zax20; omega)); omega)
 intro v1457 w50 ho hb hg hat
 rw [← Ny1456.out] at ho
 have n0_ := Aside0.mk (blk_grown (g := gb1438) (o := .cells #[.int .i64 a0_0, .int .i64 a0_1, .slice A0_2 l0_2.length c0_2] 30 (0, 0)) zax2 hg (Kd.R_ne HO1454.out BK1438.out (by decide)))
 have n1_ := Aside0.mk (blk_grown (g := gb1439) (o := .cells #[.int .i64 a1_0, .int .i64 a1_1] 32 (0, 0)) zax8 hg (Kd.R_ne HO1454.out BK1439.out (by decide)))
 have n2_ := Aside0.mk (Kd.R_after (ok := (fun _ => True)) zax19 hg hat)
 have n3_ := Aside0.mk (Kd.S_after (ok := (fun k_ => some k_ ≠ (.slice Ao43 t1440.length co43 : Value).ownBlock)) zax22 hg hat)
 have n4_ := Aside0.mk (blk_grown (g := gb1446) (o := .cells #[.int .i64 a0_0, .int .i64 a0_1, .slice A0_2 l0_2.length c0_2, .int .i64 a1_0, .int .i64 a1_1, .slice Ao43 t1440.length co43, .slice Ao44 t1443.length co44] 82 (0, 0)) zax10 hg (Kd.R_ne HO1454.out BK1446.out (by decide)))
 have n5_ := Aside0.mk (hb)
 have n6_ := Aside0.mk (ho)
 clear BK1438
 clear BK1439
 clear HO1442
 clear HO1445
 clear BK1446
 clear HB
 clear HO1454
 have BK1438 := n0_
 have BK1439 := n1_
 have HO1442 := n2_
 have HO1445 := n3_
 have BK1446 := n4_
 have HB := n5_
 have HO1458 := n6_
 clear n0_ n1_ n2_ n3_ n4_ n5_ n6_
 clear ho hb hg hat
 refine hK.out _ _ trivial (fun hHeld => ?_)
 clear hK K
 refine norm_ (a' := ?_) ?_ ?_
 rotate_left
 ·show Act.put _ (some 49) _ = _
  simp only [Act.put, List.setIfInBounds_toArray, List.set_cons_zero, List.set_cons_succ, i64_w, i32_w]
  rfl
 refine pure_ (i := 8) (N := some 8) (v := ?_) (a' := ?_) #[true, true, true, true, true, true, true, true, true, false] rfl rfl (any_of HT_.out (by kernel_rfl)) (fun _ _ _ h => h) (Or.inl ⟨by rfl, ?_⟩) ?_ ?_
 rotate_left
 ·intro w'
  go_simp
  with_reducible rfl
 rotate_left
 ·simp only [Act.put, List.setIfInBounds_toArray, List.set_cons_zero, List.set_cons_succ, i64_w, i32_w]
  rfl
 refine pure_ (i := 9) (N := some 9) (v := ?_) (a' := ?_) #[true, true, true, true, true, true, true, true, true, true] rfl rfl (any_of HT_.out (by kernel_rfl)) (fun _ _ _ h => h) (Or.inl ⟨by rfl, ?_⟩) ?_ ?_
 rotate_left
 ·intro w'
  go_simp
  with_reducible rfl
 rotate_left
 ·simp only [Act.put, List.setIfInBounds_toArray, List.set_cons_zero, List.set_cons_succ, i64_w, i32_w]
  rfl
 refine done_ (done_of HT_.out (by kernel_rfl)) ?_
 try go_wp2
 go_ret2
 exact ⟨_, zax21, by (with_reducible repeat (first | apply Kd.R_alloc | apply Kd.R_drewN | apply Kd.R_drew)); exact Kd.R_mono HO1458.out (fun _ hk => trivial), zax5⟩

end Go.Proofs.Ytjeongckkfkehaa.Q

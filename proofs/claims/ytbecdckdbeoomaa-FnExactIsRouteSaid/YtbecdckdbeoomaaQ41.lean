/- Written by a program of this session: functions of the translation as plain Lean functions, each with a proof that the call does what the plain function says; the conditions stand in each theorem. -/
import Derived.Test.YtbecdckdbeoomaaQ0
import Derived.Test.YtbecdckdbeoomaaQ1
import Derived.Test.YtbecdckdbeoomaaQ7
import Derived.Test.YtbecdckdbeoomaaQ40
namespace Go.Proofs.Ytbecdckdbeoomaa.Q
open Go.RowKit Go.Proofs.YtbecdckdbeoomaaW.PrintWords Go.Proofs.YtbecdckdbeoomaaW.PrintLast Go.Proofs.YtbecdckdbeoomaaW.PrintMore
attribute [local go_sem] max2_int min2_int max_two min_two max_three min_three max_four min_four   -- for this text's walks alone
set_option linter.unusedVariables false
set_option linter.unusedSimpArgs false

theorem zap1 {p : Prop} (h : p := by repeat (first | (with_reducible first | exact HB.out | apply below_alloc | apply pw_below_drewN | apply below_drew1 | refine below_set ?_ GE1069.out | refine below_set ?_ GE1070.out) | exact HB.out)) : p := h
theorem zap2 {p : Prop} (h : p := by first | exact BK1069.out | ((with_reducible repeat (first | refine blk_drewN ?_ _ | refine blk_drew ?_ | refine blk_alloc ?_ _)); exact BK1069.out)) : p := h
theorem zap3 {p : Prop} (h : p := by repeat (first | (with_reducible first | exact HB.out | apply below_alloc | apply pw_below_drewN | apply below_drew1 | refine below_set ?_ GE1069.out) | exact HB.out)) : p := h
theorem zap4 {p : Prop} (h : p := by repeat (first | (with_reducible first | exact HB.out | apply below_alloc | apply pw_below_drewN | apply below_drew1) | exact HB.out)) : p := h
theorem zap5 {p : Prop} (h : p := by repeat (first | exact (Kd.C_below HR0_2.out HB.out) | (with_reducible refine Kd.C_alloc ?_ _) | (with_reducible refine Kd.C_drewN ?_ _) | (with_reducible refine Kd.C_drew ?_))) : p := h
theorem zap6 {p : Prop} (h : p := by (try simp only [List.map_toArray, List.map_cons, List.map_nil]); first | done | rfl | (simp only [List.length_drop, List.length_take]; rfl)) : p := h
theorem zap7 {p : Prop} (h : p := by first | exact BK1070.out | ((with_reducible repeat (first | refine blk_drewN ?_ _ | refine blk_drew ?_ | refine blk_alloc ?_ _)); exact BK1070.out)) : p := h
theorem zap8 {p : Prop} (h : p := by first | (with_reducible assumption) | assumption) : p := h
theorem zap9 {p : Prop} (h : p := by repeat (first | exact (Kd.C_below HR2.out HB.out) | (with_reducible refine Kd.C_alloc ?_ _) | (with_reducible refine Kd.C_drewN ?_ _) | (with_reducible refine Kd.C_drew ?_))) : p := h
theorem zap10 {p : Prop} (h : p := by rw [hg]; exact Nat.ne_of_lt (blk_lt (g := gb1069) (o := .cells #[.int .i64 a0_0, .int .i64 a0_1, .slice A0_2 l0_2.length c0_2] 30 (0, 0)) zap2)) : p := h
theorem zap11 {p : Prop} (h : p := by rw [hg]; exact Nat.ne_of_gt (blk_lt (g := gb1069) (o := .cells #[.int .i64 a0_0, .int .i64 a0_1, .slice A0_2 l0_2.length c0_2] 30 (0, 0)) zap2)) : p := h
theorem zap12 {p : Prop} (h : p := by rw [hg]; exact (below_size zap4)) : p := h
theorem zap13 {p : Prop} (h : p := by rw [hg]; exact (below_size zap3)) : p := h
/-! ### spec_IsRoute: function 33 -/
def spec_IsRoute.f (k : Nat) (a0_0 : Int) (a0_1 : Int) (l0_2 : List Int) (a1_0 : Int) (a1_1 : Int) (l2 : List Int) : Option (Bool × Bool) := (spec_boTwo.f k a0_0 a0_1 l0_2 a1_0 a1_1).bind fun t1071 => (if t1071 = true then ((spec_boPath.f k a0_0 a0_1 l0_2 a1_0 a1_1 l2).bind fun t1072 => (if t1072 = true then (if 0 < (l2.length : Int) then ((spec_faFrom.f k a0_0 a0_1 l0_2 a1_0 a1_1 (rd l2 0)).bind fun t1074 => (if 0 ≤ (wrap64 ((l2.length : Int) - 1)) then (if (wrap64 ((l2.length : Int) - 1)) < (l2.length : Int) then (if 0 ≤ (rd l2 (wrap64 ((l2.length : Int) - 1))) then (if (rd l2 (wrap64 ((l2.length : Int) - 1))) < (t1074.length : Int) then (some (((rd t1074 (rd l2 (wrap64 ((l2.length : Int) - 1)))) == (wrap64 ((l2.length : Int) - 1))), true)) else (none)) else (none)) else (none)) else (none))) else (none)) else (some (false, true)))) else (some (false, false)))
def spec_IsRoute.T5 : Bool × List (List Nat × List Nat) := (true, [([], []), ([], []), ([], []), ([2], [2]), ([3], [3]), ([0, 1, 4], [0, 1, 4]), ([], []), ([], []), ([7], [7]), ([8], [8]), ([6, 9], [6, 9]), ([10], [10]), ([5, 11], [5, 11]), ([12], [12]), ([], []), ([14], [14]), ([15], [15]), ([13, 16], [13, 16]), ([17, 5, 0, 1, 2, 3, 4, 5, 6, 7, 8, 9, 10, 11, 12, 13, 14, 15, 16, 17], [17]), ([18, 0, 1, 2, 3, 4, 5, 6, 7, 8, 9, 10, 11, 12, 13, 14, 15, 16, 17, 18], [])])
def spec_IsRoute.B5 : List Nat := [0, 0, 0, 4, 12, 31, 0, 0, 128, 384, 960, 1984, 4095, 8191, 0, 16384, 49152, 131071, 262143, 524287]
theorem spec_IsRoute.tab5 : rtab .any (opsOf Try.f33 5) = spec_IsRoute.T5 := by kernel_rfl
theorem spec_IsRoute.bits5 : waitsOk spec_IsRoute.T5.2 spec_IsRoute.B5 = true := by kernel_rfl
set_option maxHeartbeats 8000000 in
set_option maxRecDepth 100000 in
theorem spec_IsRoute.calls (k : Nat) (a0_0 : Int) (a0_1 : Int) (A0_2 : Option Addr) (c0_2 : Nat) (l0_2 : List Int) (a1_0 : Int) (a1_1 : Int) (A2 : Option Addr) (c2 : Nat) (l2 : List Int) (r1 : Bool) (r2 : Bool) (w : World) (hr0_2 : Kd.C (Kd.int .i64) w A0_2 l0_2.length l0_2) (hc0_2 : l0_2.length ≤ c0_2) (hr2 : Kd.C (Kd.int .i64) w A2 l2.length l2) (hc2 : l2.length ≤ c2) (h : spec_IsRoute.f k a0_0 a0_1 l0_2 a1_0 a1_1 l2 = some (r1, r2)) :
  Calls Try.prog 33 #[.agg #[.int .i64 a0_0, .int .i64 a0_1, .slice A0_2 l0_2.length c0_2], .agg #[.int .i64 a1_0, .int .i64 a1_1], .slice A2 l2.length c2] w fun e w' => e = .returned (.tuple #[.bool r1, .bool r2]) ∧ Below w.heap.size w w' := by
 have hu30 := Try.underlying30
 have hu32 := Try.underlying32
 have HR0_2 := Aside0.mk hr0_2
 have HC0_2 := Aside0.mk hc0_2
 clear hr0_2 hc0_2
 have HR2 := Aside0.mk hr2
 have HC2 := Aside0.mk hc2
 clear hr2 hc2
 have HB := Aside0.mk (Below.refl w.heap.size w)
 have H : ((spec_boTwo.f k a0_0 a0_1 l0_2 a1_0 a1_1).bind fun t1071 => (if t1071 = true then ((spec_boPath.f k a0_0 a0_1 l0_2 a1_0 a1_1 l2).bind fun t1072 => (if t1072 = true then (if 0 < (l2.length : Int) then ((spec_faFrom.f k a0_0 a0_1 l0_2 a1_0 a1_1 (rd l2 0)).bind fun t1074 => (if 0 ≤ (wrap64 ((l2.length : Int) - 1)) then (if (wrap64 ((l2.length : Int) - 1)) < (l2.length : Int) then (if 0 ≤ (rd l2 (wrap64 ((l2.length : Int) - 1))) then (if (rd l2 (wrap64 ((l2.length : Int) - 1))) < (t1074.length : Int) then (some (((rd t1074 (rd l2 (wrap64 ((l2.length : Int) - 1)))) == (wrap64 ((l2.length : Int) - 1))), true)) else (none)) else (none)) else (none)) else (none))) else (none)) else (some (false, true)))) else (some (false, false)))) = some (r1, r2) := h
 clear h
 replace H := Option.bind_eq_some_iff.mp H
 obtain ⟨t1071, A40, H⟩ := H
 replace H : (if t1071 = true then ((spec_boPath.f k a0_0 a0_1 l0_2 a1_0 a1_1 l2).bind fun t1072 => (if t1072 = true then (if 0 < (l2.length : Int) then ((spec_faFrom.f k a0_0 a0_1 l0_2 a1_0 a1_1 (rd l2 0)).bind fun t1074 => (if 0 ≤ (wrap64 ((l2.length : Int) - 1)) then (if (wrap64 ((l2.length : Int) - 1)) < (l2.length : Int) then (if 0 ≤ (rd l2 (wrap64 ((l2.length : Int) - 1))) then (if (rd l2 (wrap64 ((l2.length : Int) - 1))) < (t1074.length : Int) then (some (((rd t1074 (rd l2 (wrap64 ((l2.length : Int) - 1)))) == (wrap64 ((l2.length : Int) - 1))), true)) else (none)) else (none)) else (none)) else (none))) else (none)) else (some (false, true)))) else (some (false, false))) = some (r1, r2) := H
 have A4 := Aside0.mk A40
 clear A40
 by_cases c5 : t1071 = true
 rotate_left
 ·replace c5 := Bool.eq_false_iff.mpr c5
  subst c5
  have H1 : (some (false, false)) = some (r1, r2) := by rw [if_neg (show ¬ (false = true) by decide)] at H; exact H
  clear H
  have H := H1
  clear H1
  simp only [Option.some.injEq, Prod.mk.injEq] at H
  obtain ⟨rfl, rfl⟩ := H
  go_enter Try.func33, Try.ntmps33
  go_wp2_with (first | ((with_reducible refine gate_dst (N := 3) rfl ?_); refine box_event ?hg (N := 3) ?hd (cs := #[.int .i64 a0_0, .int .i64 a0_1, .slice A0_2 l0_2.length c0_2]) (t := 30) ?hr ?_; (case hd => rfl); (case hg => rfl); (case hr => first | (go_simp; done) | (go_simp; rfl)); intro gb1069 hg w36 hbox hb; have n0_ := Aside0.mk (below_step zap4 hb); have n1_ := Aside0.mk (hbox); have n2_ := Aside0.mk ((zap12 : w.heap.size ≤ gb1069)); have n3_ := Aside0.mk ((zap12 : w.heap.size ≤ gb1069)); clear HB; have HB := n0_; have BK1069 := n1_; have GW1069 := n2_; have GE1069 := n3_; clear n0_ n1_ n2_ n3_; clear hb hbox hg) | ((with_reducible refine gate_dst (N := 4) rfl ?_); refine box_event ?hg (N := 4) ?hd (cs := #[.int .i64 a1_0, .int .i64 a1_1]) (t := 32) ?hr ?_; (case hd => rfl); (case hg => rfl); (case hr => first | (go_simp; done) | (go_simp; rfl)); intro gb1070 hg w37 hbox hb; have n0_ := Aside0.mk (blk_below (g := gb1069) (o := .cells #[.int .i64 a0_0, .int .i64 a0_1, .slice A0_2 l0_2.length c0_2] 30 (0, 0)) zap2 hb); have n1_ := Aside0.mk (below_step zap3 hb); have n2_ := Aside0.mk (hbox); have n3_ := Aside0.mk ((zap13 : w.heap.size ≤ gb1070)); have n4_ := Aside0.mk ((zap13 : w.heap.size ≤ gb1070)); have n5_ := Aside0.mk ((zap10 : gb1069 ≠ gb1070)); have n6_ := Aside0.mk ((zap11 : gb1070 ≠ gb1069)); clear BK1069; clear HB; have BK1069 := n0_; have HB := n1_; have BK1070 := n2_; have GW1070 := n3_; have GE1070 := n4_; have NB1069_1070 := n5_; have NB1070_1069 := n6_; clear n0_ n1_ n2_ n3_ n4_ n5_ n6_; clear hb hbox hg; have hnb38 := NB1069_1070.out; have hnc38 := NB1070_1069.out; have hcz39_0 : w37.cell? ⟨gb1069, 0, none⟩ = some (.int .i64 a0_0) := (blk_cell BK1069.out 0).trans rfl; have hcz39_1 : w37.cell? ⟨gb1069, 1, none⟩ = some (.int .i64 a0_1) := (blk_cell BK1069.out 1).trans rfl; have hcz39_2 : w37.cell? ⟨gb1069, 2, none⟩ = some (.slice A0_2 l0_2.length c0_2) := (blk_cell BK1069.out 2).trans rfl; have hfz39_0 := blk_frozen BK1069.out 0; have hfz39_1 := blk_frozen BK1069.out 1; have hfz39_2 := blk_frozen BK1069.out 2; have hcz40_0 : w37.cell? ⟨gb1070, 0, none⟩ = some (.int .i64 a1_0) := (blk_cell BK1070.out 0).trans rfl; have hcz40_1 : w37.cell? ⟨gb1070, 1, none⟩ = some (.int .i64 a1_1) := (blk_cell BK1070.out 1).trans rfl; have hfz40_0 := blk_frozen BK1070.out 0; have hfz40_1 := blk_frozen BK1070.out 1) | ((with_reducible refine gate_callee (f := 54) rfl ?_); refine goesL_ (some 10) rfl rfl Try.func54 (by kernel_rfl) rfl #[.agg #[.int .i64 a0_0, .int .i64 a0_1, .slice A0_2 l0_2.length c0_2], .agg #[.int .i64 a1_0, .int .i64 a1_1]] rfl zap6 ?_; (with_reducible refine (spec_boTwo.calls k a0_0 a0_1 _ _ l0_2 a1_0 a1_1 false _ ?side1 ?side2 A4.out).mono ?_); (case side1 => exact zap5); (case side2 => exact HC0_2.out); rintro e w41 ⟨rfl, hb⟩; refine ⟨_, rfl, ?_⟩; have n0_ := Aside0.mk (blk_below (g := gb1069) (o := .cells #[.int .i64 a0_0, .int .i64 a0_1, .slice A0_2 l0_2.length c0_2] 30 (0, 0)) zap2 hb); have n1_ := Aside0.mk (blk_below (g := gb1070) (o := .cells #[.int .i64 a1_0, .int .i64 a1_1] 32 (0, 0)) zap7 hb); have n2_ := Aside0.mk (below_step zap1 hb); clear BK1069; clear BK1070; clear HB; have BK1069 := n0_; have BK1070 := n1_; have HB := n2_; clear n0_ n1_ n2_; (try clear hb); (try clear hb2); (try clear hk); (try clear hi); (try clear hna_); (try clear hnb_)))
  go_ret2
  exact ⟨by first | rfl | (simp [errW_none, errW_some] <;> rfl) | (simp [*, errW_none, errW_some] <;> rfl), zap1⟩
 subst c5
 have H1 : ((spec_boPath.f k a0_0 a0_1 l0_2 a1_0 a1_1 l2).bind fun t1072 => (if t1072 = true then (if 0 < (l2.length : Int) then ((spec_faFrom.f k a0_0 a0_1 l0_2 a1_0 a1_1 (rd l2 0)).bind fun t1074 => (if 0 ≤ (wrap64 ((l2.length : Int) - 1)) then (if (wrap64 ((l2.length : Int) - 1)) < (l2.length : Int) then (if 0 ≤ (rd l2 (wrap64 ((l2.length : Int) - 1))) then (if (rd l2 (wrap64 ((l2.length : Int) - 1))) < (t1074.length : Int) then (some (((rd t1074 (rd l2 (wrap64 ((l2.length : Int) - 1)))) == (wrap64 ((l2.length : Int) - 1))), true)) else (none)) else (none)) else (none)) else (none))) else (none)) else (some (false, true)))) = some (r1, r2) := by rw [if_pos rfl] at H; exact H
 clear H
 have H := H1
 clear H1
 replace H := Option.bind_eq_some_iff.mp H
 obtain ⟨t1072, A60, H⟩ := H
 replace H : (if t1072 = true then (if 0 < (l2.length : Int) then ((spec_faFrom.f k a0_0 a0_1 l0_2 a1_0 a1_1 (rd l2 0)).bind fun t1074 => (if 0 ≤ (wrap64 ((l2.length : Int) - 1)) then (if (wrap64 ((l2.length : Int) - 1)) < (l2.length : Int) then (if 0 ≤ (rd l2 (wrap64 ((l2.length : Int) - 1))) then (if (rd l2 (wrap64 ((l2.length : Int) - 1))) < (t1074.length : Int) then (some (((rd t1074 (rd l2 (wrap64 ((l2.length : Int) - 1)))) == (wrap64 ((l2.length : Int) - 1))), true)) else (none)) else (none)) else (none)) else (none))) else (none)) else (some (false, true))) = some (r1, r2) := H
 have A6 := Aside0.mk A60
 clear A60
 by_cases c7 : t1072 = true
 rotate_left
 ·replace c7 := Bool.eq_false_iff.mpr c7
  subst c7
  have H1 : (some (false, true)) = some (r1, r2) := by rw [if_neg (show ¬ (false = true) by decide)] at H; exact H
  clear H
  have H := H1
  clear H1
  simp only [Option.some.injEq, Prod.mk.injEq] at H
  obtain ⟨rfl, rfl⟩ := H
  go_enter Try.func33, Try.ntmps33
  go_wp2_with (first | ((with_reducible refine gate_dst (N := 3) rfl ?_); refine box_event ?hg (N := 3) ?hd (cs := #[.int .i64 a0_0, .int .i64 a0_1, .slice A0_2 l0_2.length c0_2]) (t := 30) ?hr ?_; (case hd => rfl); (case hg => rfl); (case hr => first | (go_simp; done) | (go_simp; rfl)); intro gb1069 hg w27 hbox hb; have n0_ := Aside0.mk (below_step zap4 hb); have n1_ := Aside0.mk (hbox); have n2_ := Aside0.mk ((zap12 : w.heap.size ≤ gb1069)); have n3_ := Aside0.mk ((zap12 : w.heap.size ≤ gb1069)); clear HB; have HB := n0_; have BK1069 := n1_; have GW1069 := n2_; have GE1069 := n3_; clear n0_ n1_ n2_ n3_; clear hb hbox hg) | ((with_reducible refine gate_dst (N := 4) rfl ?_); refine box_event ?hg (N := 4) ?hd (cs := #[.int .i64 a1_0, .int .i64 a1_1]) (t := 32) ?hr ?_; (case hd => rfl); (case hg => rfl); (case hr => first | (go_simp; done) | (go_simp; rfl)); intro gb1070 hg w28 hbox hb; have n0_ := Aside0.mk (blk_below (g := gb1069) (o := .cells #[.int .i64 a0_0, .int .i64 a0_1, .slice A0_2 l0_2.length c0_2] 30 (0, 0)) zap2 hb); have n1_ := Aside0.mk (below_step zap3 hb); have n2_ := Aside0.mk (hbox); have n3_ := Aside0.mk ((zap13 : w.heap.size ≤ gb1070)); have n4_ := Aside0.mk ((zap13 : w.heap.size ≤ gb1070)); have n5_ := Aside0.mk ((zap10 : gb1069 ≠ gb1070)); have n6_ := Aside0.mk ((zap11 : gb1070 ≠ gb1069)); clear BK1069; clear HB; have BK1069 := n0_; have HB := n1_; have BK1070 := n2_; have GW1070 := n3_; have GE1070 := n4_; have NB1069_1070 := n5_; have NB1070_1069 := n6_; clear n0_ n1_ n2_ n3_ n4_ n5_ n6_; clear hb hbox hg; have hnb29 := NB1069_1070.out; have hnc29 := NB1070_1069.out; have hcz30_0 : w28.cell? ⟨gb1069, 0, none⟩ = some (.int .i64 a0_0) := (blk_cell BK1069.out 0).trans rfl; have hcz30_1 : w28.cell? ⟨gb1069, 1, none⟩ = some (.int .i64 a0_1) := (blk_cell BK1069.out 1).trans rfl; have hcz30_2 : w28.cell? ⟨gb1069, 2, none⟩ = some (.slice A0_2 l0_2.length c0_2) := (blk_cell BK1069.out 2).trans rfl; have hfz30_0 := blk_frozen BK1069.out 0; have hfz30_1 := blk_frozen BK1069.out 1; have hfz30_2 := blk_frozen BK1069.out 2; have hcz31_0 : w28.cell? ⟨gb1070, 0, none⟩ = some (.int .i64 a1_0) := (blk_cell BK1070.out 0).trans rfl; have hcz31_1 : w28.cell? ⟨gb1070, 1, none⟩ = some (.int .i64 a1_1) := (blk_cell BK1070.out 1).trans rfl; have hfz31_0 := blk_frozen BK1070.out 0; have hfz31_1 := blk_frozen BK1070.out 1) | ((with_reducible refine gate_callee (f := 54) rfl ?_); refine goesL_ (some 10) rfl rfl Try.func54 (by kernel_rfl) rfl #[.agg #[.int .i64 a0_0, .int .i64 a0_1, .slice A0_2 l0_2.length c0_2], .agg #[.int .i64 a1_0, .int .i64 a1_1]] rfl zap6 ?_; (with_reducible refine (spec_boTwo.calls k a0_0 a0_1 _ _ l0_2 a1_0 a1_1 true _ ?side1 ?side2 A4.out).mono ?_); (case side1 => exact zap5); (case side2 => exact HC0_2.out); rintro e w32 ⟨rfl, hb⟩; refine ⟨_, rfl, ?_⟩; have n0_ := Aside0.mk (blk_below (g := gb1069) (o := .cells #[.int .i64 a0_0, .int .i64 a0_1, .slice A0_2 l0_2.length c0_2] 30 (0, 0)) zap2 hb); have n1_ := Aside0.mk (blk_below (g := gb1070) (o := .cells #[.int .i64 a1_0, .int .i64 a1_1] 32 (0, 0)) zap7 hb); have n2_ := Aside0.mk (below_step zap1 hb); clear BK1069; clear BK1070; clear HB; have BK1069 := n0_; have BK1070 := n1_; have HB := n2_; clear n0_ n1_ n2_; (try clear hb); (try clear hb2); (try clear hk); (try clear hi); (try clear hna_); (try clear hnb_); have hcz33_0 : w32.cell? ⟨gb1069, 0, none⟩ = some (.int .i64 a0_0) := (blk_cell BK1069.out 0).trans rfl; have hcz33_1 : w32.cell? ⟨gb1069, 1, none⟩ = some (.int .i64 a0_1) := (blk_cell BK1069.out 1).trans rfl; have hcz33_2 : w32.cell? ⟨gb1069, 2, none⟩ = some (.slice A0_2 l0_2.length c0_2) := (blk_cell BK1069.out 2).trans rfl; have hfz33_0 := blk_frozen BK1069.out 0; have hfz33_1 := blk_frozen BK1069.out 1; have hfz33_2 := blk_frozen BK1069.out 2; have hcz34_0 : w32.cell? ⟨gb1070, 0, none⟩ = some (.int .i64 a1_0) := (blk_cell BK1070.out 0).trans rfl; have hcz34_1 : w32.cell? ⟨gb1070, 1, none⟩ = some (.int .i64 a1_1) := (blk_cell BK1070.out 1).trans rfl; have hfz34_0 := blk_frozen BK1070.out 0; have hfz34_1 := blk_frozen BK1070.out 1) | ((with_reducible refine gate_callee (f := 68) rfl ?_); refine goesL_ (some 15) rfl rfl Try.func68 (by kernel_rfl) rfl #[.agg #[.int .i64 a0_0, .int .i64 a0_1, .slice A0_2 l0_2.length c0_2], .agg #[.int .i64 a1_0, .int .i64 a1_1], .slice A2 l2.length c2] rfl zap6 ?_; (with_reducible refine (spec_boPath.calls k a0_0 a0_1 _ _ l0_2 a1_0 a1_1 _ _ l2 false _ ?side1 ?side2 ?side3 ?side4 A6.out).mono ?_); (case side1 => exact zap5); (case side2 => exact HC0_2.out); (case side3 => exact zap9); (case side4 => exact HC2.out); rintro e w35 ⟨rfl, hb⟩; refine ⟨_, rfl, ?_⟩; have n0_ := Aside0.mk (blk_below (g := gb1069) (o := .cells #[.int .i64 a0_0, .int .i64 a0_1, .slice A0_2 l0_2.length c0_2] 30 (0, 0)) zap2 hb); have n1_ := Aside0.mk (blk_below (g := gb1070) (o := .cells #[.int .i64 a1_0, .int .i64 a1_1] 32 (0, 0)) zap7 hb); have n2_ := Aside0.mk (below_step zap1 hb); clear BK1069; clear BK1070; clear HB; have BK1069 := n0_; have BK1070 := n1_; have HB := n2_; clear n0_ n1_ n2_; (try clear hb); (try clear hb2); (try clear hk); (try clear hi); (try clear hna_); (try clear hnb_)))
  go_ret2
  exact ⟨by first | rfl | (simp [errW_none, errW_some] <;> rfl) | (simp [*, errW_none, errW_some] <;> rfl), zap1⟩
 subst c7
 have H1 : (if 0 < (l2.length : Int) then ((spec_faFrom.f k a0_0 a0_1 l0_2 a1_0 a1_1 (rd l2 0)).bind fun t1074 => (if 0 ≤ (wrap64 ((l2.length : Int) - 1)) then (if (wrap64 ((l2.length : Int) - 1)) < (l2.length : Int) then (if 0 ≤ (rd l2 (wrap64 ((l2.length : Int) - 1))) then (if (rd l2 (wrap64 ((l2.length : Int) - 1))) < (t1074.length : Int) then (some (((rd t1074 (rd l2 (wrap64 ((l2.length : Int) - 1)))) == (wrap64 ((l2.length : Int) - 1))), true)) else (none)) else (none)) else (none)) else (none))) else (none)) = some (r1, r2) := by rw [if_pos rfl] at H; exact H
 clear H
 have H := H1
 clear H1
 by_cases c8 : 0 < (l2.length : Int)
 rotate_left
 ·rw [if_neg c8] at H
  exact absurd H (by simp)
 rw [if_pos c8] at H
 have c8b0 : decide (0 < (l2.length : Int)) = true := decide_eq_true c8
 have c8b1 : decide (0 < l2.length) = true := decide_eq_true (by omega)
 clear c8
 replace H := Option.bind_eq_some_iff.mp H
 obtain ⟨t1074, A90, H⟩ := H
 replace H : (if 0 ≤ (wrap64 ((l2.length : Int) - 1)) then (if (wrap64 ((l2.length : Int) - 1)) < (l2.length : Int) then (if 0 ≤ (rd l2 (wrap64 ((l2.length : Int) - 1))) then (if (rd l2 (wrap64 ((l2.length : Int) - 1))) < (t1074.length : Int) then (some (((rd t1074 (rd l2 (wrap64 ((l2.length : Int) - 1)))) == (wrap64 ((l2.length : Int) - 1))), true)) else (none)) else (none)) else (none)) else (none)) = some (r1, r2) := H
 have A9 := Aside0.mk A90
 clear A90
 obtain ⟨ji10, hji10⟩ : ∃ j_ : Int, (wrap64 ((l2.length : Int) - 1)) = j_ := ⟨_, rfl⟩
 replace H : (if 0 ≤ (ji10) then (if (ji10) < (l2.length : Int) then (if 0 ≤ (rd l2 (ji10)) then (if (rd l2 (ji10)) < (t1074.length : Int) then (some (((rd t1074 (rd l2 (ji10))) == (ji10)), true)) else (none)) else (none)) else (none)) else (none)) = some (r1, r2) := by first | (rw [hji10] at H; exact H) | (simp only [hji10] at H ⊢; exact H)
 (try rw [hji10] at A4)
 (try rw [hji10] at A6)
 (try rw [hji10] at A9)
 have hji10w : (IntKind.i64.wrap ((l2.length : Int) - 1)) = ji10 := (i64_w _).trans hji10
 by_cases c11 : 0 ≤ (ji10)
 rotate_left
 ·rw [if_neg c11] at H
  exact absurd H (by simp)
 rw [if_pos c11] at H
 have c11b0 : decide (0 ≤ (ji10)) = true := decide_eq_true c11
 clear c11
 by_cases c12 : (ji10) < (l2.length : Int)
 rotate_left
 ·rw [if_neg c12] at H
  exact absurd H (by simp)
 rw [if_pos c12] at H
 have c12b0 : decide ((ji10) < (l2.length : Int)) = true := decide_eq_true c12
 clear c12
 by_cases c13 : 0 ≤ (rd l2 (ji10))
 rotate_left
 ·rw [if_neg c13] at H
  exact absurd H (by simp)
 rw [if_pos c13] at H
 have c13b0 : decide (0 ≤ (rd l2 (ji10))) = true := decide_eq_true c13
 clear c13
 by_cases c14 : (rd l2 (ji10)) < (t1074.length : Int)
 rotate_left
 ·rw [if_neg c14] at H
  exact absurd H (by simp)
 rw [if_pos c14] at H
 have c14b0 : decide ((rd l2 (ji10)) < (t1074.length : Int)) = true := decide_eq_true c14
 clear c14
 simp only [Option.some.injEq, Prod.mk.injEq] at H
 obtain ⟨rfl, rfl⟩ := H
 go_enter Try.func33, Try.ntmps33
 try go_wp2_with (first | ((with_reducible refine gate_dst (N := 3) rfl ?_); refine box_event ?hg (N := 3) ?hd (cs := #[.int .i64 a0_0, .int .i64 a0_1, .slice A0_2 l0_2.length c0_2]) (t := 30) ?hr ?_; (case hd => rfl); (case hg => rfl); (case hr => first | (go_simp; done) | (go_simp; rfl)); intro gb1069 hg w15 hbox hb; have n0_ := Aside0.mk (below_step zap4 hb); have n1_ := Aside0.mk (hbox); have n2_ := Aside0.mk ((zap12 : w.heap.size ≤ gb1069)); have n3_ := Aside0.mk ((zap12 : w.heap.size ≤ gb1069)); clear HB; have HB := n0_; have BK1069 := n1_; have GW1069 := n2_; have GE1069 := n3_; clear n0_ n1_ n2_ n3_; clear hb hbox hg) | ((with_reducible refine gate_dst (N := 4) rfl ?_); refine box_event ?hg (N := 4) ?hd (cs := #[.int .i64 a1_0, .int .i64 a1_1]) (t := 32) ?hr ?_; (case hd => rfl); (case hg => rfl); (case hr => first | (go_simp; done) | (go_simp; rfl)); intro gb1070 hg w16 hbox hb; have n0_ := Aside0.mk (blk_below (g := gb1069) (o := .cells #[.int .i64 a0_0, .int .i64 a0_1, .slice A0_2 l0_2.length c0_2] 30 (0, 0)) zap2 hb); have n1_ := Aside0.mk (below_step zap3 hb); have n2_ := Aside0.mk (hbox); have n3_ := Aside0.mk ((zap13 : w.heap.size ≤ gb1070)); have n4_ := Aside0.mk ((zap13 : w.heap.size ≤ gb1070)); have n5_ := Aside0.mk ((zap10 : gb1069 ≠ gb1070)); have n6_ := Aside0.mk ((zap11 : gb1070 ≠ gb1069)); clear BK1069; clear HB; have BK1069 := n0_; have HB := n1_; have BK1070 := n2_; have GW1070 := n3_; have GE1070 := n4_; have NB1069_1070 := n5_; have NB1070_1069 := n6_; clear n0_ n1_ n2_ n3_ n4_ n5_ n6_; clear hb hbox hg; have hnb17 := NB1069_1070.out; have hnc17 := NB1070_1069.out; have hcz18_0 : w16.cell? ⟨gb1069, 0, none⟩ = some (.int .i64 a0_0) := (blk_cell BK1069.out 0).trans rfl; have hcz18_1 : w16.cell? ⟨gb1069, 1, none⟩ = some (.int .i64 a0_1) := (blk_cell BK1069.out 1).trans rfl; have hcz18_2 : w16.cell? ⟨gb1069, 2, none⟩ = some (.slice A0_2 l0_2.length c0_2) := (blk_cell BK1069.out 2).trans rfl; have hfz18_0 := blk_frozen BK1069.out 0; have hfz18_1 := blk_frozen BK1069.out 1; have hfz18_2 := blk_frozen BK1069.out 2; have hcz19_0 : w16.cell? ⟨gb1070, 0, none⟩ = some (.int .i64 a1_0) := (blk_cell BK1070.out 0).trans rfl; have hcz19_1 : w16.cell? ⟨gb1070, 1, none⟩ = some (.int .i64 a1_1) := (blk_cell BK1070.out 1).trans rfl; have hfz19_0 := blk_frozen BK1070.out 0; have hfz19_1 := blk_frozen BK1070.out 1) | ((with_reducible refine gate_callee (f := 54) rfl ?_); refine goesL_ (some 10) rfl rfl Try.func54 (by kernel_rfl) rfl #[.agg #[.int .i64 a0_0, .int .i64 a0_1, .slice A0_2 l0_2.length c0_2], .agg #[.int .i64 a1_0, .int .i64 a1_1]] rfl zap6 ?_; (with_reducible refine (spec_boTwo.calls k a0_0 a0_1 _ _ l0_2 a1_0 a1_1 true _ ?side1 ?side2 A4.out).mono ?_); (case side1 => exact zap5); (case side2 => exact HC0_2.out); rintro e w20 ⟨rfl, hb⟩; refine ⟨_, rfl, ?_⟩; have n0_ := Aside0.mk (blk_below (g := gb1069) (o := .cells #[.int .i64 a0_0, .int .i64 a0_1, .slice A0_2 l0_2.length c0_2] 30 (0, 0)) zap2 hb); have n1_ := Aside0.mk (blk_below (g := gb1070) (o := .cells #[.int .i64 a1_0, .int .i64 a1_1] 32 (0, 0)) zap7 hb); have n2_ := Aside0.mk (below_step zap1 hb); clear BK1069; clear BK1070; clear HB; have BK1069 := n0_; have BK1070 := n1_; have HB := n2_; clear n0_ n1_ n2_; (try clear hb); (try clear hb2); (try clear hk); (try clear hi); (try clear hna_); (try clear hnb_); have hcz21_0 : w20.cell? ⟨gb1069, 0, none⟩ = some (.int .i64 a0_0) := (blk_cell BK1069.out 0).trans rfl; have hcz21_1 : w20.cell? ⟨gb1069, 1, none⟩ = some (.int .i64 a0_1) := (blk_cell BK1069.out 1).trans rfl; have hcz21_2 : w20.cell? ⟨gb1069, 2, none⟩ = some (.slice A0_2 l0_2.length c0_2) := (blk_cell BK1069.out 2).trans rfl; have hfz21_0 := blk_frozen BK1069.out 0; have hfz21_1 := blk_frozen BK1069.out 1; have hfz21_2 := blk_frozen BK1069.out 2; have hcz22_0 : w20.cell? ⟨gb1070, 0, none⟩ = some (.int .i64 a1_0) := (blk_cell BK1070.out 0).trans rfl; have hcz22_1 : w20.cell? ⟨gb1070, 1, none⟩ = some (.int .i64 a1_1) := (blk_cell BK1070.out 1).trans rfl; have hfz22_0 := blk_frozen BK1070.out 0; have hfz22_1 := blk_frozen BK1070.out 1) | ((with_reducible refine gate_callee (f := 68) rfl ?_); refine goesL_ (some 15) rfl rfl Try.func68 (by kernel_rfl) rfl #[.agg #[.int .i64 a0_0, .int .i64 a0_1, .slice A0_2 l0_2.length c0_2], .agg #[.int .i64 a1_0, .int .i64 a1_1], .slice A2 l2.length c2] rfl zap6 ?_; (with_reducible refine (spec_boPath.calls k a0_0 a0_1 _ _ l0_2 a1_0 a1_1 _ _ l2 true _ ?side1 ?side2 ?side3 ?side4 A6.out).mono ?_); (case side1 => exact zap5); (case side2 => exact HC0_2.out); (case side3 => exact zap9); (case side4 => exact HC2.out); rintro e w23 ⟨rfl, hb⟩; refine ⟨_, rfl, ?_⟩; have n0_ := Aside0.mk (blk_below (g := gb1069) (o := .cells #[.int .i64 a0_0, .int .i64 a0_1, .slice A0_2 l0_2.length c0_2] 30 (0, 0)) zap2 hb); have n1_ := Aside0.mk (blk_below (g := gb1070) (o := .cells #[.int .i64 a1_0, .int .i64 a1_1] 32 (0, 0)) zap7 hb); have n2_ := Aside0.mk (below_step zap1 hb); clear BK1069; clear BK1070; clear HB; have BK1069 := n0_; have BK1070 := n1_; have HB := n2_; clear n0_ n1_ n2_; (try clear hb); (try clear hb2); (try clear hk); (try clear hi); (try clear hna_); (try clear hnb_)))
 have n0_ := Aside0.mk (blk_drew BK1069.out)
 have n1_ := Aside0.mk (blk_drew BK1070.out)
 have n2_ := Aside0.mk (below_drew1 HB.out)
 clear BK1069
 clear BK1070
 clear HB
 have BK1069 := n0_
 have BK1070 := n1_
 have HB := n2_
 clear n0_ n1_ n2_
 have p1073 : 0 ≤ (0 : Int) := (by omega)
 have q1073 : 0 < (l2.length : Int) := of_decide_eq_true zap8
 obtain ⟨ad1073, e1073, hx1073_0⟩ := Kd.at_int HR2.out 0 p1073 q1073
 have hw1073_0 := hx1073_0
 (try rw [show ((0 : Int)).toNat = 0 from rfl] at hw1073_0)
 (try rw [show 0 * 1 = 0 from rfl] at hw1073_0)
 (try rw [Addr.add_zero'] at hw1073_0)
 cases e1073
 have qi1073 : (0 < l2.length) = True := eq_true (by omega)
 (try rw [show ((0 : Int)).toNat = 0 from rfl] at hx1073_0)
 (try rw [Addr.add_zero'] at hx1073_0)
 (first | replace hx1073_0 := (HB.out.cell (World.block_lt_of_cell? w _ hx1073_0)).trans hx1073_0 | skip)
 replace p1073 := eq_true p1073
 replace q1073 := eq_true q1073
 have p1077 : 0 ≤ ((ji10) : Int) := of_decide_eq_true zap8
 have q1077 : (ji10) < (l2.length : Int) := of_decide_eq_true zap8
 obtain ⟨ad1077, e1077, hx1077_0⟩ := Kd.at_int HR2.out (ji10) p1077 q1077
 have hw1077_0 := hx1077_0
 obtain rfl : ad1073 = ad1077 := (by injection e1077)
 (first | replace hx1077_0 := (HB.out.cell (World.block_lt_of_cell? w _ hx1077_0)).trans hx1077_0 | skip)
 replace p1077 := eq_true p1077
 replace q1077 := eq_true q1077
 refine start_ (n := 20) (S := fun w' => w'.cell? ⟨gb1069, 0, none⟩ = some (.int .i64 a0_0) ∧ w'.cell? ⟨gb1069, 1, none⟩ = some (.int .i64 a0_1) ∧ w'.cell? ⟨gb1069, 2, none⟩ = some (.slice A0_2 l0_2.length c0_2) ∧ w'.cell? ⟨gb1070, 0, none⟩ = some (.int .i64 a1_0) ∧ w'.cell? ⟨gb1070, 1, none⟩ = some (.int .i64 a1_1) ∧ w'.cell? ad1073 = some (.int .i64 (rd l2 0)) ∧ w'.cell? (ad1073.add ((ji10)).toNat) = some (.int .i64 (rd l2 (ji10)))) (ds := []) #[false, false, false, false, false, false, false, false, false, false, false, false, false, false, false, false, false, false, false, false] (by kernel_rfl) rfl rfl ⟨(blk_cell BK1069.out 0).trans rfl, (blk_cell BK1069.out 1).trans rfl, (blk_cell BK1069.out 2).trans rfl, (blk_cell BK1070.out 0).trans rfl, (blk_cell BK1070.out 1).trans rfl, ((HB.out.cell (World.block_lt_of_cell? w _ hw1073_0)).trans hw1073_0), ((HB.out.cell (World.block_lt_of_cell? w _ hw1077_0)).trans hw1077_0)⟩ (fun hHeld => ?_); refine with_tabW spec_IsRoute.tab5 spec_IsRoute.bits5 (fun HT_ HW_ => ?_)
 generalize w23.drew = w24 at BK1069 BK1070 HB hx1073_0 hx1077_0 hHeld ⊢
 refine pure_ (i := 2) (N := some 19) (v := ?_) (a' := ?_) #[false, false, true, false, false, false, false, false, false, false, false, false, false, false, false, false, false, false, false, false] rfl rfl (any_of HT_.out (by kernel_rfl)) (fun _ _ _ h => h) (Or.inl ⟨by rfl, ?_⟩) ?_ ?_
 rotate_left
 ·intro w'
  go_simp
  with_reducible rfl
 rotate_left
 ·simp only [Act.put, List.setIfInBounds_toArray, List.set_cons_zero, List.set_cons_succ, i64_w, i32_w]
  rfl
 refine pure_ (i := 3) (N := some 20) (v := ?_) (a' := ?_) #[false, false, true, true, false, false, false, false, false, false, false, false, false, false, false, false, false, false, false, false] rfl rfl (any_of HT_.out (by kernel_rfl)) (fun _ _ _ h => h) (Or.inl ⟨by rfl, ?_⟩) ?_ ?_
 rotate_left
 ·intro w'
  go_simp
  with_reducible rfl
 rotate_left
 ·simp only [Act.put, List.setIfInBounds_toArray, List.set_cons_zero, List.set_cons_succ, i64_w, i32_w]
  rfl
 refine pure_ (i := 6) (N := some 23) (v := ?_) (a' := ?_) #[false, false, true, true, false, false, true, false, false, false, false, false, false, false, false, false, false, false, false, false] rfl rfl (any_of HT_.out (by kernel_rfl)) (fun _ _ _ h => h) (Or.inl ⟨by rfl, ?_⟩) ?_ ?_
 rotate_left
 ·intro w'
  go_simp
  with_reducible rfl
 rotate_left
 ·simp only [Act.put, List.setIfInBounds_toArray, List.set_cons_zero, List.set_cons_succ, i64_w, i32_w]
  rfl
 refine pure_ (i := 7) (N := some 24) (v := ?_) (a' := ?_) #[false, false, true, true, false, false, true, true, false, false, false, false, false, false, false, false, false, false, false, false] rfl rfl (any_of HT_.out (by kernel_rfl)) (fun _ _ _ h => h) (Or.inl ⟨by rfl, ?_⟩) ?_ ?_
 rotate_left
 ·intro w'
  go_simp
  with_reducible rfl
 rotate_left
 ·simp only [Act.put, List.setIfInBounds_toArray, List.set_cons_zero, List.set_cons_succ, i64_w, i32_w]
  rfl
 refine pure_ (i := 8) (N := some 25) (v := ?_) (a' := ?_) #[false, false, true, true, false, false, true, true, true, false, false, false, false, false, false, false, false, false, false, false] rfl rfl (any_of HT_.out (by kernel_rfl)) (fun _ _ _ h => h) (Or.inl ⟨by rfl, ?_⟩) ?_ ?_
 rotate_left
 ·intro w'
  go_simp
  with_reducible rfl
 rotate_left
 ·simp only [Act.put, List.setIfInBounds_toArray, List.set_cons_zero, List.set_cons_succ, i64_w, i32_w]
  rfl
 refine pure_ (i := 9) (N := some 26) (v := ?_) (a' := ?_) #[false, false, true, true, false, false, true, true, true, true, false, false, false, false, false, false, false, false, false, false] rfl rfl (any_of HT_.out (by kernel_rfl)) (fun _ _ _ h => h) (Or.inl ⟨by rfl, ?_⟩) ?_ ?_
 rotate_left
 ·intro w'
  go_simp
  with_reducible rfl
 rotate_left
 ·simp only [Act.put, List.setIfInBounds_toArray, List.set_cons_zero, List.set_cons_succ, i64_w, i32_w]
  rfl
 refine pure_ (i := 10) (N := some 27) (v := ?_) (a' := ?_) #[false, false, true, true, false, false, true, true, true, true, true, false, false, false, false, false, false, false, false, false] rfl rfl (any_of HT_.out (by kernel_rfl)) (fun _ _ _ h => h) (Or.inl ⟨by rfl, ?_⟩) ?_ ?_
 rotate_left
 ·intro w'
  go_simp
  with_reducible rfl
 rotate_left
 ·simp only [Act.put, List.setIfInBounds_toArray, List.set_cons_zero, List.set_cons_succ, i64_w, i32_w]
  rfl
 refine pure_ (i := 14) (N := some 31) (v := ?_) (a' := ?_) #[false, false, true, true, false, false, true, true, true, true, true, false, false, false, true, false, false, false, false, false] rfl rfl (any_of HT_.out (by kernel_rfl)) (fun _ _ _ h => h) (Or.inl ⟨by rfl, ?_⟩) ?_ ?_
 rotate_left
 ·intro w'
  go_simp
  with_reducible rfl
 rotate_left
 ·simp only [Act.put, List.setIfInBounds_toArray, List.set_cons_zero, List.set_cons_succ, i64_w, i32_w]
  rfl
 refine pure_ (i := 15) (N := some 32) (v := ?_) (a' := ?_) #[false, false, true, true, false, false, true, true, true, true, true, false, false, false, true, true, false, false, false, false] rfl rfl (any_of HT_.out (by kernel_rfl)) (fun _ _ _ h => h) (Or.inl ⟨by rfl, ?_⟩) ?_ ?_
 rotate_left
 ·intro w'
  go_simp
  with_reducible rfl
 rotate_left
 ·simp only [Act.put, List.setIfInBounds_toArray, List.set_cons_zero, List.set_cons_succ, i64_w, i32_w]
  rfl
 refine pure_ (i := 16) (N := some 33) (v := ?_) (a' := ?_) #[false, false, true, true, false, false, true, true, true, true, true, false, false, false, true, true, true, false, false, false] rfl rfl (any_of HT_.out (by kernel_rfl)) (fun _ _ _ h => h) (Or.inl ⟨by rfl, ?_⟩) ?_ ?_
 rotate_left
 ·intro w'
  go_simp
  with_reducible rfl
 rotate_left
 ·simp only [Act.put, List.setIfInBounds_toArray, List.set_cons_zero, List.set_cons_succ, i64_w, i32_w]
  rfl
 refine take_ (i := 0) (N := some 17) (v := ?_) (a' := ?_) #[true, false, true, true, false, false, true, true, true, true, true, false, false, false, true, true, true, false, false, false] rfl rfl (take_ofW HT_.out HW_.out (by kernel_rfl)) (fun _ _ _ h => h) (Or.inl ⟨by rfl, ?_⟩) hHeld ?_ ?_
 rotate_left
 ·rintro w' ⟨s0, s1, s2, s3, s4, s5, s6⟩
  go_simp
  with_reducible rfl
 rotate_left
 ·simp only [Act.put, List.setIfInBounds_toArray, List.set_cons_zero, List.set_cons_succ, i64_w, i32_w]
  rfl
 refine take_ (i := 1) (N := some 18) (v := ?_) (a' := ?_) #[true, true, true, true, false, false, true, true, true, true, true, false, false, false, true, true, true, false, false, false] rfl rfl (take_ofW HT_.out HW_.out (by kernel_rfl)) (fun _ _ _ h => h) (Or.inl ⟨by rfl, ?_⟩) hHeld ?_ ?_
 rotate_left
 ·rintro w' ⟨s0, s1, s2, s3, s4, s5, s6⟩
  go_simp
  with_reducible rfl
 rotate_left
 ·simp only [Act.put, List.setIfInBounds_toArray, List.set_cons_zero, List.set_cons_succ, i64_w, i32_w]
  rfl
 refine take_ (i := 4) (N := some 21) (v := ?_) (a' := ?_) #[true, true, true, true, true, false, true, true, true, true, true, false, false, false, true, true, true, false, false, false] rfl rfl (take_ofW HT_.out HW_.out (by kernel_rfl)) (fun _ _ _ h => h) (Or.inl ⟨by rfl, ?_⟩) hHeld ?_ ?_
 rotate_left
 ·rintro w' ⟨s0, s1, s2, s3, s4, s5, s6⟩
  go_simp
  with_reducible rfl
 rotate_left
 ·simp only [Act.put, List.setIfInBounds_toArray, List.set_cons_zero, List.set_cons_succ, i64_w, i32_w]
  rfl
 refine take_ (i := 11) (N := some 28) (v := ?_) (a' := ?_) #[true, true, true, true, true, false, true, true, true, true, true, true, false, false, true, true, true, false, false, false] rfl rfl (take_ofW HT_.out HW_.out (by kernel_rfl)) (fun _ _ _ h => h) (Or.inl ⟨by rfl, ?_⟩) hHeld ?_ ?_
 rotate_left
 ·rintro w' ⟨s0, s1, s2, s3, s4, s5, s6⟩
  go_simp
  with_reducible rfl
 rotate_left
 ·simp only [Act.put, List.setIfInBounds_toArray, List.set_cons_zero, List.set_cons_succ, i64_w, i32_w]
  rfl
 refine one_ (i := 5) (N := some 22) #[true, true, true, true, true, true, true, true, true, true, true, true, false, false, true, true, true, false, false, false] rfl rfl (one_of HT_.out (by kernel_rfl)) (by decide) (fun K hK => ?_)
 refine goes_ Try.func69 (by kernel_rfl) rfl #[.agg #[.int .i64 a0_0, .int .i64 a0_1, .slice A0_2 l0_2.length c0_2], .agg #[.int .i64 a1_0, .int .i64 a1_1], .int .i64 (rd l2 0)] (by rfl) rfl rfl zap6 ?_
 with_reducible refine (spec_faFrom.calls k a0_0 a0_1 _ _ l0_2 a1_0 a1_1 (rd l2 0) t1074 _ ?side1 ?side2 A9.out).mono ?_
 (case side1 => exact zap5)
 (case side2 => exact HC0_2.out)
 rintro e w25 ⟨v1075, rfl, ho0, hb⟩
 refine ⟨_, rfl, ?_⟩
 have n0_ := Aside0.mk (Kd.R_lower ho0 (below_size zap1))
 have n1_ := Aside0.mk (blk_below (g := gb1069) (o := .cells #[.int .i64 a0_0, .int .i64 a0_1, .slice A0_2 l0_2.length c0_2] 30 (0, 0)) zap2 hb)
 have n2_ := Aside0.mk (blk_below (g := gb1070) (o := .cells #[.int .i64 a1_0, .int .i64 a1_1] 32 (0, 0)) zap7 hb)
 have n3_ := Aside0.mk (below_step zap1 hb)
 clear BK1069
 clear BK1070
 clear HB
 have HO1076 := n0_
 have BK1069 := n1_
 have BK1070 := n2_
 have HB := n3_
 clear n0_ n1_ n2_ n3_
 (try clear hb)
 (try clear hb2)
 (try clear hk)
 (try clear hi)
 (try clear ho0)
 (try clear hna_)
 (try clear hnb_)
 obtain ⟨Ao26, co26, eo26⟩ := Kd.R_slice HO1076.out
 (first | subst eo26 | (injection eo26 with f1_ f2_ f3_; have f4_ := f1_.symm; have f5_ := f3_.symm; clear f1_ f2_ f3_; subst f4_; subst f5_))
 have p1078 : 0 ≤ ((rd l2 (ji10)) : Int) := of_decide_eq_true zap8
 have q1078 : (rd l2 (ji10)) < (t1074.length : Int) := of_decide_eq_true zap8
 obtain ⟨ad1078, e1078, hx1078_0⟩ := Kd.at_int (Kd.R_reads' HO1076.out).2.2 (rd l2 (ji10)) p1078 q1078
 cases e1078
 replace p1078 := eq_true p1078
 replace q1078 := eq_true q1078
 refine hK.out _ _ ⟨(blk_cell BK1069.out 0).trans rfl, (blk_cell BK1069.out 1).trans rfl, (blk_cell BK1069.out 2).trans rfl, (blk_cell BK1070.out 0).trans rfl, (blk_cell BK1070.out 1).trans rfl, ((HB.out.cell (World.block_lt_of_cell? w _ hw1073_0)).trans hw1073_0), ((HB.out.cell (World.block_lt_of_cell? w _ hw1077_0)).trans hw1077_0)⟩ (fun hHeld => ?_)
 clear hK K
 refine norm_ (a' := ?_) ?_ ?_
 rotate_left
 ·show Act.put _ (some 22) _ = _
  simp only [Act.put, List.setIfInBounds_toArray, List.set_cons_zero, List.set_cons_succ, i64_w, i32_w]
  rfl
 refine pure_ (i := 12) (N := some 29) (v := ?_) (a' := ?_) #[true, true, true, true, true, true, true, true, true, true, true, true, true, false, true, true, true, false, false, false] rfl rfl (any_of HT_.out (by kernel_rfl)) (fun _ _ _ h => h) (Or.inl ⟨by rfl, ?_⟩) ?_ ?_
 rotate_left
 ·intro w'
  go_simp
  with_reducible rfl
 rotate_left
 ·simp only [Act.put, List.setIfInBounds_toArray, List.set_cons_zero, List.set_cons_succ, i64_w, i32_w]
  rfl
 refine one_ (i := 13) (N := some 30) #[true, true, true, true, true, true, true, true, true, true, true, true, true, true, true, true, true, false, false, false] rfl rfl (one_of HT_.out (by kernel_rfl)) (by decide) (fun K hK => ?_)
 refine value_ (v := .int .i64 (rd t1074 (rd l2 (ji10)))) (by rfl) rfl (by go_simp; first | done | rfl) ?_
 refine hK.out _ _ ⟨(blk_cell BK1069.out 0).trans rfl, (blk_cell BK1069.out 1).trans rfl, (blk_cell BK1069.out 2).trans rfl, (blk_cell BK1070.out 0).trans rfl, (blk_cell BK1070.out 1).trans rfl, ((HB.out.cell (World.block_lt_of_cell? w _ hw1073_0)).trans hw1073_0), ((HB.out.cell (World.block_lt_of_cell? w _ hw1077_0)).trans hw1077_0)⟩ (fun hHeld => ?_)
 clear hK K
 refine norm_ (a' := ?_) ?_ ?_
 rotate_left
 ·show Act.put _ (some 30) _ = _
  simp only [Act.put, List.setIfInBounds_toArray, List.set_cons_zero, List.set_cons_succ, i64_w, i32_w]
  rfl
 refine pure_ (i := 17) (N := some 34) (v := ?_) (a' := ?_) #[true, true, true, true, true, true, true, true, true, true, true, true, true, true, true, true, true, true, false, false] rfl rfl (any_of HT_.out (by kernel_rfl)) (fun _ _ _ h => h) (Or.inl ⟨by rfl, ?_⟩) ?_ ?_
 rotate_left
 ·intro w'
  go_simp
  with_reducible rfl
 rotate_left
 ·simp only [Act.put, List.setIfInBounds_toArray, List.set_cons_zero, List.set_cons_succ, i64_w, i32_w]
  rfl
 refine pure_ (i := 18) (N := some 6) (v := ?_) (a' := ?_) #[true, true, true, true, true, true, true, true, true, true, true, true, true, true, true, true, true, true, true, false] rfl rfl (any_of HT_.out (by kernel_rfl)) (fun _ _ _ h => h) (Or.inl ⟨by rfl, ?_⟩) ?_ ?_
 rotate_left
 ·intro w'
  go_simp
  with_reducible rfl
 rotate_left
 ·simp only [Act.put, List.setIfInBounds_toArray, List.set_cons_zero, List.set_cons_succ, i64_w, i32_w]
  rfl
 refine pure_ (i := 19) (N := some 7) (v := ?_) (a' := ?_) #[true, true, true, true, true, true, true, true, true, true, true, true, true, true, true, true, true, true, true, true] rfl rfl (any_of HT_.out (by kernel_rfl)) (fun _ _ _ h => h) (Or.inl ⟨by rfl, ?_⟩) ?_ ?_
 rotate_left
 ·intro w'
  go_simp
  with_reducible rfl
 rotate_left
 ·simp only [Act.put, List.setIfInBounds_toArray, List.set_cons_zero, List.set_cons_succ, i64_w, i32_w]
  rfl
 refine done_ (done_of HT_.out (by kernel_rfl)) ?_
 try go_wp2
 go_ret2
 exact ⟨by first | rfl | (simp [errW_none, errW_some] <;> rfl) | (simp only [← hji10]; first | rfl | (simp [errW_none, errW_some] <;> rfl)) | (simp [*, errW_none, errW_some] <;> rfl), zap1⟩

end Go.Proofs.Ytbecdckdbeoomaa.Q

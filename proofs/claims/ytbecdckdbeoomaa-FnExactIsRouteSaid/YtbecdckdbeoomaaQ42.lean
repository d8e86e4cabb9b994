/- Written by a program of this session: functions of the translation as plain Lean functions, each with a proof that the call does what the plain function says; the conditions stand in each theorem. -/
import Derived.Test.YtbecdckdbeoomaaQ0
import Derived.Test.YtbecdckdbeoomaaQ4
import Derived.Test.YtbecdckdbeoomaaQ14
import Derived.Test.YtbecdckdbeoomaaQ33
namespace Go.Proofs.Ytbecdckdbeoomaa.Q
open Go.RowKit Go.Proofs.YtbecdckdbeoomaaW.PrintWords Go.Proofs.YtbecdckdbeoomaaW.PrintLast Go.Proofs.YtbecdckdbeoomaaW.PrintMore
attribute [local go_sem] max2_int min2_int max_two min_two max_three min_three max_four min_four   -- for this text's walks alone
set_option linter.unusedVariables false
set_option linter.unusedSimpArgs false

theorem zaq1 {p : Prop} (h : p := by repeat (first | (with_reducible first | exact HB.out | apply below_alloc | apply pw_below_drewN | apply below_drew1 | refine below_set ?_ GE1079.out | refine below_set ?_ GE1080.out) | exact HB.out)) : p := h
theorem zaq2 {p : Prop} (h : p := by first | exact BK1079.out | ((with_reducible repeat (first | refine blk_drewN ?_ _ | refine blk_drew ?_ | refine blk_alloc ?_ _)); exact BK1079.out)) : p := h
theorem zaq3 {p : Prop} (h : p := by repeat (first | (with_reducible first | exact HB.out | apply below_alloc | apply pw_below_drewN | apply below_drew1 | refine below_set ?_ GE1079.out) | exact HB.out)) : p := h
theorem zaq4 {p : Prop} (h : p := by repeat (first | (with_reducible first | exact HB.out | apply below_alloc | apply pw_below_drewN | apply below_drew1 | refine below_set ?_ GE1079.out | refine below_set ?_ GE1080.out | refine below_set ?_ GE1087.out) | exact HB.out)) : p := h
theorem zaq5 {p : Prop} (h : p := by first | exact BK1080.out | ((with_reducible repeat (first | refine blk_drewN ?_ _ | refine blk_drew ?_ | refine blk_alloc ?_ _)); exact BK1080.out)) : p := h
theorem zaq6 {p : Prop} (h : p := by repeat (first | (with_reducible first | exact HB.out | apply below_alloc | apply pw_below_drewN | apply below_drew1) | exact HB.out)) : p := h
theorem zaq7 {p : Prop} (h : p := by repeat (first | exact (Kd.C_below HR0_2.out HB.out) | (with_reducible refine Kd.C_alloc ?_ _) | (with_reducible refine Kd.C_drewN ?_ _) | (with_reducible refine Kd.C_drew ?_))) : p := h
theorem zaq8 {p : Prop} (h : p := by (try simp only [List.map_toArray, List.map_cons, List.map_nil]); first | done | rfl | (simp only [List.length_drop, List.length_take]; rfl)) : p := h
theorem zaq9 {p : Prop} (h : p := by first | exact BK1087.out | ((with_reducible repeat (first | refine blk_drewN ?_ _ | refine blk_drew ?_ | refine blk_alloc ?_ _)); exact BK1087.out)) : p := h
theorem zaq10 {p : Prop} (h : p := by repeat (first | exact (Kd.S_reads' HO1086.out).2.2 | (with_reducible refine Kd.C_alloc ?_ _) | (with_reducible refine Kd.C_drewN ?_ _) | (with_reducible refine Kd.C_drew ?_))) : p := h
theorem zaq11 {p : Prop} (h : p := by repeat (first | exact (Kd.R_reads' HO1083.out).2.2 | (with_reducible refine Kd.C_alloc ?_ _) | (with_reducible refine Kd.C_drewN ?_ _) | (with_reducible refine Kd.C_drew ?_))) : p := h
theorem zaq12 {p : Prop} (h : p := by first | exact HO1083.out | ((with_reducible repeat (first | apply Kd.R_alloc | apply Kd.R_drewN | apply Kd.R_drew)); exact HO1083.out)) : p := h
theorem zaq13 {p : Prop} (h : p := by first | exact HO1086.out | ((with_reducible repeat (first | apply Kd.S_alloc | apply Kd.S_drewN | apply Kd.S_drew)); exact HO1086.out)) : p := h
theorem zaq14 {p : Prop} (h : p := by first | (with_reducible assumption) | assumption) : p := h
theorem zaq15 {p : Prop} (h : p := by repeat (first | exact (Kd.C_below HR2.out HB.out) | (with_reducible refine Kd.C_alloc ?_ _) | (with_reducible refine Kd.C_drewN ?_ _) | (with_reducible refine Kd.C_drew ?_))) : p := h
theorem zaq16 {p : Prop} (h : p := by rw [hg]; exact Nat.ne_of_lt (blk_lt (g := gb1079) (o := .cells #[.int .i64 a0_0, .int .i64 a0_1, .slice A0_2 l0_2.length c0_2] 30 (0, 0)) zaq2)) : p := h
theorem zaq17 {p : Prop} (h : p := by rw [hg]; exact Nat.ne_of_gt (blk_lt (g := gb1079) (o := .cells #[.int .i64 a0_0, .int .i64 a0_1, .slice A0_2 l0_2.length c0_2] 30 (0, 0)) zaq2)) : p := h
theorem zaq18 {p : Prop} (h : p := by rw [hg]; exact (below_size zaq6)) : p := h
theorem zaq19 {p : Prop} (h : p := by rw [hg]; exact (below_size zaq3)) : p := h
/-! ### impl_IsRoute: function 34 -/
def impl_IsRoute.f (k : Nat) (a0_0 : Int) (a0_1 : Int) (l0_2 : List Int) (a1_0 : Int) (a1_1 : Int) (l2 : List Int) : Option (Bool × Bool) := (impl_graphOf.f k a0_0 a0_1 l0_2 a1_0 a1_1).bind fun bt1081 => (if bt1081.2.2 = true then ((impl_graph_isPath.f k a0_0 a0_1 l0_2 a1_0 a1_1 bt1081.1 bt1081.2.1 l2).bind fun t1090 => (if t1090 = true then (if 0 < (l2.length : Int) then ((impl_graph_far.f k a0_0 a0_1 l0_2 a1_0 a1_1 bt1081.1 bt1081.2.1 (rd l2 0)).bind fun t1092 => (if 0 ≤ (wrap64 ((l2.length : Int) - 1)) then (if (wrap64 ((l2.length : Int) - 1)) < (l2.length : Int) then (if 0 ≤ (rd l2 (wrap64 ((l2.length : Int) - 1))) then (if (rd l2 (wrap64 ((l2.length : Int) - 1))) < (t1092.length : Int) then (some (((rd t1092 (rd l2 (wrap64 ((l2.length : Int) - 1)))) == (wrap64 ((l2.length : Int) - 1))), true)) else (none)) else (none)) else (none)) else (none))) else (none)) else (some (false, true)))) else (some (false, false)))
def impl_IsRoute.T4 : Bool × List (List Nat × List Nat) := (true, [([], []), ([], []), ([0, 1], [0, 1]), ([2, 2], [2]), ([3], [3]), ([3], [3]), ([5, 3], [3, 5]), ([6, 3], [3, 6]), ([4, 7, 3, 3], [3, 4, 7]), ([3], [3]), ([3], [3]), ([10, 3], [3, 10]), ([11, 3], [3, 11]), ([9, 12, 3], [3, 9, 12]), ([13, 3], [3, 13]), ([8, 14, 3], [3, 8, 14]), ([15, 3], [3, 15]), ([3], [3]), ([17, 3], [3, 17]), ([18, 3], [3, 18]), ([16, 19, 3], [3, 16, 19]), ([3, 20], [3, 20]), ([21, 8, 0, 1, 2, 3, 4, 5, 6, 7, 8, 9, 10, 11, 12, 13, 14, 15, 16, 17, 18, 19, 20, 21], [21]), ([22, 0, 1, 2, 3, 4, 5, 6, 7, 8, 9, 10, 11, 12, 13, 14, 15, 16, 17, 18, 19, 20, 21, 22], [])])
def impl_IsRoute.B4 : List Nat := [0, 0, 3, 7, 15, 15, 47, 111, 255, 15, 15, 1039, 3087, 7695, 15887, 32767, 65535, 15, 131087, 393231, 1048575, 2097151, 4194303, 8388607]
theorem impl_IsRoute.tab4 : rtab .any (opsOf Try.f34 4) = impl_IsRoute.T4 := by kernel_rfl
theorem impl_IsRoute.bits4 : waitsOk impl_IsRoute.T4.2 impl_IsRoute.B4 = true := by kernel_rfl
set_option maxHeartbeats 8000000 in
set_option maxRecDepth 100000 in
theorem impl_IsRoute.calls (k : Nat) (a0_0 : Int) (a0_1 : Int) (A0_2 : Option Addr) (c0_2 : Nat) (l0_2 : List Int) (a1_0 : Int) (a1_1 : Int) (A2 : Option Addr) (c2 : Nat) (l2 : List Int) (r1 : Bool) (r2 : Bool) (w : World) (hr0_2 : Kd.C (Kd.int .i64) w A0_2 l0_2.length l0_2) (hc0_2 : l0_2.length ≤ c0_2) (hr2 : Kd.C (Kd.int .i64) w A2 l2.length l2) (hc2 : l2.length ≤ c2) (h : impl_IsRoute.f k a0_0 a0_1 l0_2 a1_0 a1_1 l2 = some (r1, r2)) :
  Calls Try.prog 34 #[.agg #[.int .i64 a0_0, .int .i64 a0_1, .slice A0_2 l0_2.length c0_2], .agg #[.int .i64 a1_0, .int .i64 a1_1], .slice A2 l2.length c2] w fun e w' => e = .returned (.tuple #[.bool r1, .bool r2]) ∧ Below w.heap.size w w' := by
 have hu30 := Try.underlying30
 have hu32 := Try.underlying32
 have HR0_2 := Aside0.mk hr0_2
 have HC0_2 := Aside0.mk hc0_2
 clear hr0_2 hc0_2
 have HR2 := Aside0.mk hr2
 have HC2 := Aside0.mk hc2
 clear hr2 hc2
 have HB := Aside0.mk (Below.refl w.heap.size w)
 have H : ((impl_graphOf.f k a0_0 a0_1 l0_2 a1_0 a1_1).bind fun bt1081 => (if bt1081.2.2 = true then ((impl_graph_isPath.f k a0_0 a0_1 l0_2 a1_0 a1_1 bt1081.1 bt1081.2.1 l2).bind fun t1090 => (if t1090 = true then (if 0 < (l2.length : Int) then ((impl_graph_far.f k a0_0 a0_1 l0_2 a1_0 a1_1 bt1081.1 bt1081.2.1 (rd l2 0)).bind fun t1092 => (if 0 ≤ (wrap64 ((l2.length : Int) - 1)) then (if (wrap64 ((l2.length : Int) - 1)) < (l2.length : Int) then (if 0 ≤ (rd l2 (wrap64 ((l2.length : Int) - 1))) then (if (rd l2 (wrap64 ((l2.length : Int) - 1))) < (t1092.length : Int) then (some (((rd t1092 (rd l2 (wrap64 ((l2.length : Int) - 1)))) == (wrap64 ((l2.length : Int) - 1))), true)) else (none)) else (none)) else (none)) else (none))) else (none)) else (some (false, true)))) else (some (false, false)))) = some (r1, r2) := h
 clear h
 replace H := Option.bind_eq_some_iff.mp H
 obtain ⟨⟨t1081, t1084, t1089⟩, A40, H⟩ := H
 replace H : (if t1089 = true then ((impl_graph_isPath.f k a0_0 a0_1 l0_2 a1_0 a1_1 t1081 t1084 l2).bind fun t1090 => (if t1090 = true then (if 0 < (l2.length : Int) then ((impl_graph_far.f k a0_0 a0_1 l0_2 a1_0 a1_1 t1081 t1084 (rd l2 0)).bind fun t1092 => (if 0 ≤ (wrap64 ((l2.length : Int) - 1)) then (if (wrap64 ((l2.length : Int) - 1)) < (l2.length : Int) then (if 0 ≤ (rd l2 (wrap64 ((l2.length : Int) - 1))) then (if (rd l2 (wrap64 ((l2.length : Int) - 1))) < (t1092.length : Int) then (some (((rd t1092 (rd l2 (wrap64 ((l2.length : Int) - 1)))) == (wrap64 ((l2.length : Int) - 1))), true)) else (none)) else (none)) else (none)) else (none))) else (none)) else (some (false, true)))) else (some (false, false))) = some (r1, r2) := H
 have A4 := Aside0.mk A40
 clear A40
 by_cases c5 : t1089 = true
 rotate_left
 ·replace c5 := Bool.eq_false_iff.mpr c5
  subst c5
  have H1 : (some (false, false)) = some (r1, r2) := by rw [if_neg (show ¬ (false = true) by decide)] at H; exact H
  clear H
  have H := H1
  clear H1
  simp only [Option.some.injEq, Prod.mk.injEq] at H
  obtain ⟨rfl, rfl⟩ := H
  go_enter Try.func34, Try.ntmps34
  go_wp2_with (first | ((with_reducible refine gate_dst (N := 3) rfl ?_); (try (refine gate_guard (by rfl) ?_; dsimp only)); refine box_event ?hg (N := 3) ?hd (cs := #[.int .i64 a0_0, .int .i64 a0_1, .slice A0_2 l0_2.length c0_2]) (t := 30) ?hr ?_; (case hd => rfl); (case hg => rfl); (case hr => first | (go_simp; done) | (go_simp; rfl)); intro gb1079 hg w37 hbox hb; have n0_ := Aside0.mk (below_step zaq6 hb); have n1_ := Aside0.mk (hbox); have n2_ := Aside0.mk ((zaq18 : w.heap.size ≤ gb1079)); have n3_ := Aside0.mk ((zaq18 : w.heap.size ≤ gb1079)); clear HB; have HB := n0_; have BK1079 := n1_; have GW1079 := n2_; have GE1079 := n3_; clear n0_ n1_ n2_ n3_; clear hb hbox hg) | ((with_reducible refine gate_dst (N := 4) rfl ?_); (try (refine gate_guard (by rfl) ?_; dsimp only)); refine box_event ?hg (N := 4) ?hd (cs := #[.int .i64 a1_0, .int .i64 a1_1]) (t := 32) ?hr ?_; (case hd => rfl); (case hg => rfl); (case hr => first | (go_simp; done) | (go_simp; rfl)); intro gb1080 hg w38 hbox hb; have n0_ := Aside0.mk (blk_below (g := gb1079) (o := .cells #[.int .i64 a0_0, .int .i64 a0_1, .slice A0_2 l0_2.length c0_2] 30 (0, 0)) zaq2 hb); have n1_ := Aside0.mk (below_step zaq3 hb); have n2_ := Aside0.mk (hbox); have n3_ := Aside0.mk ((zaq19 : w.heap.size ≤ gb1080)); have n4_ := Aside0.mk ((zaq19 : w.heap.size ≤ gb1080)); have n5_ := Aside0.mk ((zaq16 : gb1079 ≠ gb1080)); have n6_ := Aside0.mk ((zaq17 : gb1080 ≠ gb1079)); clear BK1079; clear HB; have BK1079 := n0_; have HB := n1_; have BK1080 := n2_; have GW1080 := n3_; have GE1080 := n4_; have NB1079_1080 := n5_; have NB1080_1079 := n6_; clear n0_ n1_ n2_ n3_ n4_ n5_ n6_; clear hb hbox hg; have hnb39 := NB1079_1080.out; have hnc39 := NB1080_1079.out; have hcz40_0 : w38.cell? ⟨gb1079, 0, none⟩ = some (.int .i64 a0_0) := (blk_cell BK1079.out 0).trans rfl; have hcz40_1 : w38.cell? ⟨gb1079, 1, none⟩ = some (.int .i64 a0_1) := (blk_cell BK1079.out 1).trans rfl; have hcz40_2 : w38.cell? ⟨gb1079, 2, none⟩ = some (.slice A0_2 l0_2.length c0_2) := (blk_cell BK1079.out 2).trans rfl; have hfz40_0 := blk_frozen BK1079.out 0; have hfz40_1 := blk_frozen BK1079.out 1; have hfz40_2 := blk_frozen BK1079.out 2; have hcz41_0 : w38.cell? ⟨gb1080, 0, none⟩ = some (.int .i64 a1_0) := (blk_cell BK1080.out 0).trans rfl; have hcz41_1 : w38.cell? ⟨gb1080, 1, none⟩ = some (.int .i64 a1_1) := (blk_cell BK1080.out 1).trans rfl; have hfz41_0 := blk_frozen BK1080.out 0; have hfz41_1 := blk_frozen BK1080.out 1) | ((with_reducible refine gate_callee (f := 58) rfl ?_); refine goesL_ (some 13) rfl rfl Try.func58 (by kernel_rfl) rfl #[.agg #[.int .i64 a0_0, .int .i64 a0_1, .slice A0_2 l0_2.length c0_2], .agg #[.int .i64 a1_0, .int .i64 a1_1]] rfl zaq8 ?_; (with_reducible refine (impl_graphOf.calls k a0_0 a0_1 _ _ l0_2 a1_0 a1_1 t1081 t1084 false _ ?side1 ?side2 A4.out).mono ?_); (case side1 => exact zaq7); (case side2 => exact HC0_2.out); rintro e w42 ⟨v1082, v1085, pv1088, rfl, hgp, ho0, ho1, hb⟩; refine ⟨_, rfl, ?_⟩; obtain rfl := hgp.2 rfl; have n0_ := Aside0.mk (Kd.R_lower ho0 (below_size zaq1)); have n1_ := Aside0.mk (Kd.S_lower ho1 (below_size zaq1)); have n2_ := Aside0.mk (blk_below (g := gb1079) (o := .cells #[.int .i64 a0_0, .int .i64 a0_1, .slice A0_2 l0_2.length c0_2] 30 (0, 0)) zaq2 hb); have n3_ := Aside0.mk (blk_below (g := gb1080) (o := .cells #[.int .i64 a1_0, .int .i64 a1_1] 32 (0, 0)) zaq5 hb); have n4_ := Aside0.mk (below_step zaq1 hb); clear BK1079; clear BK1080; clear HB; have HO1083 := n0_; have HO1086 := n1_; have BK1079 := n2_; have BK1080 := n3_; have HB := n4_; clear n0_ n1_ n2_ n3_ n4_; (try clear hb); (try clear hb2); (try clear hk); (try clear hi); (try clear ho0); (try clear ho1); (try clear hgp); (try clear hbox); (try clear hge); (try clear hna_); (try clear hnb_)))
  go_ret2
  exact ⟨by first | rfl | (simp [errW_none, errW_some] <;> rfl) | (simp [*, errW_none, errW_some] <;> rfl), zaq1⟩
 subst c5
 have H1 : ((impl_graph_isPath.f k a0_0 a0_1 l0_2 a1_0 a1_1 t1081 t1084 l2).bind fun t1090 => (if t1090 = true then (if 0 < (l2.length : Int) then ((impl_graph_far.f k a0_0 a0_1 l0_2 a1_0 a1_1 t1081 t1084 (rd l2 0)).bind fun t1092 => (if 0 ≤ (wrap64 ((l2.length : Int) - 1)) then (if (wrap64 ((l2.length : Int) - 1)) < (l2.length : Int) then (if 0 ≤ (rd l2 (wrap64 ((l2.length : Int) - 1))) then (if (rd l2 (wrap64 ((l2.length : Int) - 1))) < (t1092.length : Int) then (some (((rd t1092 (rd l2 (wrap64 ((l2.length : Int) - 1)))) == (wrap64 ((l2.length : Int) - 1))), true)) else (none)) else (none)) else (none)) else (none))) else (none)) else (some (false, true)))) = some (r1, r2) := by rw [if_pos rfl] at H; exact H
 clear H
 have H := H1
 clear H1
 replace H := Option.bind_eq_some_iff.mp H
 obtain ⟨t1090, A60, H⟩ := H
 replace H : (if t1090 = true then (if 0 < (l2.length : Int) then ((impl_graph_far.f k a0_0 a0_1 l0_2 a1_0 a1_1 t1081 t1084 (rd l2 0)).bind fun t1092 => (if 0 ≤ (wrap64 ((l2.length : Int) - 1)) then (if (wrap64 ((l2.length : Int) - 1)) < (l2.length : Int) then (if 0 ≤ (rd l2 (wrap64 ((l2.length : Int) - 1))) then (if (rd l2 (wrap64 ((l2.length : Int) - 1))) < (t1092.length : Int) then (some (((rd t1092 (rd l2 (wrap64 ((l2.length : Int) - 1)))) == (wrap64 ((l2.length : Int) - 1))), true)) else (none)) else (none)) else (none)) else (none))) else (none)) else (some (false, true))) = some (r1, r2) := H
 have A6 := Aside0.mk A60
 clear A60
 by_cases c7 : t1090 = true
 rotate_left
 ·replace c7 := Bool.eq_false_iff.mpr c7
  subst c7
  have H1 : (some (false, true)) = some (r1, r2) := by rw [if_neg (show ¬ (false = true) by decide)] at H; exact H
  clear H
  have H := H1
  clear H1
  simp only [Option.some.injEq, Prod.mk.injEq] at H
  obtain ⟨rfl, rfl⟩ := H
  go_enter Try.func34, Try.ntmps34
  try go_wp2_with (first | ((with_reducible refine gate_dst (N := 3) rfl ?_); (try (refine gate_guard (by rfl) ?_; dsimp only)); refine box_event ?hg (N := 3) ?hd (cs := #[.int .i64 a0_0, .int .i64 a0_1, .slice A0_2 l0_2.length c0_2]) (t := 30) ?hr ?_; (case hd => rfl); (case hg => rfl); (case hr => first | (go_simp; done) | (go_simp; rfl)); intro gb1079 hg w27 hbox hb; have n0_ := Aside0.mk (below_step zaq6 hb); have n1_ := Aside0.mk (hbox); have n2_ := Aside0.mk ((zaq18 : w.heap.size ≤ gb1079)); have n3_ := Aside0.mk ((zaq18 : w.heap.size ≤ gb1079)); clear HB; have HB := n0_; have BK1079 := n1_; have GW1079 := n2_; have GE1079 := n3_; clear n0_ n1_ n2_ n3_; clear hb hbox hg) | ((with_reducible refine gate_dst (N := 4) rfl ?_); (try (refine gate_guard (by rfl) ?_; dsimp only)); refine box_event ?hg (N := 4) ?hd (cs := #[.int .i64 a1_0, .int .i64 a1_1]) (t := 32) ?hr ?_; (case hd => rfl); (case hg => rfl); (case hr => first | (go_simp; done) | (go_simp; rfl)); intro gb1080 hg w28 hbox hb; have n0_ := Aside0.mk (blk_below (g := gb1079) (o := .cells #[.int .i64 a0_0, .int .i64 a0_1, .slice A0_2 l0_2.length c0_2] 30 (0, 0)) zaq2 hb); have n1_ := Aside0.mk (below_step zaq3 hb); have n2_ := Aside0.mk (hbox); have n3_ := Aside0.mk ((zaq19 : w.heap.size ≤ gb1080)); have n4_ := Aside0.mk ((zaq19 : w.heap.size ≤ gb1080)); have n5_ := Aside0.mk ((zaq16 : gb1079 ≠ gb1080)); have n6_ := Aside0.mk ((zaq17 : gb1080 ≠ gb1079)); clear BK1079; clear HB; have BK1079 := n0_; have HB := n1_; have BK1080 := n2_; have GW1080 := n3_; have GE1080 := n4_; have NB1079_1080 := n5_; have NB1080_1079 := n6_; clear n0_ n1_ n2_ n3_ n4_ n5_ n6_; clear hb hbox hg; have hnb29 := NB1079_1080.out; have hnc29 := NB1080_1079.out; have hcz30_0 : w28.cell? ⟨gb1079, 0, none⟩ = some (.int .i64 a0_0) := (blk_cell BK1079.out 0).trans rfl; have hcz30_1 : w28.cell? ⟨gb1079, 1, none⟩ = some (.int .i64 a0_1) := (blk_cell BK1079.out 1).trans rfl; have hcz30_2 : w28.cell? ⟨gb1079, 2, none⟩ = some (.slice A0_2 l0_2.length c0_2) := (blk_cell BK1079.out 2).trans rfl; have hfz30_0 := blk_frozen BK1079.out 0; have hfz30_1 := blk_frozen BK1079.out 1; have hfz30_2 := blk_frozen BK1079.out 2; have hcz31_0 : w28.cell? ⟨gb1080, 0, none⟩ = some (.int .i64 a1_0) := (blk_cell BK1080.out 0).trans rfl; have hcz31_1 : w28.cell? ⟨gb1080, 1, none⟩ = some (.int .i64 a1_1) := (blk_cell BK1080.out 1).trans rfl; have hfz31_0 := blk_frozen BK1080.out 0; have hfz31_1 := blk_frozen BK1080.out 1) | ((with_reducible refine gate_callee (f := 58) rfl ?_); refine goesL_ (some 13) rfl rfl Try.func58 (by kernel_rfl) rfl #[.agg #[.int .i64 a0_0, .int .i64 a0_1, .slice A0_2 l0_2.length c0_2], .agg #[.int .i64 a1_0, .int .i64 a1_1]] rfl zaq8 ?_; (with_reducible refine (impl_graphOf.calls k a0_0 a0_1 _ _ l0_2 a1_0 a1_1 t1081 t1084 true _ ?side1 ?side2 A4.out).mono ?_); (case side1 => exact zaq7); (case side2 => exact HC0_2.out); rintro e w32 ⟨v1082, v1085, pv1088, rfl, hgp, ho0, ho1, hb⟩; refine ⟨_, rfl, ?_⟩; obtain ⟨gb1087, rfl, hbox, hge⟩ := hgp.1 rfl; have n0_ := Aside0.mk (Kd.R_lower ho0 (below_size zaq1)); have n1_ := Aside0.mk (Kd.S_lower ho1 (below_size zaq1)); have n2_ := Aside0.mk (blk_below (g := gb1079) (o := .cells #[.int .i64 a0_0, .int .i64 a0_1, .slice A0_2 l0_2.length c0_2] 30 (0, 0)) zaq2 hb); have n3_ := Aside0.mk (blk_below (g := gb1080) (o := .cells #[.int .i64 a1_0, .int .i64 a1_1] 32 (0, 0)) zaq5 hb); have n4_ := Aside0.mk (hbox); have n5_ := Aside0.mk ((Nat.le_trans (by exact (below_size zaq1)) hge : w.heap.size ≤ gb1087)); have n6_ := Aside0.mk ((Nat.le_trans (by exact (below_size zaq1)) hge : w.heap.size ≤ gb1087)); have n7_ := Aside0.mk ((Nat.ne_of_lt (Nat.lt_of_lt_of_le (blk_lt (g := gb1079) (o := .cells #[.int .i64 a0_0, .int .i64 a0_1, .slice A0_2 l0_2.length c0_2] 30 (0, 0)) zaq2) hge) : gb1079 ≠ gb1087)); have n8_ := Aside0.mk ((Nat.ne_of_gt (Nat.lt_of_lt_of_le (blk_lt (g := gb1079) (o := .cells #[.int .i64 a0_0, .int .i64 a0_1, .slice A0_2 l0_2.length c0_2] 30 (0, 0)) zaq2) hge) : gb1087 ≠ gb1079)); have n9_ := Aside0.mk ((Nat.ne_of_lt (Nat.lt_of_lt_of_le (blk_lt (g := gb1080) (o := .cells #[.int .i64 a1_0, .int .i64 a1_1] 32 (0, 0)) zaq5) hge) : gb1080 ≠ gb1087)); have n10_ := Aside0.mk ((Nat.ne_of_gt (Nat.lt_of_lt_of_le (blk_lt (g := gb1080) (o := .cells #[.int .i64 a1_0, .int .i64 a1_1] 32 (0, 0)) zaq5) hge) : gb1087 ≠ gb1080)); have n11_ := Aside0.mk (below_step zaq1 hb); clear BK1079; clear BK1080; clear HB; have HO1083 := n0_; have HO1086 := n1_; have BK1079 := n2_; have BK1080 := n3_; have BK1087 := n4_; have GW1087 := n5_; have GE1087 := n6_; have NB1079_1087 := n7_; have NB1087_1079 := n8_; have NB1080_1087 := n9_; have NB1087_1080 := n10_; have HB := n11_; clear n0_ n1_ n2_ n3_ n4_ n5_ n6_ n7_ n8_ n9_ n10_ n11_; (try clear hb); (try clear hb2); (try clear hk); (try clear hi); (try clear ho0); (try clear ho1); (try clear hgp); (try clear hbox); (try clear hge); (try clear hna_); (try clear hnb_)))
  have n0_ := Aside0.mk (Kd.R_drew HO1083.out)
  have n1_ := Aside0.mk (Kd.S_drew HO1086.out)
  have n2_ := Aside0.mk (blk_drew BK1079.out)
  have n3_ := Aside0.mk (blk_drew BK1080.out)
  have n4_ := Aside0.mk (blk_drew BK1087.out)
  have n5_ := Aside0.mk (below_drew1 HB.out)
  clear HO1083
  clear HO1086
  clear BK1079
  clear BK1080
  clear BK1087
  clear HB
  have HO1083 := n0_
  have HO1086 := n1_
  have BK1079 := n2_
  have BK1080 := n3_
  have BK1087 := n4_
  have HB := n5_
  clear n0_ n1_ n2_ n3_ n4_ n5_
  obtain ⟨Ao34, co34, eo34⟩ := Kd.R_slice HO1083.out
  (first | subst eo34 | (injection eo34 with f1_ f2_ f3_; have f4_ := f1_.symm; have f5_ := f3_.symm; clear f1_ f2_ f3_; subst f4_; subst f5_))
  obtain ⟨Ao35, co35, eo35⟩ := Kd.S_slice HO1086.out
  (first | subst eo35 | (injection eo35 with f1_ f2_ f3_; have f4_ := f1_.symm; have f5_ := f3_.symm; clear f1_ f2_ f3_; subst f4_; subst f5_))
  refine start_ (n := 24) (S := fun w' => True) (ds := []) #[false, false, false, false, false, false, false, false, false, false, false, false, false, false, false, false, false, false, false, false, false, false, false, false] (by kernel_rfl) rfl rfl trivial (fun hHeld => ?_); refine with_tabW impl_IsRoute.tab4 impl_IsRoute.bits4 (fun HT_ HW_ => ?_)
  generalize w32.drew = w33 at HO1083 HO1086 BK1079 BK1080 BK1087 HB hHeld ⊢
  refine pure_ (i := 0) (N := some 18) (v := ?_) (a' := ?_) #[true, false, false, false, false, false, false, false, false, false, false, false, false, false, false, false, false, false, false, false, false, false, false, false] rfl rfl (any_of HT_.out (by kernel_rfl)) (fun _ _ _ h => h) (Or.inl ⟨by rfl, ?_⟩) ?_ ?_
  rotate_left
  ·intro w'
   go_simp
   with_reducible rfl
  rotate_left
  ·simp only [Act.put, List.setIfInBounds_toArray, List.set_cons_zero, List.set_cons_succ, i64_w, i32_w]
   rfl
  refine pure_ (i := 1) (N := some 19) (v := ?_) (a' := ?_) #[true, true, false, false, false, false, false, false, false, false, false, false, false, false, false, false, false, false, false, false, false, false, false, false] rfl rfl (any_of HT_.out (by kernel_rfl)) (fun _ _ _ h => h) (Or.inl ⟨by rfl, ?_⟩) ?_ ?_
  rotate_left
  ·intro w'
   go_simp
   with_reducible rfl
  rotate_left
  ·simp only [Act.put, List.setIfInBounds_toArray, List.set_cons_zero, List.set_cons_succ, i64_w, i32_w]
   rfl
  refine one_ (i := 2) (N := some 20) #[true, true, true, false, false, false, false, false, false, false, false, false, false, false, false, false, false, false, false, false, false, false, false, false] rfl rfl (one_of HT_.out (by kernel_rfl)) (by decide) (fun K hK => ?_)
  refine goes_ Try.func70 (by kernel_rfl) rfl #[.pointer (some ⟨gb1087, 0, none⟩), .slice A2 l2.length c2] (by rfl) rfl rfl zaq8 ?_
  with_reducible refine (impl_graph_isPath.calls k gb1087 a0_0 a0_1 A0_2 c0_2 l0_2 a1_0 a1_1 Ao34 co34 t1081 Ao35 co35 t1084 _ _ l2 false _ ?side1 ?side2 ?side3 ?side4 ?side5 ?side6 ?side7 ?side8 ?side9 A6.out).mono ?_
  (case side1 => exact zaq9)
  (case side2 => exact zaq7)
  (case side3 => exact HC0_2.out)
  (case side4 => exact zaq11)
  (case side5 => exact (Kd.R_reads' HO1083.out).2.1)
  (case side6 => exact zaq10)
  (case side7 => exact (Kd.S_reads' HO1086.out).2.1)
  (case side8 => exact zaq15)
  (case side9 => exact HC2.out)
  rintro e w36 ⟨rfl, hb⟩
  refine ⟨_, rfl, ?_⟩
  have n0_ := Aside0.mk (Kd.R_below zaq12 hb)
  have n1_ := Aside0.mk (Kd.S_below zaq13 hb)
  have n2_ := Aside0.mk (blk_below (g := gb1079) (o := .cells #[.int .i64 a0_0, .int .i64 a0_1, .slice A0_2 l0_2.length c0_2] 30 (0, 0)) zaq2 hb)
  have n3_ := Aside0.mk (blk_below (g := gb1080) (o := .cells #[.int .i64 a1_0, .int .i64 a1_1] 32 (0, 0)) zaq5 hb)
  have n4_ := Aside0.mk (blk_below (g := gb1087) (o := .cells #[.int .i64 a0_0, .int .i64 a0_1, .slice A0_2 l0_2.length c0_2, .int .i64 a1_0, .int .i64 a1_1, .slice Ao34 t1081.length co34, .slice Ao35 t1084.length co35] 84 (0, 0)) zaq9 hb)
  have n5_ := Aside0.mk (below_step zaq4 hb)
  clear HO1083
  clear HO1086
  clear BK1079
  clear BK1080
  clear BK1087
  clear HB
  have HO1083 := n0_
  have HO1086 := n1_
  have BK1079 := n2_
  have BK1080 := n3_
  have BK1087 := n4_
  have HB := n5_
  clear n0_ n1_ n2_ n3_ n4_ n5_
  (try clear hb)
  (try clear hb2)
  (try clear hk)
  (try clear hi)
  (try clear hna_)
  (try clear hnb_)
  refine hK.out _ _ trivial (fun hHeld => ?_)
  clear hK K
  refine norm_ (a' := ?_) ?_ ?_
  rotate_left
  ·show Act.put _ (some 20) _ = _
   simp only [Act.put, List.setIfInBounds_toArray, List.set_cons_zero, List.set_cons_succ, i64_w, i32_w]
   rfl
  refine pure_ (i := 3) (N := some 21) (v := ?_) (a' := ?_) #[true, true, true, true, false, false, false, false, false, false, false, false, false, false, false, false, false, false, false, false, false, false, false, false] rfl rfl (any_of HT_.out (by kernel_rfl)) (fun _ _ _ h => h) (Or.inl ⟨by rfl, ?_⟩) ?_ ?_
  rotate_left
  ·intro w'
   go_simp
   with_reducible rfl
  rotate_left
  ·simp only [Act.put, List.setIfInBounds_toArray, List.set_cons_zero, List.set_cons_succ, i64_w, i32_w]
   rfl
  refine pure_ (i := 4) (N := some 22) (v := undef) (a' := ?_) #[true, true, true, true, true, false, false, false, false, false, false, false, false, false, false, false, false, false, false, false, false, false, false, false] rfl rfl (any_of HT_.out (by kernel_rfl)) (fun _ _ _ h => h) (Or.inr ⟨by rfl, rfl⟩) ?_ ?_
  rotate_left
  ·simp only [Act.put, List.setIfInBounds_toArray, List.set_cons_zero, List.set_cons_succ, i64_w, i32_w]
   rfl
  refine pure_ (i := 5) (N := some 23) (v := undef) (a' := ?_) #[true, true, true, true, true, true, false, false, false, false, false, false, false, false, false, false, false, false, false, false, false, false, false, false] rfl rfl (any_of HT_.out (by kernel_rfl)) (fun _ _ _ h => h) (Or.inr ⟨by rfl, rfl⟩) ?_ ?_
  rotate_left
  ·simp only [Act.put, List.setIfInBounds_toArray, List.set_cons_zero, List.set_cons_succ, i64_w, i32_w]
   rfl
  refine pure_ (i := 6) (N := some 24) (v := undef) (a' := ?_) #[true, true, true, true, true, true, true, false, false, false, false, false, false, false, false, false, false, false, false, false, false, false, false, false] rfl rfl (any_of HT_.out (by kernel_rfl)) (fun _ _ _ h => h) (Or.inr ⟨by rfl, rfl⟩) ?_ ?_
  rotate_left
  ·simp only [Act.put, List.setIfInBounds_toArray, List.set_cons_zero, List.set_cons_succ, i64_w, i32_w]
   rfl
  refine pure_ (i := 7) (N := some 25) (v := undef) (a' := ?_) #[true, true, true, true, true, true, true, true, false, false, false, false, false, false, false, false, false, false, false, false, false, false, false, false] rfl rfl (any_of HT_.out (by kernel_rfl)) (fun _ _ _ h => h) (Or.inr ⟨by rfl, rfl⟩) ?_ ?_
  rotate_left
  ·simp only [Act.put, List.setIfInBounds_toArray, List.set_cons_zero, List.set_cons_succ, i64_w, i32_w]
   rfl
  refine pure_ (i := 8) (N := some 26) (v := undef) (a' := ?_) #[true, true, true, true, true, true, true, true, true, false, false, false, false, false, false, false, false, false, false, false, false, false, false, false] rfl rfl (any_of HT_.out (by kernel_rfl)) (fun _ _ _ h => h) (Or.inr ⟨by rfl, rfl⟩) ?_ ?_
  rotate_left
  ·simp only [Act.put, List.setIfInBounds_toArray, List.set_cons_zero, List.set_cons_succ, i64_w, i32_w]
   rfl
  refine pure_ (i := 9) (N := some 27) (v := undef) (a' := ?_) #[true, true, true, true, true, true, true, true, true, true, false, false, false, false, false, false, false, false, false, false, false, false, false, false] rfl rfl (any_of HT_.out (by kernel_rfl)) (fun _ _ _ h => h) (Or.inr ⟨by rfl, rfl⟩) ?_ ?_
  rotate_left
  ·simp only [Act.put, List.setIfInBounds_toArray, List.set_cons_zero, List.set_cons_succ, i64_w, i32_w]
   rfl
  refine pure_ (i := 10) (N := some 28) (v := undef) (a' := ?_) #[true, true, true, true, true, true, true, true, true, true, true, false, false, false, false, false, false, false, false, false, false, false, false, false] rfl rfl (any_of HT_.out (by kernel_rfl)) (fun _ _ _ h => h) (Or.inr ⟨by rfl, rfl⟩) ?_ ?_
  rotate_left
  ·simp only [Act.put, List.setIfInBounds_toArray, List.set_cons_zero, List.set_cons_succ, i64_w, i32_w]
   rfl
  refine pure_ (i := 11) (N := some 29) (v := undef) (a' := ?_) #[true, true, true, true, true, true, true, true, true, true, true, true, false, false, false, false, false, false, false, false, false, false, false, false] rfl rfl (any_of HT_.out (by kernel_rfl)) (fun _ _ _ h => h) (Or.inr ⟨by rfl, rfl⟩) ?_ ?_
  rotate_left
  ·simp only [Act.put, List.setIfInBounds_toArray, List.set_cons_zero, List.set_cons_succ, i64_w, i32_w]
   rfl
  refine pure_ (i := 12) (N := some 30) (v := undef) (a' := ?_) #[true, true, true, true, true, true, true, true, true, true, true, true, true, false, false, false, false, false, false, false, false, false, false, false] rfl rfl (any_of HT_.out (by kernel_rfl)) (fun _ _ _ h => h) (Or.inr ⟨by rfl, rfl⟩) ?_ ?_
  rotate_left
  ·simp only [Act.put, List.setIfInBounds_toArray, List.set_cons_zero, List.set_cons_succ, i64_w, i32_w]
   rfl
  refine pure_ (i := 13) (N := some 31) (v := undef) (a' := ?_) #[true, true, true, true, true, true, true, true, true, true, true, true, true, true, false, false, false, false, false, false, false, false, false, false] rfl rfl (any_of HT_.out (by kernel_rfl)) (fun _ _ _ h => h) (Or.inr ⟨by rfl, rfl⟩) ?_ ?_
  rotate_left
  ·simp only [Act.put, List.setIfInBounds_toArray, List.set_cons_zero, List.set_cons_succ, i64_w, i32_w]
   rfl
  refine pure_ (i := 14) (N := some 32) (v := undef) (a' := ?_) #[true, true, true, true, true, true, true, true, true, true, true, true, true, true, true, false, false, false, false, false, false, false, false, false] rfl rfl (any_of HT_.out (by kernel_rfl)) (fun _ _ _ h => h) (Or.inr ⟨by rfl, rfl⟩) ?_ ?_
  rotate_left
  ·simp only [Act.put, List.setIfInBounds_toArray, List.set_cons_zero, List.set_cons_succ, i64_w, i32_w]
   rfl
  refine pure_ (i := 15) (N := some 33) (v := undef) (a' := ?_) #[true, true, true, true, true, true, true, true, true, true, true, true, true, true, true, true, false, false, false, false, false, false, false, false] rfl rfl (any_of HT_.out (by kernel_rfl)) (fun _ _ _ h => h) (Or.inr ⟨by rfl, rfl⟩) ?_ ?_
  rotate_left
  ·simp only [Act.put, List.setIfInBounds_toArray, List.set_cons_zero, List.set_cons_succ, i64_w, i32_w]
   rfl
  refine pure_ (i := 16) (N := some 34) (v := undef) (a' := ?_) #[true, true, true, true, true, true, true, true, true, true, true, true, true, true, true, true, true, false, false, false, false, false, false, false] rfl rfl (any_of HT_.out (by kernel_rfl)) (fun _ _ _ h => h) (Or.inr ⟨by rfl, rfl⟩) ?_ ?_
  rotate_left
  ·simp only [Act.put, List.setIfInBounds_toArray, List.set_cons_zero, List.set_cons_succ, i64_w, i32_w]
   rfl
  refine pure_ (i := 17) (N := some 35) (v := undef) (a' := ?_) #[true, true, true, true, true, true, true, true, true, true, true, true, true, true, true, true, true, true, false, false, false, false, false, false] rfl rfl (any_of HT_.out (by kernel_rfl)) (fun _ _ _ h => h) (Or.inr ⟨by rfl, rfl⟩) ?_ ?_
  rotate_left
  ·simp only [Act.put, List.setIfInBounds_toArray, List.set_cons_zero, List.set_cons_succ, i64_w, i32_w]
   rfl
  refine pure_ (i := 18) (N := some 36) (v := undef) (a' := ?_) #[true, true, true, true, true, true, true, true, true, true, true, true, true, true, true, true, true, true, true, false, false, false, false, false] rfl rfl (any_of HT_.out (by kernel_rfl)) (fun _ _ _ h => h) (Or.inr ⟨by rfl, rfl⟩) ?_ ?_
  rotate_left
  ·simp only [Act.put, List.setIfInBounds_toArray, List.set_cons_zero, List.set_cons_succ, i64_w, i32_w]
   rfl
  refine pure_ (i := 19) (N := some 37) (v := undef) (a' := ?_) #[true, true, true, true, true, true, true, true, true, true, true, true, true, true, true, true, true, true, true, true, false, false, false, false] rfl rfl (any_of HT_.out (by kernel_rfl)) (fun _ _ _ h => h) (Or.inr ⟨by rfl, rfl⟩) ?_ ?_
  rotate_left
  ·simp only [Act.put, List.setIfInBounds_toArray, List.set_cons_zero, List.set_cons_succ, i64_w, i32_w]
   rfl
  refine pure_ (i := 20) (N := some 38) (v := undef) (a' := ?_) #[true, true, true, true, true, true, true, true, true, true, true, true, true, true, true, true, true, true, true, true, true, false, false, false] rfl rfl (any_of HT_.out (by kernel_rfl)) (fun _ _ _ h => h) (Or.inr ⟨by rfl, rfl⟩) ?_ ?_
  rotate_left
  ·simp only [Act.put, List.setIfInBounds_toArray, List.set_cons_zero, List.set_cons_succ, i64_w, i32_w]
   rfl
  refine pure_ (i := 21) (N := some 39) (v := ?_) (a' := ?_) #[true, true, true, true, true, true, true, true, true, true, true, true, true, true, true, true, true, true, true, true, true, true, false, false] rfl rfl (any_of HT_.out (by kernel_rfl)) (fun _ _ _ h => h) (Or.inl ⟨by rfl, ?_⟩) ?_ ?_
  rotate_left
  ·intro w'
   go_simp
   with_reducible rfl
  rotate_left
  ·simp only [Act.put, List.setIfInBounds_toArray, List.set_cons_zero, List.set_cons_succ, i64_w, i32_w]
   rfl
  refine pure_ (i := 22) (N := some 6) (v := ?_) (a' := ?_) #[true, true, true, true, true, true, true, true, true, true, true, true, true, true, true, true, true, true, true, true, true, true, true, false] rfl rfl (any_of HT_.out (by kernel_rfl)) (fun _ _ _ h => h) (Or.inl ⟨by rfl, ?_⟩) ?_ ?_
  rotate_left
  ·intro w'
   go_simp
   with_reducible rfl
  rotate_left
  ·simp only [Act.put, List.setIfInBounds_toArray, List.set_cons_zero, List.set_cons_succ, i64_w, i32_w]
   rfl
  refine pure_ (i := 23) (N := some 7) (v := ?_) (a' := ?_) #[true, true, true, true, true, true, true, true, true, true, true, true, true, true, true, true, true, true, true, true, true, true, true, true] rfl rfl (any_of HT_.out (by kernel_rfl)) (fun _ _ _ h => h) (Or.inl ⟨by rfl, ?_⟩) ?_ ?_
  rotate_left
  ·intro w'
   go_simp
   with_reducible rfl
  rotate_left
  ·simp only [Act.put, List.setIfInBounds_toArray, List.set_cons_zero, List.set_cons_succ, i64_w, i32_w]
   rfl
  refine done_ (done_of HT_.out (by kernel_rfl)) ?_
  try go_wp2
  go_ret2
  exact ⟨by first | rfl | (simp [errW_none, errW_some] <;> rfl) | (simp [*, errW_none, errW_some] <;> rfl), zaq4⟩
 subst c7
 have H1 : (if 0 < (l2.length : Int) then ((impl_graph_far.f k a0_0 a0_1 l0_2 a1_0 a1_1 t1081 t1084 (rd l2 0)).bind fun t1092 => (if 0 ≤ (wrap64 ((l2.length : Int) - 1)) then (if (wrap64 ((l2.length : Int) - 1)) < (l2.length : Int) then (if 0 ≤ (rd l2 (wrap64 ((l2.length : Int) - 1))) then (if (rd l2 (wrap64 ((l2.length : Int) - 1))) < (t1092.length : Int) then (some (((rd t1092 (rd l2 (wrap64 ((l2.length : Int) - 1)))) == (wrap64 ((l2.length : Int) - 1))), true)) else (none)) else (none)) else (none)) else (none))) else (none)) = some (r1, r2) := by rw [if_pos rfl] at H; exact H
 clear H
 have H := H1
 clear H1
 by_cases c8 : 0 < (l2.length : Int)
 rotate_left
 ·rw [if_neg c8] at H
  exact absurd H (by simp)
 rw [if_pos c8] at H
 have c8b0 : decide (0 < (l2.length : Int)) = true := decide_eq_true c8
 have c8b1 : decide (0 < l2.length) = true := decide_eq_true (by omega)
 clear c8
 replace H := Option.bind_eq_some_iff.mp H
 obtain ⟨t1092, A90, H⟩ := H
 replace H : (if 0 ≤ (wrap64 ((l2.length : Int) - 1)) then (if (wrap64 ((l2.length : Int) - 1)) < (l2.length : Int) then (if 0 ≤ (rd l2 (wrap64 ((l2.length : Int) - 1))) then (if (rd l2 (wrap64 ((l2.length : Int) - 1))) < (t1092.length : Int) then (some (((rd t1092 (rd l2 (wrap64 ((l2.length : Int) - 1)))) == (wrap64 ((l2.length : Int) - 1))), true)) else (none)) else (none)) else (none)) else (none)) = some (r1, r2) := H
 have A9 := Aside0.mk A90
 clear A90
 obtain ⟨ji10, hji10⟩ : ∃ j_ : Int, (wrap64 ((l2.length : Int) - 1)) = j_ := ⟨_, rfl⟩
 replace H : (if 0 ≤ (ji10) then (if (ji10) < (l2.length : Int) then (if 0 ≤ (rd l2 (ji10)) then (if (rd l2 (ji10)) < (t1092.length : Int) then (some (((rd t1092 (rd l2 (ji10))) == (ji10)), true)) else (none)) else (none)) else (none)) else (none)) = some (r1, r2) := by first | (rw [hji10] at H; exact H) | (simp only [hji10] at H ⊢; exact H)
 (try rw [hji10] at A4)
 (try rw [hji10] at A6)
 (try rw [hji10] at A9)
 have hji10w : (IntKind.i64.wrap ((l2.length : Int) - 1)) = ji10 := (i64_w _).trans hji10
 by_cases c11 : 0 ≤ (ji10)
 rotate_left
 ·rw [if_neg c11] at H
  exact absurd H (by simp)
 rw [if_pos c11] at H
 have c11b0 : decide (0 ≤ (ji10)) = true := decide_eq_true c11
 clear c11
 by_cases c12 : (ji10) < (l2.length : Int)
 rotate_left
 ·rw [if_neg c12] at H
  exact absurd H (by simp)
 rw [if_pos c12] at H
 have c12b0 : decide ((ji10) < (l2.length : Int)) = true := decide_eq_true c12
 clear c12
 by_cases c13 : 0 ≤ (rd l2 (ji10))
 rotate_left
 ·rw [if_neg c13] at H
  exact absurd H (by simp)
 rw [if_pos c13] at H
 have c13b0 : decide (0 ≤ (rd l2 (ji10))) = true := decide_eq_true c13
 clear c13
 by_cases c14 : (rd l2 (ji10)) < (t1092.length : Int)
 rotate_left
 ·rw [if_neg c14] at H
  exact absurd H (by simp)
 rw [if_pos c14] at H
 have c14b0 : decide ((rd l2 (ji10)) < (t1092.length : Int)) = true := decide_eq_true c14
 clear c14
 simp only [Option.some.injEq, Prod.mk.injEq] at H
 obtain ⟨rfl, rfl⟩ := H
 go_enter Try.func34, Try.ntmps34
 try go_wp2_with (first | ((with_reducible refine gate_dst (N := 3) rfl ?_); (try (refine gate_guard (by rfl) ?_; dsimp only)); refine box_event ?hg (N := 3) ?hd (cs := #[.int .i64 a0_0, .int .i64 a0_1, .slice A0_2 l0_2.length c0_2]) (t := 30) ?hr ?_; (case hd => rfl); (case hg => rfl); (case hr => first | (go_simp; done) | (go_simp; rfl)); intro gb1079 hg w15 hbox hb; have n0_ := Aside0.mk (below_step zaq6 hb); have n1_ := Aside0.mk (hbox); have n2_ := Aside0.mk ((zaq18 : w.heap.size ≤ gb1079)); have n3_ := Aside0.mk ((zaq18 : w.heap.size ≤ gb1079)); clear HB; have HB := n0_; have BK1079 := n1_; have GW1079 := n2_; have GE1079 := n3_; clear n0_ n1_ n2_ n3_; clear hb hbox hg) | ((with_reducible refine gate_dst (N := 4) rfl ?_); (try (refine gate_guard (by rfl) ?_; dsimp only)); refine box_event ?hg (N := 4) ?hd (cs := #[.int .i64 a1_0, .int .i64 a1_1]) (t := 32) ?hr ?_; (case hd => rfl); (case hg => rfl); (case hr => first | (go_simp; done) | (go_simp; rfl)); intro gb1080 hg w16 hbox hb; have n0_ := Aside0.mk (blk_below (g := gb1079) (o := .cells #[.int .i64 a0_0, .int .i64 a0_1, .slice A0_2 l0_2.length c0_2] 30 (0, 0)) zaq2 hb); have n1_ := Aside0.mk (below_step zaq3 hb); have n2_ := Aside0.mk (hbox); have n3_ := Aside0.mk ((zaq19 : w.heap.size ≤ gb1080)); have n4_ := Aside0.mk ((zaq19 : w.heap.size ≤ gb1080)); have n5_ := Aside0.mk ((zaq16 : gb1079 ≠ gb1080)); have n6_ := Aside0.mk ((zaq17 : gb1080 ≠ gb1079)); clear BK1079; clear HB; have BK1079 := n0_; have HB := n1_; have BK1080 := n2_; have GW1080 := n3_; have GE1080 := n4_; have NB1079_1080 := n5_; have NB1080_1079 := n6_; clear n0_ n1_ n2_ n3_ n4_ n5_ n6_; clear hb hbox hg; have hnb17 := NB1079_1080.out; have hnc17 := NB1080_1079.out; have hcz18_0 : w16.cell? ⟨gb1079, 0, none⟩ = some (.int .i64 a0_0) := (blk_cell BK1079.out 0).trans rfl; have hcz18_1 : w16.cell? ⟨gb1079, 1, none⟩ = some (.int .i64 a0_1) := (blk_cell BK1079.out 1).trans rfl; have hcz18_2 : w16.cell? ⟨gb1079, 2, none⟩ = some (.slice A0_2 l0_2.length c0_2) := (blk_cell BK1079.out 2).trans rfl; have hfz18_0 := blk_frozen BK1079.out 0; have hfz18_1 := blk_frozen BK1079.out 1; have hfz18_2 := blk_frozen BK1079.out 2; have hcz19_0 : w16.cell? ⟨gb1080, 0, none⟩ = some (.int .i64 a1_0) := (blk_cell BK1080.out 0).trans rfl; have hcz19_1 : w16.cell? ⟨gb1080, 1, none⟩ = some (.int .i64 a1_1) := (blk_cell BK1080.out 1).trans rfl; have hfz19_0 := blk_frozen BK1080.out 0; have hfz19_1 := blk_frozen BK1080.out 1) | ((with_reducible refine gate_callee (f := 58) rfl ?_); refine goesL_ (some 13) rfl rfl Try.func58 (by kernel_rfl) rfl #[.agg #[.int .i64 a0_0, .int .i64 a0_1, .slice A0_2 l0_2.length c0_2], .agg #[.int .i64 a1_0, .int .i64 a1_1]] rfl zaq8 ?_; (with_reducible refine (impl_graphOf.calls k a0_0 a0_1 _ _ l0_2 a1_0 a1_1 t1081 t1084 true _ ?side1 ?side2 A4.out).mono ?_); (case side1 => exact zaq7); (case side2 => exact HC0_2.out); rintro e w20 ⟨v1082, v1085, pv1088, rfl, hgp, ho0, ho1, hb⟩; refine ⟨_, rfl, ?_⟩; obtain ⟨gb1087, rfl, hbox, hge⟩ := hgp.1 rfl; have n0_ := Aside0.mk (Kd.R_lower ho0 (below_size zaq1)); have n1_ := Aside0.mk (Kd.S_lower ho1 (below_size zaq1)); have n2_ := Aside0.mk (blk_below (g := gb1079) (o := .cells #[.int .i64 a0_0, .int .i64 a0_1, .slice A0_2 l0_2.length c0_2] 30 (0, 0)) zaq2 hb); have n3_ := Aside0.mk (blk_below (g := gb1080) (o := .cells #[.int .i64 a1_0, .int .i64 a1_1] 32 (0, 0)) zaq5 hb); have n4_ := Aside0.mk (hbox); have n5_ := Aside0.mk ((Nat.le_trans (by exact (below_size zaq1)) hge : w.heap.size ≤ gb1087)); have n6_ := Aside0.mk ((Nat.le_trans (by exact (below_size zaq1)) hge : w.heap.size ≤ gb1087)); have n7_ := Aside0.mk ((Nat.ne_of_lt (Nat.lt_of_lt_of_le (blk_lt (g := gb1079) (o := .cells #[.int .i64 a0_0, .int .i64 a0_1, .slice A0_2 l0_2.length c0_2] 30 (0, 0)) zaq2) hge) : gb1079 ≠ gb1087)); have n8_ := Aside0.mk ((Nat.ne_of_gt (Nat.lt_of_lt_of_le (blk_lt (g := gb1079) (o := .cells #[.int .i64 a0_0, .int .i64 a0_1, .slice A0_2 l0_2.length c0_2] 30 (0, 0)) zaq2) hge) : gb1087 ≠ gb1079)); have n9_ := Aside0.mk ((Nat.ne_of_lt (Nat.lt_of_lt_of_le (blk_lt (g := gb1080) (o := .cells #[.int .i64 a1_0, .int .i64 a1_1] 32 (0, 0)) zaq5) hge) : gb1080 ≠ gb1087)); have n10_ := Aside0.mk ((Nat.ne_of_gt (Nat.lt_of_lt_of_le (blk_lt (g := gb1080) (o := .cells #[.int .i64 a1_0, .int .i64 a1_1] 32 (0, 0)) zaq5) hge) : gb1087 ≠ gb1080)); have n11_ := Aside0.mk (below_step zaq1 hb); clear BK1079; clear BK1080; clear HB; have HO1083 := n0_; have HO1086 := n1_; have BK1079 := n2_; have BK1080 := n3_; have BK1087 := n4_; have GW1087 := n5_; have GE1087 := n6_; have NB1079_1087 := n7_; have NB1087_1079 := n8_; have NB1080_1087 := n9_; have NB1087_1080 := n10_; have HB := n11_; clear n0_ n1_ n2_ n3_ n4_ n5_ n6_ n7_ n8_ n9_ n10_ n11_; (try clear hb); (try clear hb2); (try clear hk); (try clear hi); (try clear ho0); (try clear ho1); (try clear hgp); (try clear hbox); (try clear hge); (try clear hna_); (try clear hnb_)))
 have n0_ := Aside0.mk (Kd.R_drew HO1083.out)
 have n1_ := Aside0.mk (Kd.S_drew HO1086.out)
 have n2_ := Aside0.mk (blk_drew BK1079.out)
 have n3_ := Aside0.mk (blk_drew BK1080.out)
 have n4_ := Aside0.mk (blk_drew BK1087.out)
 have n5_ := Aside0.mk (below_drew1 HB.out)
 clear HO1083
 clear HO1086
 clear BK1079
 clear BK1080
 clear BK1087
 clear HB
 have HO1083 := n0_
 have HO1086 := n1_
 have BK1079 := n2_
 have BK1080 := n3_
 have BK1087 := n4_
 have HB := n5_
 clear n0_ n1_ n2_ n3_ n4_ n5_
 obtain ⟨Ao22, co22, eo22⟩ := Kd.R_slice HO1083.out
 (first | subst eo22 | (injection eo22 with f1_ f2_ f3_; have f4_ := f1_.symm; have f5_ := f3_.symm; clear f1_ f2_ f3_; subst f4_; subst f5_))
 obtain ⟨Ao23, co23, eo23⟩ := Kd.S_slice HO1086.out
 (first | subst eo23 | (injection eo23 with f1_ f2_ f3_; have f4_ := f1_.symm; have f5_ := f3_.symm; clear f1_ f2_ f3_; subst f4_; subst f5_))
 have p1091 : 0 ≤ (0 : Int) := (by omega)
 have q1091 : 0 < (l2.length : Int) := of_decide_eq_true zaq14
 obtain ⟨ad1091, e1091, hx1091_0⟩ := Kd.at_int HR2.out 0 p1091 q1091
 have hw1091_0 := hx1091_0
 (try rw [show ((0 : Int)).toNat = 0 from rfl] at hw1091_0)
 (try rw [show 0 * 1 = 0 from rfl] at hw1091_0)
 (try rw [Addr.add_zero'] at hw1091_0)
 cases e1091
 have qi1091 : (0 < l2.length) = True := eq_true (by omega)
 (try rw [show ((0 : Int)).toNat = 0 from rfl] at hx1091_0)
 (try rw [Addr.add_zero'] at hx1091_0)
 (first | replace hx1091_0 := (HB.out.cell (World.block_lt_of_cell? w _ hx1091_0)).trans hx1091_0 | skip)
 replace p1091 := eq_true p1091
 replace q1091 := eq_true q1091
 have p1095 : 0 ≤ ((ji10) : Int) := of_decide_eq_true zaq14
 have q1095 : (ji10) < (l2.length : Int) := of_decide_eq_true zaq14
 obtain ⟨ad1095, e1095, hx1095_0⟩ := Kd.at_int HR2.out (ji10) p1095 q1095
 have hw1095_0 := hx1095_0
 obtain rfl : ad1091 = ad1095 := (by injection e1095)
 (first | replace hx1095_0 := (HB.out.cell (World.block_lt_of_cell? w _ hx1095_0)).trans hx1095_0 | skip)
 replace p1095 := eq_true p1095
 replace q1095 := eq_true q1095
 refine start_ (n := 24) (S := fun w' => w'.cell? ad1091 = some (.int .i64 (rd l2 0)) ∧ w'.cell? (ad1091.add ((ji10)).toNat) = some (.int .i64 (rd l2 (ji10)))) (ds := []) #[false, false, false, false, false, false, false, false, false, false, false, false, false, false, false, false, false, false, false, false, false, false, false, false] (by kernel_rfl) rfl rfl ⟨((HB.out.cell (World.block_lt_of_cell? w _ hw1091_0)).trans hw1091_0), ((HB.out.cell (World.block_lt_of_cell? w _ hw1095_0)).trans hw1095_0)⟩ (fun hHeld => ?_); refine with_tabW impl_IsRoute.tab4 impl_IsRoute.bits4 (fun HT_ HW_ => ?_)
 generalize w20.drew = w21 at HO1083 HO1086 BK1079 BK1080 BK1087 HB hx1091_0 hx1095_0 hHeld ⊢
 refine pure_ (i := 0) (N := some 18) (v := ?_) (a' := ?_) #[true, false, false, false, false, false, false, false, false, false, false, false, false, false, false, false, false, false, false, false, false, false, false, false] rfl rfl (any_of HT_.out (by kernel_rfl)) (fun _ _ _ h => h) (Or.inl ⟨by rfl, ?_⟩) ?_ ?_
 rotate_left
 ·intro w'
  go_simp
  with_reducible rfl
 rotate_left
 ·simp only [Act.put, List.setIfInBounds_toArray, List.set_cons_zero, List.set_cons_succ, i64_w, i32_w]
  rfl
 refine pure_ (i := 1) (N := some 19) (v := ?_) (a' := ?_) #[true, true, false, false, false, false, false, false, false, false, false, false, false, false, false, false, false, false, false, false, false, false, false, false] rfl rfl (any_of HT_.out (by kernel_rfl)) (fun _ _ _ h => h) (Or.inl ⟨by rfl, ?_⟩) ?_ ?_
 rotate_left
 ·intro w'
  go_simp
  with_reducible rfl
 rotate_left
 ·simp only [Act.put, List.setIfInBounds_toArray, List.set_cons_zero, List.set_cons_succ, i64_w, i32_w]
  rfl
 refine one_ (i := 2) (N := some 20) #[true, true, true, false, false, false, false, false, false, false, false, false, false, false, false, false, false, false, false, false, false, false, false, false] rfl rfl (one_of HT_.out (by kernel_rfl)) (by decide) (fun K hK => ?_)
 refine goes_ Try.func70 (by kernel_rfl) rfl #[.pointer (some ⟨gb1087, 0, none⟩), .slice (some ad1091) l2.length c2] (by rfl) rfl rfl zaq8 ?_
 with_reducible refine (impl_graph_isPath.calls k gb1087 a0_0 a0_1 A0_2 c0_2 l0_2 a1_0 a1_1 Ao22 co22 t1081 Ao23 co23 t1084 _ _ l2 true _ ?side1 ?side2 ?side3 ?side4 ?side5 ?side6 ?side7 ?side8 ?side9 A6.out).mono ?_
 (case side1 => exact zaq9)
 (case side2 => exact zaq7)
 (case side3 => exact HC0_2.out)
 (case side4 => exact zaq11)
 (case side5 => exact (Kd.R_reads' HO1083.out).2.1)
 (case side6 => exact zaq10)
 (case side7 => exact (Kd.S_reads' HO1086.out).2.1)
 (case side8 => exact zaq15)
 (case side9 => exact HC2.out)
 rintro e w24 ⟨rfl, hb⟩
 refine ⟨_, rfl, ?_⟩
 have n0_ := Aside0.mk (Kd.R_below zaq12 hb)
 have n1_ := Aside0.mk (Kd.S_below zaq13 hb)
 have n2_ := Aside0.mk (blk_below (g := gb1079) (o := .cells #[.int .i64 a0_0, .int .i64 a0_1, .slice A0_2 l0_2.length c0_2] 30 (0, 0)) zaq2 hb)
 have n3_ := Aside0.mk (blk_below (g := gb1080) (o := .cells #[.int .i64 a1_0, .int .i64 a1_1] 32 (0, 0)) zaq5 hb)
 have n4_ := Aside0.mk (blk_below (g := gb1087) (o := .cells #[.int .i64 a0_0, .int .i64 a0_1, .slice A0_2 l0_2.length c0_2, .int .i64 a1_0, .int .i64 a1_1, .slice Ao22 t1081.length co22, .slice Ao23 t1084.length co23] 84 (0, 0)) zaq9 hb)
 have n5_ := Aside0.mk (below_step zaq4 hb)
 clear HO1083
 clear HO1086
 clear BK1079
 clear BK1080
 clear BK1087
 clear HB
 have HO1083 := n0_
 have HO1086 := n1_
 have BK1079 := n2_
 have BK1080 := n3_
 have BK1087 := n4_
 have HB := n5_
 clear n0_ n1_ n2_ n3_ n4_ n5_
 (try clear hb)
 (try clear hb2)
 (try clear hk)
 (try clear hi)
 (try clear hna_)
 (try clear hnb_)
 refine hK.out _ _ ⟨((HB.out.cell (World.block_lt_of_cell? w _ hw1091_0)).trans hw1091_0), ((HB.out.cell (World.block_lt_of_cell? w _ hw1095_0)).trans hw1095_0)⟩ (fun hHeld => ?_)
 clear hK K
 refine norm_ (a' := ?_) ?_ ?_
 rotate_left
 ·show Act.put _ (some 20) _ = _
  simp only [Act.put, List.setIfInBounds_toArray, List.set_cons_zero, List.set_cons_succ, i64_w, i32_w]
  rfl
 refine pure_ (i := 3) (N := some 21) (v := ?_) (a' := ?_) #[true, true, true, true, false, false, false, false, false, false, false, false, false, false, false, false, false, false, false, false, false, false, false, false] rfl rfl (any_of HT_.out (by kernel_rfl)) (fun _ _ _ h => h) (Or.inl ⟨by rfl, ?_⟩) ?_ ?_
 rotate_left
 ·intro w'
  go_simp
  with_reducible rfl
 rotate_left
 ·simp only [Act.put, List.setIfInBounds_toArray, List.set_cons_zero, List.set_cons_succ, i64_w, i32_w]
  rfl
 refine pure_ (i := 4) (N := some 22) (v := ?_) (a' := ?_) #[true, true, true, true, true, false, false, false, false, false, false, false, false, false, false, false, false, false, false, false, false, false, false, false] rfl rfl (any_of HT_.out (by kernel_rfl)) (fun _ _ _ h => h) (Or.inl ⟨by rfl, ?_⟩) ?_ ?_
 rotate_left
 ·intro w'
  go_simp
  with_reducible rfl
 rotate_left
 ·simp only [Act.put, List.setIfInBounds_toArray, List.set_cons_zero, List.set_cons_succ, i64_w, i32_w]
  rfl
 refine pure_ (i := 5) (N := some 23) (v := ?_) (a' := ?_) #[true, true, true, true, true, true, false, false, false, false, false, false, false, false, false, false, false, false, false, false, false, false, false, false] rfl rfl (any_of HT_.out (by kernel_rfl)) (fun _ _ _ h => h) (Or.inl ⟨by rfl, ?_⟩) ?_ ?_
 rotate_left
 ·intro w'
  go_simp
  with_reducible rfl
 rotate_left
 ·simp only [Act.put, List.setIfInBounds_toArray, List.set_cons_zero, List.set_cons_succ, i64_w, i32_w]
  rfl
 refine pure_ (i := 6) (N := some 24) (v := ?_) (a' := ?_) #[true, true, true, true, true, true, true, false, false, false, false, false, false, false, false, false, false, false, false, false, false, false, false, false] rfl rfl (any_of HT_.out (by kernel_rfl)) (fun _ _ _ h => h) (Or.inl ⟨by rfl, ?_⟩) ?_ ?_
 rotate_left
 ·intro w'
  go_simp
  with_reducible rfl
 rotate_left
 ·simp only [Act.put, List.setIfInBounds_toArray, List.set_cons_zero, List.set_cons_succ, i64_w, i32_w]
  rfl
 refine pure_ (i := 9) (N := some 27) (v := ?_) (a' := ?_) #[true, true, true, true, true, true, true, false, false, true, false, false, false, false, false, false, false, false, false, false, false, false, false, false] rfl rfl (any_of HT_.out (by kernel_rfl)) (fun _ _ _ h => h) (Or.inl ⟨by rfl, ?_⟩) ?_ ?_
 rotate_left
 ·intro w'
  go_simp
  with_reducible rfl
 rotate_left
 ·simp only [Act.put, List.setIfInBounds_toArray, List.set_cons_zero, List.set_cons_succ, i64_w, i32_w]
  rfl
 refine pure_ (i := 10) (N := some 28) (v := ?_) (a' := ?_) #[true, true, true, true, true, true, true, false, false, true, true, false, false, false, false, false, false, false, false, false, false, false, false, false] rfl rfl (any_of HT_.out (by kernel_rfl)) (fun _ _ _ h => h) (Or.inl ⟨by rfl, ?_⟩) ?_ ?_
 rotate_left
 ·intro w'
  go_simp
  with_reducible rfl
 rotate_left
 ·simp only [Act.put, List.setIfInBounds_toArray, List.set_cons_zero, List.set_cons_succ, i64_w, i32_w]
  rfl
 refine pure_ (i := 11) (N := some 29) (v := ?_) (a' := ?_) #[true, true, true, true, true, true, true, false, false, true, true, true, false, false, false, false, false, false, false, false, false, false, false, false] rfl rfl (any_of HT_.out (by kernel_rfl)) (fun _ _ _ h => h) (Or.inl ⟨by rfl, ?_⟩) ?_ ?_
 rotate_left
 ·intro w'
  go_simp
  with_reducible rfl
 rotate_left
 ·simp only [Act.put, List.setIfInBounds_toArray, List.set_cons_zero, List.set_cons_succ, i64_w, i32_w]
  rfl
 refine pure_ (i := 12) (N := some 30) (v := ?_) (a' := ?_) #[true, true, true, true, true, true, true, false, false, true, true, true, true, false, false, false, false, false, false, false, false, false, false, false] rfl rfl (any_of HT_.out (by kernel_rfl)) (fun _ _ _ h => h) (Or.inl ⟨by rfl, ?_⟩) ?_ ?_
 rotate_left
 ·intro w'
  go_simp
  with_reducible rfl
 rotate_left
 ·simp only [Act.put, List.setIfInBounds_toArray, List.set_cons_zero, List.set_cons_succ, i64_w, i32_w]
  rfl
 refine pure_ (i := 13) (N := some 31) (v := ?_) (a' := ?_) #[true, true, true, true, true, true, true, false, false, true, true, true, true, true, false, false, false, false, false, false, false, false, false, false] rfl rfl (any_of HT_.out (by kernel_rfl)) (fun _ _ _ h => h) (Or.inl ⟨by rfl, ?_⟩) ?_ ?_
 rotate_left
 ·intro w'
  go_simp
  with_reducible rfl
 rotate_left
 ·simp only [Act.put, List.setIfInBounds_toArray, List.set_cons_zero, List.set_cons_succ, i64_w, i32_w]
  rfl
 refine pure_ (i := 17) (N := some 35) (v := ?_) (a' := ?_) #[true, true, true, true, true, true, true, false, false, true, true, true, true, true, false, false, false, true, false, false, false, false, false, false] rfl rfl (any_of HT_.out (by kernel_rfl)) (fun _ _ _ h => h) (Or.inl ⟨by rfl, ?_⟩) ?_ ?_
 rotate_left
 ·intro w'
  go_simp
  with_reducible rfl
 rotate_left
 ·simp only [Act.put, List.setIfInBounds_toArray, List.set_cons_zero, List.set_cons_succ, i64_w, i32_w]
  rfl
 refine pure_ (i := 18) (N := some 36) (v := ?_) (a' := ?_) #[true, true, true, true, true, true, true, false, false, true, true, true, true, true, false, false, false, true, true, false, false, false, false, false] rfl rfl (any_of HT_.out (by kernel_rfl)) (fun _ _ _ h => h) (Or.inl ⟨by rfl, ?_⟩) ?_ ?_
 rotate_left
 ·intro w'
  go_simp
  with_reducible rfl
 rotate_left
 ·simp only [Act.put, List.setIfInBounds_toArray, List.set_cons_zero, List.set_cons_succ, i64_w, i32_w]
  rfl
 refine pure_ (i := 19) (N := some 37) (v := ?_) (a' := ?_) #[true, true, true, true, true, true, true, false, false, true, true, true, true, true, false, false, false, true, true, true, false, false, false, false] rfl rfl (any_of HT_.out (by kernel_rfl)) (fun _ _ _ h => h) (Or.inl ⟨by rfl, ?_⟩) ?_ ?_
 rotate_left
 ·intro w'
  go_simp
  with_reducible rfl
 rotate_left
 ·simp only [Act.put, List.setIfInBounds_toArray, List.set_cons_zero, List.set_cons_succ, i64_w, i32_w]
  rfl
 refine take_ (i := 7) (N := some 25) (v := ?_) (a' := ?_) #[true, true, true, true, true, true, true, true, false, true, true, true, true, true, false, false, false, true, true, true, false, false, false, false] rfl rfl (take_ofW HT_.out HW_.out (by kernel_rfl)) (fun _ _ _ h => h) (Or.inl ⟨by rfl, ?_⟩) hHeld ?_ ?_
 rotate_left
 ·rintro w' ⟨s0, s1⟩
  go_simp
  with_reducible rfl
 rotate_left
 ·simp only [Act.put, List.setIfInBounds_toArray, List.set_cons_zero, List.set_cons_succ, i64_w, i32_w]
  rfl
 refine take_ (i := 14) (N := some 32) (v := ?_) (a' := ?_) #[true, true, true, true, true, true, true, true, false, true, true, true, true, true, true, false, false, true, true, true, false, false, false, false] rfl rfl (take_ofW HT_.out HW_.out (by kernel_rfl)) (fun _ _ _ h => h) (Or.inl ⟨by rfl, ?_⟩) hHeld ?_ ?_
 rotate_left
 ·rintro w' ⟨s0, s1⟩
  go_simp
  with_reducible rfl
 rotate_left
 ·simp only [Act.put, List.setIfInBounds_toArray, List.set_cons_zero, List.set_cons_succ, i64_w, i32_w]
  rfl
 refine one_ (i := 8) (N := some 26) #[true, true, true, true, true, true, true, true, true, true, true, true, true, true, true, false, false, true, true, true, false, false, false, false] rfl rfl (one_of HT_.out (by kernel_rfl)) (by decide) (fun K hK => ?_)
 refine goes_ Try.func71 (by kernel_rfl) rfl #[.pointer (some ⟨gb1087, 0, none⟩), .int .i64 (rd l2 0)] (by rfl) rfl rfl zaq8 ?_
 with_reducible refine (impl_graph_far.calls k gb1087 a0_0 a0_1 A0_2 c0_2 l0_2 a1_0 a1_1 Ao22 co22 t1081 Ao23 co23 t1084 (rd l2 0) t1092 _ ?side1 ?side2 ?side3 ?side4 ?side5 ?side6 ?side7 A9.out).mono ?_
 (case side1 => exact zaq9)
 (case side2 => exact zaq7)
 (case side3 => exact HC0_2.out)
 (case side4 => exact zaq11)
 (case side5 => exact (Kd.R_reads' HO1083.out).2.1)
 (case side6 => exact zaq10)
 (case side7 => exact (Kd.S_reads' HO1086.out).2.1)
 rintro e w25 ⟨v1093, rfl, ho0, hb⟩
 refine ⟨_, rfl, ?_⟩
 have n0_ := Aside0.mk (Kd.R_elder' zaq12 (Kd.R_base ho0) hb)
 have n1_ := Aside0.mk (Kd.S_elder' zaq13 (Kd.R_base ho0) hb)
 have n2_ := Aside0.mk (Kd.R_lower (Kd.R_new' ho0 (Kd.R_lt zaq12)) (below_size zaq4))
 have n3_ := Aside0.mk (blk_below (g := gb1079) (o := .cells #[.int .i64 a0_0, .int .i64 a0_1, .slice A0_2 l0_2.length c0_2] 30 (0, 0)) zaq2 hb)
 have n4_ := Aside0.mk (blk_below (g := gb1080) (o := .cells #[.int .i64 a1_0, .int .i64 a1_1] 32 (0, 0)) zaq5 hb)
 have n5_ := Aside0.mk (blk_below (g := gb1087) (o := .cells #[.int .i64 a0_0, .int .i64 a0_1, .slice A0_2 l0_2.length c0_2, .int .i64 a1_0, .int .i64 a1_1, .slice Ao22 t1081.length co22, .slice Ao23 t1084.length co23] 84 (0, 0)) zaq9 hb)
 have n6_ := Aside0.mk (below_step zaq4 hb)
 clear HO1083
 clear HO1086
 clear BK1079
 clear BK1080
 clear BK1087
 clear HB
 have HO1083 := n0_
 have HO1086 := n1_
 have HO1094 := n2_
 have BK1079 := n3_
 have BK1080 := n4_
 have BK1087 := n5_
 have HB := n6_
 clear n0_ n1_ n2_ n3_ n4_ n5_ n6_
 (try clear hb)
 (try clear hb2)
 (try clear hk)
 (try clear hi)
 (try clear ho0)
 (try clear hna_)
 (try clear hnb_)
 obtain ⟨Ao26, co26, eo26⟩ := Kd.R_slice HO1094.out
 (first | subst eo26 | (injection eo26 with f1_ f2_ f3_; have f4_ := f1_.symm; have f5_ := f3_.symm; clear f1_ f2_ f3_; subst f4_; subst f5_))
 have p1096 : 0 ≤ ((rd l2 (ji10)) : Int) := of_decide_eq_true zaq14
 have q1096 : (rd l2 (ji10)) < (t1092.length : Int) := of_decide_eq_true zaq14
 obtain ⟨ad1096, e1096, hx1096_0⟩ := Kd.at_int (Kd.R_reads' HO1094.out).2.2 (rd l2 (ji10)) p1096 q1096
 cases e1096
 replace p1096 := eq_true p1096
 replace q1096 := eq_true q1096
 refine hK.out _ _ ⟨((HB.out.cell (World.block_lt_of_cell? w _ hw1091_0)).trans hw1091_0), ((HB.out.cell (World.block_lt_of_cell? w _ hw1095_0)).trans hw1095_0)⟩ (fun hHeld => ?_)
 clear hK K
 refine norm_ (a' := ?_) ?_ ?_
 rotate_left
 ·show Act.put _ (some 26) _ = _
  simp only [Act.put, List.setIfInBounds_toArray, List.set_cons_zero, List.set_cons_succ, i64_w, i32_w]
  rfl
 refine pure_ (i := 15) (N := some 33) (v := ?_) (a' := ?_) #[true, true, true, true, true, true, true, true, true, true, true, true, true, true, true, true, false, true, true, true, false, false, false, false] rfl rfl (any_of HT_.out (by kernel_rfl)) (fun _ _ _ h => h) (Or.inl ⟨by rfl, ?_⟩) ?_ ?_
 rotate_left
 ·intro w'
  go_simp
  with_reducible rfl
 rotate_left
 ·simp only [Act.put, List.setIfInBounds_toArray, List.set_cons_zero, List.set_cons_succ, i64_w, i32_w]
  rfl
 refine one_ (i := 16) (N := some 34) #[true, true, true, true, true, true, true, true, true, true, true, true, true, true, true, true, true, true, true, true, false, false, false, false] rfl rfl (one_of HT_.out (by kernel_rfl)) (by decide) (fun K hK => ?_)
 refine value_ (v := .int .i64 (rd t1092 (rd l2 (ji10)))) (by rfl) rfl (by go_simp; first | done | rfl) ?_
 refine hK.out _ _ ⟨((HB.out.cell (World.block_lt_of_cell? w _ hw1091_0)).trans hw1091_0), ((HB.out.cell (World.block_lt_of_cell? w _ hw1095_0)).trans hw1095_0)⟩ (fun hHeld => ?_)
 clear hK K
 refine norm_ (a' := ?_) ?_ ?_
 rotate_left
 ·show Act.put _ (some 34) _ = _
  simp only [Act.put, List.setIfInBounds_toArray, List.set_cons_zero, List.set_cons_succ, i64_w, i32_w]
  rfl
 refine pure_ (i := 20) (N := some 38) (v := ?_) (a' := ?_) #[true, true, true, true, true, true, true, true, true, true, true, true, true, true, true, true, true, true, true, true, true, false, false, false] rfl rfl (any_of HT_.out (by kernel_rfl)) (fun _ _ _ h => h) (Or.inl ⟨by rfl, ?_⟩) ?_ ?_
 rotate_left
 ·intro w'
  go_simp
  with_reducible rfl
 rotate_left
 ·simp only [Act.put, List.setIfInBounds_toArray, List.set_cons_zero, List.set_cons_succ, i64_w, i32_w]
  rfl
 refine pure_ (i := 21) (N := some 39) (v := ?_) (a' := ?_) #[true, true, true, true, true, true, true, true, true, true, true, true, true, true, true, true, true, true, true, true, true, true, false, false] rfl rfl (any_of HT_.out (by kernel_rfl)) (fun _ _ _ h => h) (Or.inl ⟨by rfl, ?_⟩) ?_ ?_
 rotate_left
 ·intro w'
  go_simp
  with_reducible rfl
 rotate_left
 ·simp only [Act.put, List.setIfInBounds_toArray, List.set_cons_zero, List.set_cons_succ, i64_w, i32_w]
  rfl
 refine pure_ (i := 22) (N := some 6) (v := ?_) (a' := ?_) #[true, true, true, true, true, true, true, true, true, true, true, true, true, true, true, true, true, true, true, true, true, true, true, false] rfl rfl (any_of HT_.out (by kernel_rfl)) (fun _ _ _ h => h) (Or.inl ⟨by rfl, ?_⟩) ?_ ?_
 rotate_left
 ·intro w'
  go_simp
  with_reducible rfl
 rotate_left
 ·simp only [Act.put, List.setIfInBounds_toArray, List.set_cons_zero, List.set_cons_succ, i64_w, i32_w]
  rfl
 refine pure_ (i := 23) (N := some 7) (v := ?_) (a' := ?_) #[true, true, true, true, true, true, true, true, true, true, true, true, true, true, true, true, true, true, true, true, true, true, true, true] rfl rfl (any_of HT_.out (by kernel_rfl)) (fun _ _ _ h => h) (Or.inl ⟨by rfl, ?_⟩) ?_ ?_
 rotate_left
 ·intro w'
  go_simp
  with_reducible rfl
 rotate_left
 ·simp only [Act.put, List.setIfInBounds_toArray, List.set_cons_zero, List.set_cons_succ, i64_w, i32_w]
  rfl
 refine done_ (done_of HT_.out (by kernel_rfl)) ?_
 try go_wp2
 go_ret2
 exact ⟨by first | rfl | (simp [errW_none, errW_some] <;> rfl) | (simp only [← hji10]; first | rfl | (simp [errW_none, errW_some] <;> rfl)) | (simp [*, errW_none, errW_some] <;> rfl), zaq4⟩

end Go.Proofs.Ytbecdckdbeoomaa.Q

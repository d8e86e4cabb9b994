/- Written by a program of this session: functions of the translation as plain Lean functions, each with a proof that the call does what the plain function says; the conditions stand in each theorem. -/
import Derived.Test.YtemaokhlolimhaaQ0
import Derived.Test.YtemaokhlolimhaaQ11
import Derived.Test.YtemaokhlolimhaaQ14
import Derived.Test.YtemaokhlolimhaaQ16
namespace Go.Proofs.Ytemaokhlolimhaa.Q
open Go.RowKit Go.Proofs.YtemaokhlolimhaaW.PrintWords Go.Proofs.YtemaokhlolimhaaW.PrintLast Go.Proofs.YtemaokhlolimhaaW.PrintMore
attribute [local go_sem] max2_int min2_int max_two min_two max_three min_three max_four min_four   -- for this text's walks alone
set_option linter.unusedVariables false
set_option linter.unusedSimpArgs false

theorem zr1 {p : Prop} (h : p := by repeat (first | (with_reducible first | exact HB.out | apply below_alloc | apply pw_below_drewN | apply below_drew1 | refine below_set ?_ GE294.out | refine below_set ?_ GE295.out) | exact HB.out)) : p := h
theorem zr2 {p : Prop} (h : p := by first | exact BK294.out | ((with_reducible repeat (first | refine blk_drewN ?_ _ | refine blk_drew ?_ | refine blk_alloc ?_ _)); exact BK294.out)) : p := h
theorem zr3 {p : Prop} (h : p := by repeat (first | (with_reducible first | exact HB.out | apply below_alloc | apply pw_below_drewN | apply below_drew1 | refine below_set ?_ GE294.out | refine below_set ?_ GE295.out | refine below_set ?_ GE302.out) | exact HB.out)) : p := h
theorem zr4 {p : Prop} (h : p := by repeat (first | (with_reducible first | exact HB.out | apply below_alloc | apply pw_below_drewN | apply below_drew1 | refine below_set ?_ GE294.out) | exact HB.out)) : p := h
theorem zr5 {p : Prop} (h : p := by first | exact BK295.out | ((with_reducible repeat (first | refine blk_drewN ?_ _ | refine blk_drew ?_ | refine blk_alloc ?_ _)); exact BK295.out)) : p := h
theorem zr6 {p : Prop} (h : p := by repeat (first | exact (Kd.C_below HR0_2.out HB.out) | (with_reducible refine Kd.C_alloc ?_ _) | (with_reducible refine Kd.C_drewN ?_ _) | (with_reducible refine Kd.C_drew ?_))) : p := h
theorem zr7 {p : Prop} (h : p := by repeat (first | (with_reducible first | exact HB.out | apply below_alloc | apply pw_below_drewN | apply below_drew1) | exact HB.out)) : p := h
theorem zr8 {p : Prop} (h : p := by first | exact BK302.out | ((with_reducible repeat (first | refine blk_drewN ?_ _ | refine blk_drew ?_ | refine blk_alloc ?_ _)); exact BK302.out)) : p := h
theorem zr9 {p : Prop} (h : p := by repeat (first | exact (Kd.S_reads' HO301.out).2.2 | (with_reducible refine Kd.C_alloc ?_ _) | (with_reducible refine Kd.C_drewN ?_ _) | (with_reducible refine Kd.C_drew ?_))) : p := h
theorem zr10 {p : Prop} (h : p := by repeat (first | exact (Kd.R_reads' HO298.out).2.2 | (with_reducible refine Kd.C_alloc ?_ _) | (with_reducible refine Kd.C_drewN ?_ _) | (with_reducible refine Kd.C_drew ?_))) : p := h
theorem zr11 {p : Prop} (h : p := by (try simp only [List.map_toArray, List.map_cons, List.map_nil]); first | done | rfl | (simp only [List.length_drop, List.length_take]; rfl)) : p := h
theorem zr12 {p : Prop} (h : p := by first | exact HO301.out | ((with_reducible repeat (first | apply Kd.S_alloc | apply Kd.S_drewN | apply Kd.S_drew)); exact HO301.out)) : p := h
theorem zr13 {p : Prop} (h : p := by first | exact HO298.out | ((with_reducible repeat (first | apply Kd.R_alloc | apply Kd.R_drewN | apply Kd.R_drew)); exact HO298.out)) : p := h
theorem zr14 {p : Prop} (h : p := by repeat (first | exact (Kd.C_below HR2.out HB.out) | (with_reducible refine Kd.C_alloc ?_ _) | (with_reducible refine Kd.C_drewN ?_ _) | (with_reducible refine Kd.C_drew ?_))) : p := h
theorem zr15 {p : Prop} (h : p := by first | rfl | (simp [errW_none, errW_some] <;> rfl) | (simp [*, errW_none, errW_some] <;> rfl)) : p := h
theorem zr16 {p : Prop} (h : p := by repeat (first | exact (Kd.C_below HR3.out HB.out) | (with_reducible refine Kd.C_alloc ?_ _) | (with_reducible refine Kd.C_drewN ?_ _) | (with_reducible refine Kd.C_drew ?_))) : p := h
theorem zr17 {p : Prop} (h : p := by first | (with_reducible assumption) | assumption) : p := h
theorem zr18 {p : Prop} (h : p := by rw [hg]; exact Nat.ne_of_lt (blk_lt (g := gb294) (o := .cells #[.int .i64 a0_0, .int .i64 a0_1, .slice A0_2 l0_2.length c0_2] 31 (0, 0)) zr2)) : p := h
theorem zr19 {p : Prop} (h : p := by rw [hg]; exact Nat.ne_of_gt (blk_lt (g := gb294) (o := .cells #[.int .i64 a0_0, .int .i64 a0_1, .slice A0_2 l0_2.length c0_2] 31 (0, 0)) zr2)) : p := h
theorem zr20 {p : Prop} (h : p := by rw [hg]; exact (below_size zr7)) : p := h
theorem zr21 {p : Prop} (h : p := by rw [hg]; exact (below_size zr4)) : p := h
/-! ### impl_DoLeapsCross: function 24 -/
def impl_DoLeapsCross.f (k : Nat) (a0_0 : Int) (a0_1 : Int) (l0_2 : List Int) (a1_0 : Int) (a1_1 : Int) (l2 : List Int) (l3 : List Int) : Option (Bool × Bool) := (impl_graphOf.f k a0_0 a0_1 l0_2 a1_0 a1_1).bind fun bt296 => (if bt296.2.2 = true then ((impl_graph_isLeap.f k a0_0 a0_1 l0_2 a1_0 a1_1 bt296.1 bt296.2.1 l2).bind fun t305 => (if t305 = true then ((impl_graph_isLeap.f k a0_0 a0_1 l0_2 a1_0 a1_1 bt296.1 bt296.2.1 l3).bind fun t306 => (if t306 = true then (if 0 < (l2.length : Int) then (if 1 < (l2.length : Int) then (if 0 < (l3.length : Int) then (if 1 < (l3.length : Int) then ((impl_graph_cross.f k a0_0 a0_1 l0_2 a1_0 a1_1 bt296.1 bt296.2.1 (rd l2 0) (rd l2 1) (rd l3 0) (rd l3 1)).bind fun t311 => (some (t311, true))) else (none)) else (none)) else (none)) else (none)) else (some (false, false)))) else (some (false, false)))) else (some (false, false)))
def impl_DoLeapsCross.T4 : Bool × List (List Nat × List Nat) := (true, [([], []), ([], []), ([1], [1]), ([2], [2]), ([], []), ([4], [4]), ([5], [5]), ([], []), ([7], [7]), ([8], [8]), ([], []), ([10], [10]), ([11], [11]), ([0, 3, 6, 9, 12], [0, 3, 6, 9, 12]), ([13, 13, 0, 1, 2, 3, 4, 5, 6, 7, 8, 9, 10, 11, 12, 13], [13]), ([14, 0, 1, 2, 3, 4, 5, 6, 7, 8, 9, 10, 11, 12, 13, 14], [])])
def impl_DoLeapsCross.B4 : List Nat := [0, 0, 2, 6, 0, 16, 48, 0, 128, 384, 0, 1024, 3072, 8191, 16383, 32767]
theorem impl_DoLeapsCross.tab4 : rtab .any (opsOf Try.f24 4) = impl_DoLeapsCross.T4 := by kernel_rfl
theorem impl_DoLeapsCross.bits4 : waitsOk impl_DoLeapsCross.T4.2 impl_DoLeapsCross.B4 = true := by kernel_rfl
set_option maxHeartbeats 8000000 in
set_option maxRecDepth 100000 in
theorem impl_DoLeapsCross.calls (k : Nat) (a0_0 : Int) (a0_1 : Int) (A0_2 : Option Addr) (c0_2 : Nat) (l0_2 : List Int) (a1_0 : Int) (a1_1 : Int) (A2 : Option Addr) (c2 : Nat) (l2 : List Int) (A3 : Option Addr) (c3 : Nat) (l3 : List Int) (r1 : Bool) (r2 : Bool) (w : World) (hr0_2 : Kd.C (Kd.int .i64) w A0_2 l0_2.length l0_2) (hc0_2 : l0_2.length ≤ c0_2) (hr2 : Kd.C (Kd.int .i64) w A2 l2.length l2) (hc2 : l2.length ≤ c2) (hr3 : Kd.C (Kd.int .i64) w A3 l3.length l3) (hc3 : l3.length ≤ c3) (h : impl_DoLeapsCross.f k a0_0 a0_1 l0_2 a1_0 a1_1 l2 l3 = some (r1, r2)) :
  Calls Try.prog 24 #[.agg #[.int .i64 a0_0, .int .i64 a0_1, .slice A0_2 l0_2.length c0_2], .agg #[.int .i64 a1_0, .int .i64 a1_1], .slice A2 l2.length c2, .slice A3 l3.length c3] w fun e w' => e = .returned (.tuple #[.bool r1, .bool r2]) ∧ Below w.heap.size w w' := by
 have hu31 := Try.underlying31
 have hu33 := Try.underlying33
 have HR0_2 := Aside0.mk hr0_2
 have HC0_2 := Aside0.mk hc0_2
 clear hr0_2 hc0_2
 have HR2 := Aside0.mk hr2
 have HC2 := Aside0.mk hc2
 clear hr2 hc2
 have HR3 := Aside0.mk hr3
 have HC3 := Aside0.mk hc3
 clear hr3 hc3
 have HB := Aside0.mk (Below.refl w.heap.size w)
 have H : ((impl_graphOf.f k a0_0 a0_1 l0_2 a1_0 a1_1).bind fun bt296 => (if bt296.2.2 = true then ((impl_graph_isLeap.f k a0_0 a0_1 l0_2 a1_0 a1_1 bt296.1 bt296.2.1 l2).bind fun t305 => (if t305 = true then ((impl_graph_isLeap.f k a0_0 a0_1 l0_2 a1_0 a1_1 bt296.1 bt296.2.1 l3).bind fun t306 => (if t306 = true then (if 0 < (l2.length : Int) then (if 1 < (l2.length : Int) then (if 0 < (l3.length : Int) then (if 1 < (l3.length : Int) then ((impl_graph_cross.f k a0_0 a0_1 l0_2 a1_0 a1_1 bt296.1 bt296.2.1 (rd l2 0) (rd l2 1) (rd l3 0) (rd l3 1)).bind fun t311 => (some (t311, true))) else (none)) else (none)) else (none)) else (none)) else (some (false, false)))) else (some (false, false)))) else (some (false, false)))) = some (r1, r2) := h
 clear h
 replace H := Option.bind_eq_some_iff.mp H
 obtain ⟨⟨t296, t299, t304⟩, A50, H⟩ := H
 replace H : (if t304 = true then ((impl_graph_isLeap.f k a0_0 a0_1 l0_2 a1_0 a1_1 t296 t299 l2).bind fun t305 => (if t305 = true then ((impl_graph_isLeap.f k a0_0 a0_1 l0_2 a1_0 a1_1 t296 t299 l3).bind fun t306 => (if t306 = true then (if 0 < (l2.length : Int) then (if 1 < (l2.length : Int) then (if 0 < (l3.length : Int) then (if 1 < (l3.length : Int) then ((impl_graph_cross.f k a0_0 a0_1 l0_2 a1_0 a1_1 t296 t299 (rd l2 0) (rd l2 1) (rd l3 0) (rd l3 1)).bind fun t311 => (some (t311, true))) else (none)) else (none)) else (none)) else (none)) else (some (false, false)))) else (some (false, false)))) else (some (false, false))) = some (r1, r2) := H
 have A5 := Aside0.mk A50
 clear A50
 by_cases c6 : t304 = true
 rotate_left
 ·replace c6 := Bool.eq_false_iff.mpr c6
  subst c6
  have H1 : (some (false, false)) = some (r1, r2) := by rw [if_neg (show ¬ (false = true) by decide)] at H; exact H
  clear H
  have H := H1
  clear H1
  simp only [Option.some.injEq, Prod.mk.injEq] at H
  obtain ⟨rfl, rfl⟩ := H
  go_enter Try.func24, Try.ntmps24
  go_wp2_with (first | ((with_reducible refine gate_dst (N := 4) rfl ?_); refine box_event ?hg (N := 4) ?hd (cs := #[.int .i64 a0_0, .int .i64 a0_1, .slice A0_2 l0_2.length c0_2]) (t := 31) ?hr ?_; (case hd => rfl); (case hg => rfl); (case hr => first | (go_simp; done) | (go_simp; rfl)); intro gb294 hg w47 hbox hb; have n0_ := Aside0.mk (below_step zr7 hb); have n1_ := Aside0.mk (hbox); have n2_ := Aside0.mk ((zr20 : w.heap.size ≤ gb294)); have n3_ := Aside0.mk ((zr20 : w.heap.size ≤ gb294)); clear HB; have HB := n0_; have BK294 := n1_; have GW294 := n2_; have GE294 := n3_; clear n0_ n1_ n2_ n3_; clear hb hbox hg) | ((with_reducible refine gate_dst (N := 5) rfl ?_); refine box_event ?hg (N := 5) ?hd (cs := #[.int .i64 a1_0, .int .i64 a1_1]) (t := 33) ?hr ?_; (case hd => rfl); (case hg => rfl); (case hr => first | (go_simp; done) | (go_simp; rfl)); intro gb295 hg w48 hbox hb; have n0_ := Aside0.mk (blk_below (g := gb294) (o := .cells #[.int .i64 a0_0, .int .i64 a0_1, .slice A0_2 l0_2.length c0_2] 31 (0, 0)) zr2 hb); have n1_ := Aside0.mk (below_step zr4 hb); have n2_ := Aside0.mk (hbox); have n3_ := Aside0.mk ((zr21 : w.heap.size ≤ gb295)); have n4_ := Aside0.mk ((zr21 : w.heap.size ≤ gb295)); have n5_ := Aside0.mk ((zr18 : gb294 ≠ gb295)); have n6_ := Aside0.mk ((zr19 : gb295 ≠ gb294)); clear BK294; clear HB; have BK294 := n0_; have HB := n1_; have BK295 := n2_; have GW295 := n3_; have GE295 := n4_; have NB294_295 := n5_; have NB295_294 := n6_; clear n0_ n1_ n2_ n3_ n4_ n5_ n6_; clear hb hbox hg; have hnb49 := NB294_295.out; have hnc49 := NB295_294.out; have hcz50_0 : w48.cell? ⟨gb294, 0, none⟩ = some (.int .i64 a0_0) := (blk_cell BK294.out 0).trans rfl; have hcz50_1 : w48.cell? ⟨gb294, 1, none⟩ = some (.int .i64 a0_1) := (blk_cell BK294.out 1).trans rfl; have hcz50_2 : w48.cell? ⟨gb294, 2, none⟩ = some (.slice A0_2 l0_2.length c0_2) := (blk_cell BK294.out 2).trans rfl; have hfz50_0 := blk_frozen BK294.out 0; have hfz50_1 := blk_frozen BK294.out 1; have hfz50_2 := blk_frozen BK294.out 2; have hcz51_0 : w48.cell? ⟨gb295, 0, none⟩ = some (.int .i64 a1_0) := (blk_cell BK295.out 0).trans rfl; have hcz51_1 : w48.cell? ⟨gb295, 1, none⟩ = some (.int .i64 a1_1) := (blk_cell BK295.out 1).trans rfl; have hfz51_0 := blk_frozen BK295.out 0; have hfz51_1 := blk_frozen BK295.out 1) | ((with_reducible refine gate_callee (f := 31) rfl ?_); refine goesL_ (some 15) rfl rfl Try.func31 (by kernel_rfl) rfl #[.agg #[.int .i64 a0_0, .int .i64 a0_1, .slice A0_2 l0_2.length c0_2], .agg #[.int .i64 a1_0, .int .i64 a1_1]] rfl zr11 ?_; (with_reducible refine (impl_graphOf.calls k a0_0 a0_1 _ _ l0_2 a1_0 a1_1 t296 t299 false _ ?side1 ?side2 A5.out).mono ?_); (case side1 => exact zr6); (case side2 => exact HC0_2.out); rintro e w52 ⟨v297, v300, pv303, rfl, hgp, ho0, ho1, hb⟩; refine ⟨_, rfl, ?_⟩; obtain rfl := hgp.2 rfl; have n0_ := Aside0.mk (Kd.R_lower ho0 (below_size zr1)); have n1_ := Aside0.mk (Kd.S_lower ho1 (below_size zr1)); have n2_ := Aside0.mk (blk_below (g := gb294) (o := .cells #[.int .i64 a0_0, .int .i64 a0_1, .slice A0_2 l0_2.length c0_2] 31 (0, 0)) zr2 hb); have n3_ := Aside0.mk (blk_below (g := gb295) (o := .cells #[.int .i64 a1_0, .int .i64 a1_1] 33 (0, 0)) zr5 hb); have n4_ := Aside0.mk (below_step zr1 hb); clear BK294; clear BK295; clear HB; have HO298 := n0_; have HO301 := n1_; have BK294 := n2_; have BK295 := n3_; have HB := n4_; clear n0_ n1_ n2_ n3_ n4_; (try clear hb); (try clear hb2); (try clear hk); (try clear hi); (try clear ho0); (try clear ho1); (try clear hgp); (try clear hbox); (try clear hge); (try clear hna_); (try clear hnb_)))
  go_ret2
  exact ⟨zr15, zr1⟩
 subst c6
 have H1 : ((impl_graph_isLeap.f k a0_0 a0_1 l0_2 a1_0 a1_1 t296 t299 l2).bind fun t305 => (if t305 = true then ((impl_graph_isLeap.f k a0_0 a0_1 l0_2 a1_0 a1_1 t296 t299 l3).bind fun t306 => (if t306 = true then (if 0 < (l2.length : Int) then (if 1 < (l2.length : Int) then (if 0 < (l3.length : Int) then (if 1 < (l3.length : Int) then ((impl_graph_cross.f k a0_0 a0_1 l0_2 a1_0 a1_1 t296 t299 (rd l2 0) (rd l2 1) (rd l3 0) (rd l3 1)).bind fun t311 => (some (t311, true))) else (none)) else (none)) else (none)) else (none)) else (some (false, false)))) else (some (false, false)))) = some (r1, r2) := by rw [if_pos rfl] at H; exact H
 clear H
 have H := H1
 clear H1
 replace H := Option.bind_eq_some_iff.mp H
 obtain ⟨t305, A70, H⟩ := H
 replace H : (if t305 = true then ((impl_graph_isLeap.f k a0_0 a0_1 l0_2 a1_0 a1_1 t296 t299 l3).bind fun t306 => (if t306 = true then (if 0 < (l2.length : Int) then (if 1 < (l2.length : Int) then (if 0 < (l3.length : Int) then (if 1 < (l3.length : Int) then ((impl_graph_cross.f k a0_0 a0_1 l0_2 a1_0 a1_1 t296 t299 (rd l2 0) (rd l2 1) (rd l3 0) (rd l3 1)).bind fun t311 => (some (t311, true))) else (none)) else (none)) else (none)) else (none)) else (some (false, false)))) else (some (false, false))) = some (r1, r2) := H
 have A7 := Aside0.mk A70
 clear A70
 by_cases c8 : t305 = true
 rotate_left
 ·replace c8 := Bool.eq_false_iff.mpr c8
  subst c8
  have H1 : (some (false, false)) = some (r1, r2) := by rw [if_neg (show ¬ (false = true) by decide)] at H; exact H
  clear H
  have H := H1
  clear H1
  simp only [Option.some.injEq, Prod.mk.injEq] at H
  obtain ⟨rfl, rfl⟩ := H
  go_enter Try.func24, Try.ntmps24
  go_wp2_with (first | ((with_reducible refine gate_dst (N := 4) rfl ?_); refine box_event ?hg (N := 4) ?hd (cs := #[.int .i64 a0_0, .int .i64 a0_1, .slice A0_2 l0_2.length c0_2]) (t := 31) ?hr ?_; (case hd => rfl); (case hg => rfl); (case hr => first | (go_simp; done) | (go_simp; rfl)); intro gb294 hg w38 hbox hb; have n0_ := Aside0.mk (below_step zr7 hb); have n1_ := Aside0.mk (hbox); have n2_ := Aside0.mk ((zr20 : w.heap.size ≤ gb294)); have n3_ := Aside0.mk ((zr20 : w.heap.size ≤ gb294)); clear HB; have HB := n0_; have BK294 := n1_; have GW294 := n2_; have GE294 := n3_; clear n0_ n1_ n2_ n3_; clear hb hbox hg) | ((with_reducible refine gate_dst (N := 5) rfl ?_); refine box_event ?hg (N := 5) ?hd (cs := #[.int .i64 a1_0, .int .i64 a1_1]) (t := 33) ?hr ?_; (case hd => rfl); (case hg => rfl); (case hr => first | (go_simp; done) | (go_simp; rfl)); intro gb295 hg w39 hbox hb; have n0_ := Aside0.mk (blk_below (g := gb294) (o := .cells #[.int .i64 a0_0, .int .i64 a0_1, .slice A0_2 l0_2.length c0_2] 31 (0, 0)) zr2 hb); have n1_ := Aside0.mk (below_step zr4 hb); have n2_ := Aside0.mk (hbox); have n3_ := Aside0.mk ((zr21 : w.heap.size ≤ gb295)); have n4_ := Aside0.mk ((zr21 : w.heap.size ≤ gb295)); have n5_ := Aside0.mk ((zr18 : gb294 ≠ gb295)); have n6_ := Aside0.mk ((zr19 : gb295 ≠ gb294)); clear BK294; clear HB; have BK294 := n0_; have HB := n1_; have BK295 := n2_; have GW295 := n3_; have GE295 := n4_; have NB294_295 := n5_; have NB295_294 := n6_; clear n0_ n1_ n2_ n3_ n4_ n5_ n6_; clear hb hbox hg; have hnb40 := NB294_295.out; have hnc40 := NB295_294.out; have hcz41_0 : w39.cell? ⟨gb294, 0, none⟩ = some (.int .i64 a0_0) := (blk_cell BK294.out 0).trans rfl; have hcz41_1 : w39.cell? ⟨gb294, 1, none⟩ = some (.int .i64 a0_1) := (blk_cell BK294.out 1).trans rfl; have hcz41_2 : w39.cell? ⟨gb294, 2, none⟩ = some (.slice A0_2 l0_2.length c0_2) := (blk_cell BK294.out 2).trans rfl; have hfz41_0 := blk_frozen BK294.out 0; have hfz41_1 := blk_frozen BK294.out 1; have hfz41_2 := blk_frozen BK294.out 2; have hcz42_0 : w39.cell? ⟨gb295, 0, none⟩ = some (.int .i64 a1_0) := (blk_cell BK295.out 0).trans rfl; have hcz42_1 : w39.cell? ⟨gb295, 1, none⟩ = some (.int .i64 a1_1) := (blk_cell BK295.out 1).trans rfl; have hfz42_0 := blk_frozen BK295.out 0; have hfz42_1 := blk_frozen BK295.out 1) | ((with_reducible refine gate_callee (f := 31) rfl ?_); refine goesL_ (some 15) rfl rfl Try.func31 (by kernel_rfl) rfl #[.agg #[.int .i64 a0_0, .int .i64 a0_1, .slice A0_2 l0_2.length c0_2], .agg #[.int .i64 a1_0, .int .i64 a1_1]] rfl zr11 ?_; (with_reducible refine (impl_graphOf.calls k a0_0 a0_1 _ _ l0_2 a1_0 a1_1 t296 t299 true _ ?side1 ?side2 A5.out).mono ?_); (case side1 => exact zr6); (case side2 => exact HC0_2.out); rintro e w43 ⟨v297, v300, pv303, rfl, hgp, ho0, ho1, hb⟩; refine ⟨_, rfl, ?_⟩; obtain ⟨gb302, rfl, hbox, hge⟩ := hgp.1 rfl; have n0_ := Aside0.mk (Kd.R_lower ho0 (below_size zr1)); have n1_ := Aside0.mk (Kd.S_lower ho1 (below_size zr1)); have n2_ := Aside0.mk (blk_below (g := gb294) (o := .cells #[.int .i64 a0_0, .int .i64 a0_1, .slice A0_2 l0_2.length c0_2] 31 (0, 0)) zr2 hb); have n3_ := Aside0.mk (blk_below (g := gb295) (o := .cells #[.int .i64 a1_0, .int .i64 a1_1] 33 (0, 0)) zr5 hb); have n4_ := Aside0.mk (hbox); have n5_ := Aside0.mk ((Nat.le_trans (by exact (below_size zr1)) hge : w.heap.size ≤ gb302)); have n6_ := Aside0.mk ((Nat.le_trans (by exact (below_size zr1)) hge : w.heap.size ≤ gb302)); have n7_ := Aside0.mk ((Nat.ne_of_lt (Nat.lt_of_lt_of_le (blk_lt (g := gb294) (o := .cells #[.int .i64 a0_0, .int .i64 a0_1, .slice A0_2 l0_2.length c0_2] 31 (0, 0)) zr2) hge) : gb294 ≠ gb302)); have n8_ := Aside0.mk ((Nat.ne_of_gt (Nat.lt_of_lt_of_le (blk_lt (g := gb294) (o := .cells #[.int .i64 a0_0, .int .i64 a0_1, .slice A0_2 l0_2.length c0_2] 31 (0, 0)) zr2) hge) : gb302 ≠ gb294)); have n9_ := Aside0.mk ((Nat.ne_of_lt (Nat.lt_of_lt_of_le (blk_lt (g := gb295) (o := .cells #[.int .i64 a1_0, .int .i64 a1_1] 33 (0, 0)) zr5) hge) : gb295 ≠ gb302)); have n10_ := Aside0.mk ((Nat.ne_of_gt (Nat.lt_of_lt_of_le (blk_lt (g := gb295) (o := .cells #[.int .i64 a1_0, .int .i64 a1_1] 33 (0, 0)) zr5) hge) : gb302 ≠ gb295)); have n11_ := Aside0.mk (below_step zr1 hb); clear BK294; clear BK295; clear HB; have HO298 := n0_; have HO301 := n1_; have BK294 := n2_; have BK295 := n3_; have BK302 := n4_; have GW302 := n5_; have GE302 := n6_; have NB294_302 := n7_; have NB302_294 := n8_; have NB295_302 := n9_; have NB302_295 := n10_; have HB := n11_; clear n0_ n1_ n2_ n3_ n4_ n5_ n6_ n7_ n8_ n9_ n10_ n11_; (try clear hb); (try clear hb2); (try clear hk); (try clear hi); (try clear ho0); (try clear ho1); (try clear hgp); (try clear hbox); (try clear hge); (try clear hna_); (try clear hnb_); obtain ⟨Ao44, co44, eo44⟩ := Kd.R_slice HO298.out; subst eo44; obtain ⟨Ao45, co45, eo45⟩ := Kd.S_slice HO301.out; subst eo45) | (go_at_call 45; (with_reducible refine (impl_graph_isLeap.calls k gb302 a0_0 a0_1 A0_2 c0_2 l0_2 a1_0 a1_1 Ao44 co44 t296 Ao45 co45 t299 _ _ l2 false _ ?side1 ?side2 ?side3 ?side4 ?side5 ?side6 ?side7 ?side8 ?side9 A7.out).mono ?_); (case side1 => exact zr8); (case side2 => exact zr6); (case side3 => exact HC0_2.out); (case side4 => exact zr10); (case side5 => exact (Kd.R_reads' HO298.out).2.1); (case side6 => exact zr9); (case side7 => exact (Kd.S_reads' HO301.out).2.1); (case side8 => exact zr14); (case side9 => exact HC2.out); rintro e w46 ⟨rfl, hb⟩; have n0_ := Aside0.mk (Kd.R_below zr13 hb); have n1_ := Aside0.mk (Kd.S_below zr12 hb); have n2_ := Aside0.mk (blk_below (g := gb294) (o := .cells #[.int .i64 a0_0, .int .i64 a0_1, .slice A0_2 l0_2.length c0_2] 31 (0, 0)) zr2 hb); have n3_ := Aside0.mk (blk_below (g := gb295) (o := .cells #[.int .i64 a1_0, .int .i64 a1_1] 33 (0, 0)) zr5 hb); have n4_ := Aside0.mk (blk_below (g := gb302) (o := .cells #[.int .i64 a0_0, .int .i64 a0_1, .slice A0_2 l0_2.length c0_2, .int .i64 a1_0, .int .i64 a1_1, .slice Ao44 t296.length co44, .slice Ao45 t299.length co45] 59 (0, 0)) zr8 hb); have n5_ := Aside0.mk (below_step zr3 hb); clear HO298; clear HO301; clear BK294; clear BK295; clear BK302; clear HB; have HO298 := n0_; have HO301 := n1_; have BK294 := n2_; have BK295 := n3_; have BK302 := n4_; have HB := n5_; clear n0_ n1_ n2_ n3_ n4_ n5_; (try clear hb); (try clear hb2); (try clear hk); (try clear hi); (try clear hna_); (try clear hnb_)))
  go_ret2
  exact ⟨zr15, zr3⟩
 subst c8
 have H1 : ((impl_graph_isLeap.f k a0_0 a0_1 l0_2 a1_0 a1_1 t296 t299 l3).bind fun t306 => (if t306 = true then (if 0 < (l2.length : Int) then (if 1 < (l2.length : Int) then (if 0 < (l3.length : Int) then (if 1 < (l3.length : Int) then ((impl_graph_cross.f k a0_0 a0_1 l0_2 a1_0 a1_1 t296 t299 (rd l2 0) (rd l2 1) (rd l3 0) (rd l3 1)).bind fun t311 => (some (t311, true))) else (none)) else (none)) else (none)) else (none)) else (some (false, false)))) = some (r1, r2) := by rw [if_pos rfl] at H; exact H
 clear H
 have H := H1
 clear H1
 replace H := Option.bind_eq_some_iff.mp H
 obtain ⟨t306, A90, H⟩ := H
 replace H : (if t306 = true then (if 0 < (l2.length : Int) then (if 1 < (l2.length : Int) then (if 0 < (l3.length : Int) then (if 1 < (l3.length : Int) then ((impl_graph_cross.f k a0_0 a0_1 l0_2 a1_0 a1_1 t296 t299 (rd l2 0) (rd l2 1) (rd l3 0) (rd l3 1)).bind fun t311 => (some (t311, true))) else (none)) else (none)) else (none)) else (none)) else (some (false, false))) = some (r1, r2) := H
 have A9 := Aside0.mk A90
 clear A90
 by_cases c10 : t306 = true
 rotate_left
 ·replace c10 := Bool.eq_false_iff.mpr c10
  subst c10
  have H1 : (some (false, false)) = some (r1, r2) := by rw [if_neg (show ¬ (false = true) by decide)] at H; exact H
  clear H
  have H := H1
  clear H1
  simp only [Option.some.injEq, Prod.mk.injEq] at H
  obtain ⟨rfl, rfl⟩ := H
  go_enter Try.func24, Try.ntmps24
  go_wp2_with (first | ((with_reducible refine gate_dst (N := 4) rfl ?_); refine box_event ?hg (N := 4) ?hd (cs := #[.int .i64 a0_0, .int .i64 a0_1, .slice A0_2 l0_2.length c0_2]) (t := 31) ?hr ?_; (case hd => rfl); (case hg => rfl); (case hr => first | (go_simp; done) | (go_simp; rfl)); intro gb294 hg w28 hbox hb; have n0_ := Aside0.mk (below_step zr7 hb); have n1_ := Aside0.mk (hbox); have n2_ := Aside0.mk ((zr20 : w.heap.size ≤ gb294)); have n3_ := Aside0.mk ((zr20 : w.heap.size ≤ gb294)); clear HB; have HB := n0_; have BK294 := n1_; have GW294 := n2_; have GE294 := n3_; clear n0_ n1_ n2_ n3_; clear hb hbox hg) | ((with_reducible refine gate_dst (N := 5) rfl ?_); refine box_event ?hg (N := 5) ?hd (cs := #[.int .i64 a1_0, .int .i64 a1_1]) (t := 33) ?hr ?_; (case hd => rfl); (case hg => rfl); (case hr => first | (go_simp; done) | (go_simp; rfl)); intro gb295 hg w29 hbox hb; have n0_ := Aside0.mk (blk_below (g := gb294) (o := .cells #[.int .i64 a0_0, .int .i64 a0_1, .slice A0_2 l0_2.length c0_2] 31 (0, 0)) zr2 hb); have n1_ := Aside0.mk (below_step zr4 hb); have n2_ := Aside0.mk (hbox); have n3_ := Aside0.mk ((zr21 : w.heap.size ≤ gb295)); have n4_ := Aside0.mk ((zr21 : w.heap.size ≤ gb295)); have n5_ := Aside0.mk ((zr18 : gb294 ≠ gb295)); have n6_ := Aside0.mk ((zr19 : gb295 ≠ gb294)); clear BK294; clear HB; have BK294 := n0_; have HB := n1_; have BK295 := n2_; have GW295 := n3_; have GE295 := n4_; have NB294_295 := n5_; have NB295_294 := n6_; clear n0_ n1_ n2_ n3_ n4_ n5_ n6_; clear hb hbox hg; have hnb30 := NB294_295.out; have hnc30 := NB295_294.out; have hcz31_0 : w29.cell? ⟨gb294, 0, none⟩ = some (.int .i64 a0_0) := (blk_cell BK294.out 0).trans rfl; have hcz31_1 : w29.cell? ⟨gb294, 1, none⟩ = some (.int .i64 a0_1) := (blk_cell BK294.out 1).trans rfl; have hcz31_2 : w29.cell? ⟨gb294, 2, none⟩ = some (.slice A0_2 l0_2.length c0_2) := (blk_cell BK294.out 2).trans rfl; have hfz31_0 := blk_frozen BK294.out 0; have hfz31_1 := blk_frozen BK294.out 1; have hfz31_2 := blk_frozen BK294.out 2; have hcz32_0 : w29.cell? ⟨gb295, 0, none⟩ = some (.int .i64 a1_0) := (blk_cell BK295.out 0).trans rfl; have hcz32_1 : w29.cell? ⟨gb295, 1, none⟩ = some (.int .i64 a1_1) := (blk_cell BK295.out 1).trans rfl; have hfz32_0 := blk_frozen BK295.out 0; have hfz32_1 := blk_frozen BK295.out 1) | ((with_reducible refine gate_callee (f := 31) rfl ?_); refine goesL_ (some 15) rfl rfl Try.func31 (by kernel_rfl) rfl #[.agg #[.int .i64 a0_0, .int .i64 a0_1, .slice A0_2 l0_2.length c0_2], .agg #[.int .i64 a1_0, .int .i64 a1_1]] rfl zr11 ?_; (with_reducible refine (impl_graphOf.calls k a0_0 a0_1 _ _ l0_2 a1_0 a1_1 t296 t299 true _ ?side1 ?side2 A5.out).mono ?_); (case side1 => exact zr6); (case side2 => exact HC0_2.out); rintro e w33 ⟨v297, v300, pv303, rfl, hgp, ho0, ho1, hb⟩; refine ⟨_, rfl, ?_⟩; obtain ⟨gb302, rfl, hbox, hge⟩ := hgp.1 rfl; have n0_ := Aside0.mk (Kd.R_lower ho0 (below_size zr1)); have n1_ := Aside0.mk (Kd.S_lower ho1 (below_size zr1)); have n2_ := Aside0.mk (blk_below (g := gb294) (o := .cells #[.int .i64 a0_0, .int .i64 a0_1, .slice A0_2 l0_2.length c0_2] 31 (0, 0)) zr2 hb); have n3_ := Aside0.mk (blk_below (g := gb295) (o := .cells #[.int .i64 a1_0, .int .i64 a1_1] 33 (0, 0)) zr5 hb); have n4_ := Aside0.mk (hbox); have n5_ := Aside0.mk ((Nat.le_trans (by exact (below_size zr1)) hge : w.heap.size ≤ gb302)); have n6_ := Aside0.mk ((Nat.le_trans (by exact (below_size zr1)) hge : w.heap.size ≤ gb302)); have n7_ := Aside0.mk ((Nat.ne_of_lt (Nat.lt_of_lt_of_le (blk_lt (g := gb294) (o := .cells #[.int .i64 a0_0, .int .i64 a0_1, .slice A0_2 l0_2.length c0_2] 31 (0, 0)) zr2) hge) : gb294 ≠ gb302)); have n8_ := Aside0.mk ((Nat.ne_of_gt (Nat.lt_of_lt_of_le (blk_lt (g := gb294) (o := .cells #[.int .i64 a0_0, .int .i64 a0_1, .slice A0_2 l0_2.length c0_2] 31 (0, 0)) zr2) hge) : gb302 ≠ gb294)); have n9_ := Aside0.mk ((Nat.ne_of_lt (Nat.lt_of_lt_of_le (blk_lt (g := gb295) (o := .cells #[.int .i64 a1_0, .int .i64 a1_1] 33 (0, 0)) zr5) hge) : gb295 ≠ gb302)); have n10_ := Aside0.mk ((Nat.ne_of_gt (Nat.lt_of_lt_of_le (blk_lt (g := gb295) (o := .cells #[.int .i64 a1_0, .int .i64 a1_1] 33 (0, 0)) zr5) hge) : gb302 ≠ gb295)); have n11_ := Aside0.mk (below_step zr1 hb); clear BK294; clear BK295; clear HB; have HO298 := n0_; have HO301 := n1_; have BK294 := n2_; have BK295 := n3_; have BK302 := n4_; have GW302 := n5_; have GE302 := n6_; have NB294_302 := n7_; have NB302_294 := n8_; have NB295_302 := n9_; have NB302_295 := n10_; have HB := n11_; clear n0_ n1_ n2_ n3_ n4_ n5_ n6_ n7_ n8_ n9_ n10_ n11_; (try clear hb); (try clear hb2); (try clear hk); (try clear hi); (try clear ho0); (try clear ho1); (try clear hgp); (try clear hbox); (try clear hge); (try clear hna_); (try clear hnb_); obtain ⟨Ao34, co34, eo34⟩ := Kd.R_slice HO298.out; subst eo34; obtain ⟨Ao35, co35, eo35⟩ := Kd.S_slice HO301.out; subst eo35) | (go_at_call 45; (with_reducible refine (impl_graph_isLeap.calls k gb302 a0_0 a0_1 A0_2 c0_2 l0_2 a1_0 a1_1 Ao34 co34 t296 Ao35 co35 t299 _ _ l2 true _ ?side1 ?side2 ?side3 ?side4 ?side5 ?side6 ?side7 ?side8 ?side9 A7.out).mono ?_); (case side1 => exact zr8); (case side2 => exact zr6); (case side3 => exact HC0_2.out); (case side4 => exact zr10); (case side5 => exact (Kd.R_reads' HO298.out).2.1); (case side6 => exact zr9); (case side7 => exact (Kd.S_reads' HO301.out).2.1); (case side8 => exact zr14); (case side9 => exact HC2.out); rintro e w36 ⟨rfl, hb⟩; have n0_ := Aside0.mk (Kd.R_below zr13 hb); have n1_ := Aside0.mk (Kd.S_below zr12 hb); have n2_ := Aside0.mk (blk_below (g := gb294) (o := .cells #[.int .i64 a0_0, .int .i64 a0_1, .slice A0_2 l0_2.length c0_2] 31 (0, 0)) zr2 hb); have n3_ := Aside0.mk (blk_below (g := gb295) (o := .cells #[.int .i64 a1_0, .int .i64 a1_1] 33 (0, 0)) zr5 hb); have n4_ := Aside0.mk (blk_below (g := gb302) (o := .cells #[.int .i64 a0_0, .int .i64 a0_1, .slice A0_2 l0_2.length c0_2, .int .i64 a1_0, .int .i64 a1_1, .slice Ao34 t296.length co34, .slice Ao35 t299.length co35] 59 (0, 0)) zr8 hb); have n5_ := Aside0.mk (below_step zr3 hb); clear HO298; clear HO301; clear BK294; clear BK295; clear BK302; clear HB; have HO298 := n0_; have HO301 := n1_; have BK294 := n2_; have BK295 := n3_; have BK302 := n4_; have HB := n5_; clear n0_ n1_ n2_ n3_ n4_ n5_; (try clear hb); (try clear hb2); (try clear hk); (try clear hi); (try clear hna_); (try clear hnb_)) | (go_at_call 45; (with_reducible refine (impl_graph_isLeap.calls k gb302 a0_0 a0_1 A0_2 c0_2 l0_2 a1_0 a1_1 Ao34 co34 t296 Ao35 co35 t299 _ _ l3 false _ ?side1 ?side2 ?side3 ?side4 ?side5 ?side6 ?side7 ?side8 ?side9 A9.out).mono ?_); (case side1 => exact zr8); (case side2 => exact zr6); (case side3 => exact HC0_2.out); (case side4 => exact zr10); (case side5 => exact (Kd.R_reads' HO298.out).2.1); (case side6 => exact zr9); (case side7 => exact (Kd.S_reads' HO301.out).2.1); (case side8 => exact zr16); (case side9 => exact HC3.out); rintro e w37 ⟨rfl, hb⟩; have n0_ := Aside0.mk (Kd.R_below zr13 hb); have n1_ := Aside0.mk (Kd.S_below zr12 hb); have n2_ := Aside0.mk (blk_below (g := gb294) (o := .cells #[.int .i64 a0_0, .int .i64 a0_1, .slice A0_2 l0_2.length c0_2] 31 (0, 0)) zr2 hb); have n3_ := Aside0.mk (blk_below (g := gb295) (o := .cells #[.int .i64 a1_0, .int .i64 a1_1] 33 (0, 0)) zr5 hb); have n4_ := Aside0.mk (blk_below (g := gb302) (o := .cells #[.int .i64 a0_0, .int .i64 a0_1, .slice A0_2 l0_2.length c0_2, .int .i64 a1_0, .int .i64 a1_1, .slice Ao34 t296.length co34, .slice Ao35 t299.length co35] 59 (0, 0)) zr8 hb); have n5_ := Aside0.mk (below_step zr3 hb); clear HO298; clear HO301; clear BK294; clear BK295; clear BK302; clear HB; have HO298 := n0_; have HO301 := n1_; have BK294 := n2_; have BK295 := n3_; have BK302 := n4_; have HB := n5_; clear n0_ n1_ n2_ n3_ n4_ n5_; (try clear hb); (try clear hb2); (try clear hk); (try clear hi); (try clear hna_); (try clear hnb_)))
  go_ret2
  exact ⟨zr15, zr3⟩
 subst c10
 have H1 : (if 0 < (l2.length : Int) then (if 1 < (l2.length : Int) then (if 0 < (l3.length : Int) then (if 1 < (l3.length : Int) then ((impl_graph_cross.f k a0_0 a0_1 l0_2 a1_0 a1_1 t296 t299 (rd l2 0) (rd l2 1) (rd l3 0) (rd l3 1)).bind fun t311 => (some (t311, true))) else (none)) else (none)) else (none)) else (none)) = some (r1, r2) := by rw [if_pos rfl] at H; exact H
 clear H
 have H := H1
 clear H1
 by_cases c11 : 0 < (l2.length : Int)
 rotate_left
 ·rw [if_neg c11] at H
  exact absurd H (by simp)
 rw [if_pos c11] at H
 have c11b0 : decide (0 < (l2.length : Int)) = true := decide_eq_true c11
 have c11b1 : decide (0 < l2.length) = true := decide_eq_true (by omega)
 clear c11
 by_cases c12 : 1 < (l2.length : Int)
 rotate_left
 ·rw [if_neg c12] at H
  exact absurd H (by simp)
 rw [if_pos c12] at H
 have c12b0 : decide (1 < (l2.length : Int)) = true := decide_eq_true c12
 have c12b1 : decide (1 < l2.length) = true := decide_eq_true (by omega)
 clear c12
 by_cases c13 : 0 < (l3.length : Int)
 rotate_left
 ·rw [if_neg c13] at H
  exact absurd H (by simp)
 rw [if_pos c13] at H
 have c13b0 : decide (0 < (l3.length : Int)) = true := decide_eq_true c13
 have c13b1 : decide (0 < l3.length) = true := decide_eq_true (by omega)
 clear c13
 by_cases c14 : 1 < (l3.length : Int)
 rotate_left
 ·rw [if_neg c14] at H
  exact absurd H (by simp)
 rw [if_pos c14] at H
 have c14b0 : decide (1 < (l3.length : Int)) = true := decide_eq_true c14
 have c14b1 : decide (1 < l3.length) = true := decide_eq_true (by omega)
 clear c14
 replace H := Option.bind_eq_some_iff.mp H
 obtain ⟨t311, A150, H⟩ := H
 replace H : (some (t311, true)) = some (r1, r2) := H
 have A15 := Aside0.mk A150
 clear A150
 simp only [Option.some.injEq, Prod.mk.injEq] at H
 obtain ⟨rfl, rfl⟩ := H
 go_enter Try.func24, Try.ntmps24
 try go_wp2_with (first | ((with_reducible refine gate_dst (N := 4) rfl ?_); refine box_event ?hg (N := 4) ?hd (cs := #[.int .i64 a0_0, .int .i64 a0_1, .slice A0_2 l0_2.length c0_2]) (t := 31) ?hr ?_; (case hd => rfl); (case hg => rfl); (case hr => first | (go_simp; done) | (go_simp; rfl)); intro gb294 hg w16 hbox hb; have n0_ := Aside0.mk (below_step zr7 hb); have n1_ := Aside0.mk (hbox); have n2_ := Aside0.mk ((zr20 : w.heap.size ≤ gb294)); have n3_ := Aside0.mk ((zr20 : w.heap.size ≤ gb294)); clear HB; have HB := n0_; have BK294 := n1_; have GW294 := n2_; have GE294 := n3_; clear n0_ n1_ n2_ n3_; clear hb hbox hg) | ((with_reducible refine gate_dst (N := 5) rfl ?_); refine box_event ?hg (N := 5) ?hd (cs := #[.int .i64 a1_0, .int .i64 a1_1]) (t := 33) ?hr ?_; (case hd => rfl); (case hg => rfl); (case hr => first | (go_simp; done) | (go_simp; rfl)); intro gb295 hg w17 hbox hb; have n0_ := Aside0.mk (blk_below (g := gb294) (o := .cells #[.int .i64 a0_0, .int .i64 a0_1, .slice A0_2 l0_2.length c0_2] 31 (0, 0)) zr2 hb); have n1_ := Aside0.mk (below_step zr4 hb); have n2_ := Aside0.mk (hbox); have n3_ := Aside0.mk ((zr21 : w.heap.size ≤ gb295)); have n4_ := Aside0.mk ((zr21 : w.heap.size ≤ gb295)); have n5_ := Aside0.mk ((zr18 : gb294 ≠ gb295)); have n6_ := Aside0.mk ((zr19 : gb295 ≠ gb294)); clear BK294; clear HB; have BK294 := n0_; have HB := n1_; have BK295 := n2_; have GW295 := n3_; have GE295 := n4_; have NB294_295 := n5_; have NB295_294 := n6_; clear n0_ n1_ n2_ n3_ n4_ n5_ n6_; clear hb hbox hg; have hnb18 := NB294_295.out; have hnc18 := NB295_294.out; have hcz19_0 : w17.cell? ⟨gb294, 0, none⟩ = some (.int .i64 a0_0) := (blk_cell BK294.out 0).trans rfl; have hcz19_1 : w17.cell? ⟨gb294, 1, none⟩ = some (.int .i64 a0_1) := (blk_cell BK294.out 1).trans rfl; have hcz19_2 : w17.cell? ⟨gb294, 2, none⟩ = some (.slice A0_2 l0_2.length c0_2) := (blk_cell BK294.out 2).trans rfl; have hfz19_0 := blk_frozen BK294.out 0; have hfz19_1 := blk_frozen BK294.out 1; have hfz19_2 := blk_frozen BK294.out 2; have hcz20_0 : w17.cell? ⟨gb295, 0, none⟩ = some (.int .i64 a1_0) := (blk_cell BK295.out 0).trans rfl; have hcz20_1 : w17.cell? ⟨gb295, 1, none⟩ = some (.int .i64 a1_1) := (blk_cell BK295.out 1).trans rfl; have hfz20_0 := blk_frozen BK295.out 0; have hfz20_1 := blk_frozen BK295.out 1) | ((with_reducible refine gate_callee (f := 31) rfl ?_); refine goesL_ (some 15) rfl rfl Try.func31 (by kernel_rfl) rfl #[.agg #[.int .i64 a0_0, .int .i64 a0_1, .slice A0_2 l0_2.length c0_2], .agg #[.int .i64 a1_0, .int .i64 a1_1]] rfl zr11 ?_; (with_reducible refine (impl_graphOf.calls k a0_0 a0_1 _ _ l0_2 a1_0 a1_1 t296 t299 true _ ?side1 ?side2 A5.out).mono ?_); (case side1 => exact zr6); (case side2 => exact HC0_2.out); rintro e w21 ⟨v297, v300, pv303, rfl, hgp, ho0, ho1, hb⟩; refine ⟨_, rfl, ?_⟩; obtain ⟨gb302, rfl, hbox, hge⟩ := hgp.1 rfl; have n0_ := Aside0.mk (Kd.R_lower ho0 (below_size zr1)); have n1_ := Aside0.mk (Kd.S_lower ho1 (below_size zr1)); have n2_ := Aside0.mk (blk_below (g := gb294) (o := .cells #[.int .i64 a0_0, .int .i64 a0_1, .slice A0_2 l0_2.length c0_2] 31 (0, 0)) zr2 hb); have n3_ := Aside0.mk (blk_below (g := gb295) (o := .cells #[.int .i64 a1_0, .int .i64 a1_1] 33 (0, 0)) zr5 hb); have n4_ := Aside0.mk (hbox); have n5_ := Aside0.mk ((Nat.le_trans (by exact (below_size zr1)) hge : w.heap.size ≤ gb302)); have n6_ := Aside0.mk ((Nat.le_trans (by exact (below_size zr1)) hge : w.heap.size ≤ gb302)); have n7_ := Aside0.mk ((Nat.ne_of_lt (Nat.lt_of_lt_of_le (blk_lt (g := gb294) (o := .cells #[.int .i64 a0_0, .int .i64 a0_1, .slice A0_2 l0_2.length c0_2] 31 (0, 0)) zr2) hge) : gb294 ≠ gb302)); have n8_ := Aside0.mk ((Nat.ne_of_gt (Nat.lt_of_lt_of_le (blk_lt (g := gb294) (o := .cells #[.int .i64 a0_0, .int .i64 a0_1, .slice A0_2 l0_2.length c0_2] 31 (0, 0)) zr2) hge) : gb302 ≠ gb294)); have n9_ := Aside0.mk ((Nat.ne_of_lt (Nat.lt_of_lt_of_le (blk_lt (g := gb295) (o := .cells #[.int .i64 a1_0, .int .i64 a1_1] 33 (0, 0)) zr5) hge) : gb295 ≠ gb302)); have n10_ := Aside0.mk ((Nat.ne_of_gt (Nat.lt_of_lt_of_le (blk_lt (g := gb295) (o := .cells #[.int .i64 a1_0, .int .i64 a1_1] 33 (0, 0)) zr5) hge) : gb302 ≠ gb295)); have n11_ := Aside0.mk (below_step zr1 hb); clear BK294; clear BK295; clear HB; have HO298 := n0_; have HO301 := n1_; have BK294 := n2_; have BK295 := n3_; have BK302 := n4_; have GW302 := n5_; have GE302 := n6_; have NB294_302 := n7_; have NB302_294 := n8_; have NB295_302 := n9_; have NB302_295 := n10_; have HB := n11_; clear n0_ n1_ n2_ n3_ n4_ n5_ n6_ n7_ n8_ n9_ n10_ n11_; (try clear hb); (try clear hb2); (try clear hk); (try clear hi); (try clear ho0); (try clear ho1); (try clear hgp); (try clear hbox); (try clear hge); (try clear hna_); (try clear hnb_); obtain ⟨Ao22, co22, eo22⟩ := Kd.R_slice HO298.out; subst eo22; obtain ⟨Ao23, co23, eo23⟩ := Kd.S_slice HO301.out; subst eo23) | (go_at_call 45; (with_reducible refine (impl_graph_isLeap.calls k gb302 a0_0 a0_1 A0_2 c0_2 l0_2 a1_0 a1_1 Ao22 co22 t296 Ao23 co23 t299 _ _ l2 true _ ?side1 ?side2 ?side3 ?side4 ?side5 ?side6 ?side7 ?side8 ?side9 A7.out).mono ?_); (case side1 => exact zr8); (case side2 => exact zr6); (case side3 => exact HC0_2.out); (case side4 => exact zr10); (case side5 => exact (Kd.R_reads' HO298.out).2.1); (case side6 => exact zr9); (case side7 => exact (Kd.S_reads' HO301.out).2.1); (case side8 => exact zr14); (case side9 => exact HC2.out); rintro e w24 ⟨rfl, hb⟩; have n0_ := Aside0.mk (Kd.R_below zr13 hb); have n1_ := Aside0.mk (Kd.S_below zr12 hb); have n2_ := Aside0.mk (blk_below (g := gb294) (o := .cells #[.int .i64 a0_0, .int .i64 a0_1, .slice A0_2 l0_2.length c0_2] 31 (0, 0)) zr2 hb); have n3_ := Aside0.mk (blk_below (g := gb295) (o := .cells #[.int .i64 a1_0, .int .i64 a1_1] 33 (0, 0)) zr5 hb); have n4_ := Aside0.mk (blk_below (g := gb302) (o := .cells #[.int .i64 a0_0, .int .i64 a0_1, .slice A0_2 l0_2.length c0_2, .int .i64 a1_0, .int .i64 a1_1, .slice Ao22 t296.length co22, .slice Ao23 t299.length co23] 59 (0, 0)) zr8 hb); have n5_ := Aside0.mk (below_step zr3 hb); clear HO298; clear HO301; clear BK294; clear BK295; clear BK302; clear HB; have HO298 := n0_; have HO301 := n1_; have BK294 := n2_; have BK295 := n3_; have BK302 := n4_; have HB := n5_; clear n0_ n1_ n2_ n3_ n4_ n5_; (try clear hb); (try clear hb2); (try clear hk); (try clear hi); (try clear hna_); (try clear hnb_)) | (go_at_call 45; (with_reducible refine (impl_graph_isLeap.calls k gb302 a0_0 a0_1 A0_2 c0_2 l0_2 a1_0 a1_1 Ao22 co22 t296 Ao23 co23 t299 _ _ l3 true _ ?side1 ?side2 ?side3 ?side4 ?side5 ?side6 ?side7 ?side8 ?side9 A9.out).mono ?_); (case side1 => exact zr8); (case side2 => exact zr6); (case side3 => exact HC0_2.out); (case side4 => exact zr10); (case side5 => exact (Kd.R_reads' HO298.out).2.1); (case side6 => exact zr9); (case side7 => exact (Kd.S_reads' HO301.out).2.1); (case side8 => exact zr16); (case side9 => exact HC3.out); rintro e w25 ⟨rfl, hb⟩; have n0_ := Aside0.mk (Kd.R_below zr13 hb); have n1_ := Aside0.mk (Kd.S_below zr12 hb); have n2_ := Aside0.mk (blk_below (g := gb294) (o := .cells #[.int .i64 a0_0, .int .i64 a0_1, .slice A0_2 l0_2.length c0_2] 31 (0, 0)) zr2 hb); have n3_ := Aside0.mk (blk_below (g := gb295) (o := .cells #[.int .i64 a1_0, .int .i64 a1_1] 33 (0, 0)) zr5 hb); have n4_ := Aside0.mk (blk_below (g := gb302) (o := .cells #[.int .i64 a0_0, .int .i64 a0_1, .slice A0_2 l0_2.length c0_2, .int .i64 a1_0, .int .i64 a1_1, .slice Ao22 t296.length co22, .slice Ao23 t299.length co23] 59 (0, 0)) zr8 hb); have n5_ := Aside0.mk (below_step zr3 hb); clear HO298; clear HO301; clear BK294; clear BK295; clear BK302; clear HB; have HO298 := n0_; have HO301 := n1_; have BK294 := n2_; have BK295 := n3_; have BK302 := n4_; have HB := n5_; clear n0_ n1_ n2_ n3_ n4_ n5_; (try clear hb); (try clear hb2); (try clear hk); (try clear hi); (try clear hna_); (try clear hnb_)))
 have n0_ := Aside0.mk (Kd.R_drew HO298.out)
 have n1_ := Aside0.mk (Kd.S_drew HO301.out)
 have n2_ := Aside0.mk (blk_drew BK294.out)
 have n3_ := Aside0.mk (blk_drew BK295.out)
 have n4_ := Aside0.mk (blk_drew BK302.out)
 have n5_ := Aside0.mk (below_drew1 HB.out)
 clear HO298
 clear HO301
 clear BK294
 clear BK295
 clear BK302
 clear HB
 have HO298 := n0_
 have HO301 := n1_
 have BK294 := n2_
 have BK295 := n3_
 have BK302 := n4_
 have HB := n5_
 clear n0_ n1_ n2_ n3_ n4_ n5_
 have p307 : 0 ≤ (0 : Int) := (by omega)
 have q307 : 0 < (l2.length : Int) := of_decide_eq_true zr17
 obtain ⟨ad307, e307, hx307_0⟩ := Kd.at_int HR2.out 0 p307 q307
 have hw307_0 := hx307_0
 (try rw [show ((0 : Int)).toNat = 0 from rfl] at hw307_0)
 (try rw [show 0 * 1 = 0 from rfl] at hw307_0)
 (try rw [Addr.add_zero'] at hw307_0)
 cases e307
 have qi307 : (0 < l2.length) = True := eq_true (by omega)
 (try rw [show ((0 : Int)).toNat = 0 from rfl] at hx307_0)
 (try rw [Addr.add_zero'] at hx307_0)
 (first | replace hx307_0 := (HB.out.cell (World.block_lt_of_cell? w _ hx307_0)).trans hx307_0 | skip)
 replace p307 := eq_true p307
 replace q307 := eq_true q307
 have p308 : 0 ≤ (1 : Int) := (by omega)
 have q308 : 1 < (l2.length : Int) := of_decide_eq_true zr17
 obtain ⟨ad308, e308, hx308_0⟩ := Kd.at_int HR2.out 1 p308 q308
 have hw308_0 := hx308_0
 (try rw [show ((1 : Int)).toNat = 1 from rfl] at hw308_0)
 (try rw [show 1 * 1 = 1 from rfl] at hw308_0)
 (try simp only [Nat.reduceMul, Nat.reduceEqDiff, Go.Addr.add, ↓reduceIte] at hw308_0)
 obtain rfl : ad307 = ad308 := (by injection e308)
 (try simp only [show (1 : Int).toNat = 1 from rfl, Nat.reduceMul, Nat.reduceEqDiff, Go.Addr.add, ↓reduceIte] at hx308_0)
 have qi308 : (1 < l2.length) = True := eq_true (by omega)
 (try rw [show ((1 : Int)).toNat = 1 from rfl] at hx308_0)
 (first | replace hx308_0 := (HB.out.cell (World.block_lt_of_cell? w _ hx308_0)).trans hx308_0 | skip)
 replace p308 := eq_true p308
 replace q308 := eq_true q308
 have p309 : 0 ≤ (0 : Int) := (by omega)
 have q309 : 0 < (l3.length : Int) := of_decide_eq_true zr17
 obtain ⟨ad309, e309, hx309_0⟩ := Kd.at_int HR3.out 0 p309 q309
 have hw309_0 := hx309_0
 (try rw [show ((0 : Int)).toNat = 0 from rfl] at hw309_0)
 (try rw [show 0 * 1 = 0 from rfl] at hw309_0)
 (try rw [Addr.add_zero'] at hw309_0)
 cases e309
 have qi309 : (0 < l3.length) = True := eq_true (by omega)
 (try rw [show ((0 : Int)).toNat = 0 from rfl] at hx309_0)
 (try rw [Addr.add_zero'] at hx309_0)
 (first | replace hx309_0 := (HB.out.cell (World.block_lt_of_cell? w _ hx309_0)).trans hx309_0 | skip)
 replace p309 := eq_true p309
 replace q309 := eq_true q309
 have p310 : 0 ≤ (1 : Int) := (by omega)
 have q310 : 1 < (l3.length : Int) := of_decide_eq_true zr17
 obtain ⟨ad310, e310, hx310_0⟩ := Kd.at_int HR3.out 1 p310 q310
 have hw310_0 := hx310_0
 (try rw [show ((1 : Int)).toNat = 1 from rfl] at hw310_0)
 (try rw [show 1 * 1 = 1 from rfl] at hw310_0)
 (try simp only [Nat.reduceMul, Nat.reduceEqDiff, Go.Addr.add, ↓reduceIte] at hw310_0)
 obtain rfl : ad309 = ad310 := (by injection e310)
 (try simp only [show (1 : Int).toNat = 1 from rfl, Nat.reduceMul, Nat.reduceEqDiff, Go.Addr.add, ↓reduceIte] at hx310_0)
 have qi310 : (1 < l3.length) = True := eq_true (by omega)
 (try rw [show ((1 : Int)).toNat = 1 from rfl] at hx310_0)
 (first | replace hx310_0 := (HB.out.cell (World.block_lt_of_cell? w _ hx310_0)).trans hx310_0 | skip)
 replace p310 := eq_true p310
 replace q310 := eq_true q310
 refine start_ (n := 16) (S := fun w' => w'.cell? ad307 = some (.int .i64 (rd l2 0)) ∧ w'.cell? ⟨ad307.block, ad307.off + 1, none⟩ = some (.int .i64 (rd l2 1)) ∧ w'.cell? ad309 = some (.int .i64 (rd l3 0)) ∧ w'.cell? ⟨ad309.block, ad309.off + 1, none⟩ = some (.int .i64 (rd l3 1))) (ds := []) #[false, false, false, false, false, false, false, false, false, false, false, false, false, false, false, false] (by kernel_rfl) rfl rfl ⟨((HB.out.cell (World.block_lt_of_cell? w _ hw307_0)).trans hw307_0), ((HB.out.cell (World.block_lt_of_cell? w _ hw308_0)).trans hw308_0), ((HB.out.cell (World.block_lt_of_cell? w _ hw309_0)).trans hw309_0), ((HB.out.cell (World.block_lt_of_cell? w _ hw310_0)).trans hw310_0)⟩ (fun hHeld => ?_); refine with_tabW impl_DoLeapsCross.tab4 impl_DoLeapsCross.bits4 (fun HT_ HW_ => ?_)
 generalize w25.drew = w26 at HO298 HO301 BK294 BK295 BK302 HB hx307_0 hx308_0 hx309_0 hx310_0 hHeld ⊢
 refine pure_ (i := 0) (N := some 32) (v := ?_) (a' := ?_) (bq 16 1) rfl rfl (any_of HT_.out (by kernel_rfl)) (fun _ _ _ h => h) (Or.inl ⟨by rfl, ?_⟩) ?_ ?_
 rotate_left
 ·intro w'
  go_simp
  with_reducible rfl
 rotate_left
 ·simp only [Act.put, List.setIfInBounds_toArray, List.set_cons_zero, List.set_cons_succ, i64_w, i32_w]
  rfl
 refine pure_ (i := 1) (N := some 33) (v := ?_) (a' := ?_) (bq 16 3) rfl rfl (any_of HT_.out (by kernel_rfl)) (fun _ _ _ h => h) (Or.inl ⟨by rfl, ?_⟩) ?_ ?_
 rotate_left
 ·intro w'
  go_simp
  with_reducible rfl
 rotate_left
 ·simp only [Act.put, List.setIfInBounds_toArray, List.set_cons_zero, List.set_cons_succ, i64_w, i32_w]
  rfl
 refine pure_ (i := 2) (N := some 34) (v := ?_) (a' := ?_) (bq 16 7) rfl rfl (any_of HT_.out (by kernel_rfl)) (fun _ _ _ h => h) (Or.inl ⟨by rfl, ?_⟩) ?_ ?_
 rotate_left
 ·intro w'
  go_simp
  with_reducible rfl
 rotate_left
 ·simp only [Act.put, List.setIfInBounds_toArray, List.set_cons_zero, List.set_cons_succ, i64_w, i32_w]
  rfl
 refine pure_ (i := 4) (N := some 36) (v := ?_) (a' := ?_) (bq 16 23) rfl rfl (any_of HT_.out (by kernel_rfl)) (fun _ _ _ h => h) (Or.inl ⟨by rfl, ?_⟩) ?_ ?_
 rotate_left
 ·intro w'
  go_simp
  with_reducible rfl
 rotate_left
 ·simp only [Act.put, List.setIfInBounds_toArray, List.set_cons_zero, List.set_cons_succ, i64_w, i32_w]
  rfl
 refine pure_ (i := 5) (N := some 37) (v := ?_) (a' := ?_) (bq 16 55) rfl rfl (any_of HT_.out (by kernel_rfl)) (fun _ _ _ h => h) (Or.inl ⟨by rfl, ?_⟩) ?_ ?_
 rotate_left
 ·intro w'
  go_simp
  with_reducible rfl
 rotate_left
 ·simp only [Act.put, List.setIfInBounds_toArray, List.set_cons_zero, List.set_cons_succ, i64_w, i32_w]
  rfl
 refine pure_ (i := 7) (N := some 39) (v := ?_) (a' := ?_) (bq 16 183) rfl rfl (any_of HT_.out (by kernel_rfl)) (fun _ _ _ h => h) (Or.inl ⟨by rfl, ?_⟩) ?_ ?_
 rotate_left
 ·intro w'
  go_simp
  with_reducible rfl
 rotate_left
 ·simp only [Act.put, List.setIfInBounds_toArray, List.set_cons_zero, List.set_cons_succ, i64_w, i32_w]
  rfl
 refine pure_ (i := 8) (N := some 40) (v := ?_) (a' := ?_) (bq 16 439) rfl rfl (any_of HT_.out (by kernel_rfl)) (fun _ _ _ h => h) (Or.inl ⟨by rfl, ?_⟩) ?_ ?_
 rotate_left
 ·intro w'
  go_simp
  with_reducible rfl
 rotate_left
 ·simp only [Act.put, List.setIfInBounds_toArray, List.set_cons_zero, List.set_cons_succ, i64_w, i32_w]
  rfl
 refine pure_ (i := 10) (N := some 42) (v := ?_) (a' := ?_) (bq 16 1463) rfl rfl (any_of HT_.out (by kernel_rfl)) (fun _ _ _ h => h) (Or.inl ⟨by rfl, ?_⟩) ?_ ?_
 rotate_left
 ·intro w'
  go_simp
  with_reducible rfl
 rotate_left
 ·simp only [Act.put, List.setIfInBounds_toArray, List.set_cons_zero, List.set_cons_succ, i64_w, i32_w]
  rfl
 refine pure_ (i := 11) (N := some 43) (v := ?_) (a' := ?_) (bq 16 3511) rfl rfl (any_of HT_.out (by kernel_rfl)) (fun _ _ _ h => h) (Or.inl ⟨by rfl, ?_⟩) ?_ ?_
 rotate_left
 ·intro w'
  go_simp
  with_reducible rfl
 rotate_left
 ·simp only [Act.put, List.setIfInBounds_toArray, List.set_cons_zero, List.set_cons_succ, i64_w, i32_w]
  rfl
 refine take_ (i := 3) (N := some 35) (v := ?_) (a' := ?_) (bq 16 3519) rfl rfl (take_ofW HT_.out HW_.out (by kernel_rfl)) (fun _ _ _ h => h) (Or.inl ⟨by rfl, ?_⟩) hHeld ?_ ?_
 rotate_left
 ·rintro w' ⟨s0, s1, s2, s3⟩
  go_simp
  with_reducible rfl
 rotate_left
 ·simp only [Act.put, List.setIfInBounds_toArray, List.set_cons_zero, List.set_cons_succ, i64_w, i32_w]
  rfl
 refine take_ (i := 6) (N := some 38) (v := ?_) (a' := ?_) (bq 16 3583) rfl rfl (take_ofW HT_.out HW_.out (by kernel_rfl)) (fun _ _ _ h => h) (Or.inl ⟨by rfl, ?_⟩) hHeld ?_ ?_
 rotate_left
 ·rintro w' ⟨s0, s1, s2, s3⟩
  go_simp
  with_reducible rfl
 rotate_left
 ·simp only [Act.put, List.setIfInBounds_toArray, List.set_cons_zero, List.set_cons_succ, i64_w, i32_w]
  rfl
 refine take_ (i := 9) (N := some 41) (v := ?_) (a' := ?_) (bq 16 4095) rfl rfl (take_ofW HT_.out HW_.out (by kernel_rfl)) (fun _ _ _ h => h) (Or.inl ⟨by rfl, ?_⟩) hHeld ?_ ?_
 rotate_left
 ·rintro w' ⟨s0, s1, s2, s3⟩
  go_simp
  with_reducible rfl
 rotate_left
 ·simp only [Act.put, List.setIfInBounds_toArray, List.set_cons_zero, List.set_cons_succ, i64_w, i32_w]
  rfl
 refine take_ (i := 12) (N := some 44) (v := ?_) (a' := ?_) (bq 16 8191) rfl rfl (take_ofW HT_.out HW_.out (by kernel_rfl)) (fun _ _ _ h => h) (Or.inl ⟨by rfl, ?_⟩) hHeld ?_ ?_
 rotate_left
 ·rintro w' ⟨s0, s1, s2, s3⟩
  go_simp
  with_reducible rfl
 rotate_left
 ·simp only [Act.put, List.setIfInBounds_toArray, List.set_cons_zero, List.set_cons_succ, i64_w, i32_w]
  rfl
 refine one_ (i := 13) (N := some 45) (bq 16 16383) rfl rfl (one_of HT_.out (by kernel_rfl)) (by decide) (fun K hK => ?_)
 refine goes_ Try.func46 (by kernel_rfl) rfl #[.pointer (some ⟨gb302, 0, none⟩), .int .i64 (rd l2 0), .int .i64 (rd l2 1), .int .i64 (rd l3 0), .int .i64 (rd l3 1)] (by rfl) rfl rfl zr11 ?_
 with_reducible refine (impl_graph_cross.calls k gb302 a0_0 a0_1 A0_2 c0_2 l0_2 a1_0 a1_1 Ao22 co22 t296 Ao23 co23 t299 (rd l2 0) (rd l2 1) (rd l3 0) (rd l3 1) t311 _ ?side1 ?side2 ?side3 ?side4 ?side5 ?side6 ?side7 A15.out).mono ?_
 (case side1 => exact zr8)
 (case side2 => exact zr6)
 (case side3 => exact HC0_2.out)
 (case side4 => exact zr10)
 (case side5 => exact (Kd.R_reads' HO298.out).2.1)
 (case side6 => exact zr9)
 (case side7 => exact (Kd.S_reads' HO301.out).2.1)
 rintro e w27 ⟨rfl, hb⟩
 refine ⟨_, rfl, ?_⟩
 have n0_ := Aside0.mk (Kd.R_below zr13 hb)
 have n1_ := Aside0.mk (Kd.S_below zr12 hb)
 have n2_ := Aside0.mk (blk_below (g := gb294) (o := .cells #[.int .i64 a0_0, .int .i64 a0_1, .slice A0_2 l0_2.length c0_2] 31 (0, 0)) zr2 hb)
 have n3_ := Aside0.mk (blk_below (g := gb295) (o := .cells #[.int .i64 a1_0, .int .i64 a1_1] 33 (0, 0)) zr5 hb)
 have n4_ := Aside0.mk (blk_below (g := gb302) (o := .cells #[.int .i64 a0_0, .int .i64 a0_1, .slice A0_2 l0_2.length c0_2, .int .i64 a1_0, .int .i64 a1_1, .slice Ao22 t296.length co22, .slice Ao23 t299.length co23] 59 (0, 0)) zr8 hb)
 have n5_ := Aside0.mk (below_step zr3 hb)
 clear HO298
 clear HO301
 clear BK294
 clear BK295
 clear BK302
 clear HB
 have HO298 := n0_
 have HO301 := n1_
 have BK294 := n2_
 have BK295 := n3_
 have BK302 := n4_
 have HB := n5_
 clear n0_ n1_ n2_ n3_ n4_ n5_
 (try clear hb)
 (try clear hb2)
 (try clear hk)
 (try clear hi)
 (try clear hna_)
 (try clear hnb_)
 refine hK.out _ _ ⟨((HB.out.cell (World.block_lt_of_cell? w _ hw307_0)).trans hw307_0), ((HB.out.cell (World.block_lt_of_cell? w _ hw308_0)).trans hw308_0), ((HB.out.cell (World.block_lt_of_cell? w _ hw309_0)).trans hw309_0), ((HB.out.cell (World.block_lt_of_cell? w _ hw310_0)).trans hw310_0)⟩ (fun hHeld => ?_)
 clear hK K
 refine norm_ (a' := ?_) ?_ ?_
 rotate_left
 ·show Act.put _ (some 45) _ = _
  simp only [Act.put, List.setIfInBounds_toArray, List.set_cons_zero, List.set_cons_succ, i64_w, i32_w]
  rfl
 refine pure_ (i := 14) (N := some 8) (v := ?_) (a' := ?_) (bq 16 32767) rfl rfl (any_of HT_.out (by kernel_rfl)) (fun _ _ _ h => h) (Or.inl ⟨by rfl, ?_⟩) ?_ ?_
 rotate_left
 ·intro w'
  go_simp
  with_reducible rfl
 rotate_left
 ·simp only [Act.put, List.setIfInBounds_toArray, List.set_cons_zero, List.set_cons_succ, i64_w, i32_w]
  rfl
 refine pure_ (i := 15) (N := some 9) (v := ?_) (a' := ?_) (bq 16 65535) rfl rfl (any_of HT_.out (by kernel_rfl)) (fun _ _ _ h => h) (Or.inl ⟨by rfl, ?_⟩) ?_ ?_
 rotate_left
 ·intro w'
  go_simp
  with_reducible rfl
 rotate_left
 ·simp only [Act.put, List.setIfInBounds_toArray, List.set_cons_zero, List.set_cons_succ, i64_w, i32_w]
  rfl
 refine done_ (done_of HT_.out (by kernel_rfl)) ?_
 try go_wp2
 go_ret2
 exact ⟨zr15, zr3⟩

end Go.Proofs.Ytemaokhlolimhaa.Q

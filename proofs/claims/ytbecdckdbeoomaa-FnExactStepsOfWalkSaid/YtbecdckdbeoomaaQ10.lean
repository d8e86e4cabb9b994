/- Written by a program of this session: functions of the translation as plain Lean functions, each with a proof that the call does what the plain function says; the conditions stand in each theorem. -/
import Derived.Test.YtbecdckdbeoomaaQ0
import Derived.Test.YtbecdckdbeoomaaQ8
import Derived.Test.YtbecdckdbeoomaaQ9
namespace Go.Proofs.Ytbecdckdbeoomaa.Q
open Go.RowKit Go.Proofs.YtbecdckdbeoomaaW.PrintWords Go.Proofs.YtbecdckdbeoomaaW.PrintLast Go.Proofs.YtbecdckdbeoomaaW.PrintMore
attribute [local go_sem] max2_int min2_int max_two min_two max_three min_three max_four min_four   -- for this text's walks alone
set_option linter.unusedVariables false
set_option linter.unusedSimpArgs false

theorem zk1 {p : Prop} (h : p := by repeat (first | (with_reducible first | exact HB.out | apply below_alloc | apply pw_below_drewN | apply below_drew1 | refine below_set ?_ GE166.out | refine below_set ?_ GE167.out) | exact HB.out)) : p := h
theorem zk2 {p : Prop} (h : p := by first | exact BK166.out | ((with_reducible repeat (first | refine blk_drewN ?_ _ | refine blk_drew ?_ | refine blk_alloc ?_ _)); exact BK166.out)) : p := h
theorem zk3 {p : Prop} (h : p := by first | exact BK167.out | ((with_reducible repeat (first | refine blk_drewN ?_ _ | refine blk_drew ?_ | refine blk_alloc ?_ _)); exact BK167.out)) : p := h
theorem zk4 {p : Prop} (h : p := by first | exact HO_8.out | ((with_reducible repeat (first | apply Kd.R_alloc | apply Kd.R_drewN | apply Kd.R_drew)); exact HO_8.out)) : p := h
theorem zk5 {p : Prop} (h : p := by repeat (first | (with_reducible first | exact HB.out | apply below_alloc | apply pw_below_drewN | apply below_drew1 | refine below_set ?_ GE166.out) | exact HB.out)) : p := h
theorem zk6 {p : Prop} (h : p := by repeat (first | exact (Kd.C_below HR0_2.out HB.out) | (with_reducible refine Kd.C_alloc ?_ _) | (with_reducible refine Kd.C_drewN ?_ _) | (with_reducible refine Kd.C_drew ?_))) : p := h
theorem zk7 {p : Prop} (h : p := by repeat (first | exact (Kd.C_below HR2.out HB.out) | (with_reducible refine Kd.C_alloc ?_ _) | (with_reducible refine Kd.C_drewN ?_ _) | (with_reducible refine Kd.C_drew ?_))) : p := h
theorem zk8 {p : Prop} (h : p := by repeat (first | (with_reducible first | exact HB.out | apply below_alloc | apply pw_below_drewN | apply below_drew1) | exact HB.out)) : p := h
theorem zk9 {p : Prop} (h : p := by first | (with_reducible assumption) | assumption) : p := h
theorem zk10 {p : Prop} (h : p := by first | exact HR176_0.out | (repeat (first | (with_reducible exact HR176_0.out) | (with_reducible refine Kd.C_alloc ?_ _) | (with_reducible refine Kd.C_drewN ?_ _) | (with_reducible refine Kd.C_drew ?_) | exact HR176_0.out))) : p := h
theorem zk11 {p : Prop} (h : p := by (with_reducible repeat (first | apply Kd.R_alloc | apply Kd.R_drewN | apply Kd.R_drew)); exact Kd.R_mono HL176_0.out (fun _ hk => ⟨hk.2, hk.1⟩)) : p := h
theorem zk12 {p : Prop} (h : p := by (with_reducible repeat (first | apply Kd.S_alloc | apply Kd.S_drewN | apply Kd.S_drew)); exact Kd.S_mono HO_58.out (fun _ hk => ⟨trivial, hk⟩)) : p := h
theorem zk13 {p : Prop} (h : p := by first | rfl | (simp; done) | (simp [*]; done)) : p := h
theorem zk14 {p : Prop} (h : p := by first | exact Kd.R_nil _ _ _ _ _ | exact Kd.N_nil _ _ _ _ _ | exact Kd.V_nil _ _ _ _ _ | exact Kd.Q_nil _ _ _ _ _ | exact Kd.S_nil _ _ _ _ _) : p := h
theorem zk15 {p : Prop} (h : p := by rw [hg]; exact Nat.ne_of_lt (blk_lt (g := gb166) (o := .cells #[.int .i64 a0_0, .int .i64 a0_1, .slice A0_2 l0_2.length c0_2] 30 (0, 0)) zk2)) : p := h
theorem zk16 {p : Prop} (h : p := by rw [hg]; exact Nat.ne_of_gt (blk_lt (g := gb166) (o := .cells #[.int .i64 a0_0, .int .i64 a0_1, .slice A0_2 l0_2.length c0_2] 30 (0, 0)) zk2)) : p := h
theorem zk17 {p : Prop} (h : p := by rw [hg]; exact (below_size zk8)) : p := h
theorem zk18 {p : Prop} (h : p := by rw [hg]; exact (below_size zk5)) : p := h
theorem zk19 {p : Prop} (h : p := by first | exact q176 | exact of_decide_eq_true zk9 | (have e_ := (Kd.S_reads' HO_58.out).1; omega)) : p := h
/-! ### spec_StepsOfWalk: function 13 -/
mutual
def spec_StepsOfWalk.l0 : Nat → List Int → List Int → Int → Int → Int → List Int → Int → Int → Option (List Int × Bool)
 | 0, _, _, _, _, _, _, _, _ => none
 | k + 1, x2, x8, x9, x167000, x167001, x167002, x168000, x168001 => if x9 < (x2.length : Int) then (if 0 ≤ x9 then (if x167000 = 0 then (none) else (if 0 ≤ (wrap64 (x9 - 1)) then (if (wrap64 (x9 - 1)) < (x2.length : Int) then ((spec_boSteps.f k x168000 x168001).bind fun t173 => (spec_StepsOfWalk.l1 k x2 x8 x9 (wrap64 ((Int.tmod (rd x2 x9) x167000) - (Int.tmod (rd x2 (wrap64 (x9 - 1))) x167000))) (wrap64 ((wrap64 (Int.tdiv (rd x2 x9) x167000)) - (wrap64 (Int.tdiv (rd x2 (wrap64 (x9 - 1))) x167000)))) t173 (t173.length : Int) 0 x167000 x167001 x167002 x168000 x168001)) else (none)) else (none))) else (none)) else (some (x8, true))
def spec_StepsOfWalk.l1 : Nat → List Int → List Int → Int → Int → Int → List (List Int) → Int → Int → Int → Int → List Int → Int → Int → Option (List Int × Bool)
 | 0, _, _, _, _, _, _, _, _, _, _, _, _, _ => none
 | k + 1, x2, x8, x9, x10, x11, x58, x59, x60, x167000, x167001, x167002, x168000, x168001 => if x60 < x59 then (if 0 ≤ x60 then (if x60 < (x58.length : Int) then (if 0 < ((rd_L1 x58 x60).length : Int) then (if (rd (rd_L1 x58 x60) 0) = x10 then (if 1 < ((rd_L1 x58 x60).length : Int) then (if (rd (rd_L1 x58 x60) 1) = x11 then (if x8.length < 17592186044416 then (spec_StepsOfWalk.l1 k x2 (x8 ++ [x60]) x9 x10 x11 x58 x59 (wrap64 (x60 + 1)) x167000 x167001 x167002 x168000 x168001) else (none)) else (spec_StepsOfWalk.l1 k x2 x8 x9 x10 x11 x58 x59 (wrap64 (x60 + 1)) x167000 x167001 x167002 x168000 x168001)) else (none)) else (spec_StepsOfWalk.l1 k x2 x8 x9 x10 x11 x58 x59 (wrap64 (x60 + 1)) x167000 x167001 x167002 x168000 x168001)) else (none)) else (none)) else (none)) else (spec_StepsOfWalk.l0 k x2 x8 (wrap64 (x9 + 1)) x167000 x167001 x167002 x168000 x168001)
end
def spec_StepsOfWalk.f (k : Nat) (a0_0 : Int) (a0_1 : Int) (l0_2 : List Int) (a1_0 : Int) (a1_1 : Int) (l2 : List Int) : Option (List Int × Bool) := (spec_blWalk.f k a0_0 a0_1 l0_2 a1_0 a1_1 l2).bind fun t168 => (if t168 = true then (spec_StepsOfWalk.l0 k l2 ([] : List Int) 1 a0_0 a0_1 l0_2 a1_0 a1_1) else (some (([] : List Int), false)))
set_option maxHeartbeats 8000000 in
set_option maxRecDepth 100000 in
theorem spec_StepsOfWalk.calls (k : Nat) (a0_0 : Int) (a0_1 : Int) (A0_2 : Option Addr) (c0_2 : Nat) (l0_2 : List Int) (a1_0 : Int) (a1_1 : Int) (A2 : Option Addr) (c2 : Nat) (l2 : List Int) (r1 : List Int) (r2 : Bool) (w : World) (hr0_2 : Kd.C (Kd.int .i64) w A0_2 l0_2.length l0_2) (hc0_2 : l0_2.length ≤ c0_2) (hr2 : Kd.C (Kd.int .i64) w A2 l2.length l2) (hc2 : l2.length ≤ c2) (h : spec_StepsOfWalk.f k a0_0 a0_1 l0_2 a1_0 a1_1 l2 = some (r1, r2)) :
  Calls Try.prog 13 #[.agg #[.int .i64 a0_0, .int .i64 a0_1, .slice A0_2 l0_2.length c0_2], .agg #[.int .i64 a1_0, .int .i64 a1_1], .slice A2 l2.length c2] w fun e w' => ∃ v0_ : Value, e = .returned (.tuple #[v0_, .bool r2]) ∧ Kd.R (Kd.int .i64) 3 w' w.heap.size (fun _ => True) v0_ r1 ∧ Below w.heap.size w w' := by
 have hu30 := Try.underlying30
 have hu32 := Try.underlying32
 have HR0_2 := Aside0.mk hr0_2
 have HC0_2 := Aside0.mk hc0_2
 clear hr0_2 hc0_2
 have HR2 := Aside0.mk hr2
 have HC2 := Aside0.mk hc2
 clear hr2 hc2
 have HB := Aside0.mk (Below.refl w.heap.size w)
 have H : ((spec_blWalk.f k a0_0 a0_1 l0_2 a1_0 a1_1 l2).bind fun t168 => (if t168 = true then (spec_StepsOfWalk.l0 k l2 ([] : List Int) 1 a0_0 a0_1 l0_2 a1_0 a1_1) else (some (([] : List Int), false)))) = some (r1, r2) := h
 clear h
 replace H := Option.bind_eq_some_iff.mp H
 obtain ⟨t168, A40, H⟩ := H
 replace H : (if t168 = true then (spec_StepsOfWalk.l0 k l2 ([] : List Int) 1 a0_0 a0_1 l0_2 a1_0 a1_1) else (some (([] : List Int), false))) = some (r1, r2) := H
 have A4 := Aside0.mk A40
 clear A40
 by_cases c5 : t168 = true
 rotate_left
 ·replace c5 := Bool.eq_false_iff.mpr c5
  subst c5
  have H1 : (some (([] : List Int), false)) = some (r1, r2) := by rw [if_neg (show ¬ (false = true) by decide)] at H; exact H
  clear H
  have H := H1
  clear H1
  simp only [Option.some.injEq, Prod.mk.injEq] at H
  obtain ⟨rfl, rfl⟩ := H
  go_enter Try.func13, Try.ntmps13
  go_wp2_with (first | ((with_reducible refine gate_dst (N := 3) rfl ?_); refine box_event ?hg (N := 3) ?hd (cs := #[.int .i64 a0_0, .int .i64 a0_1, .slice A0_2 l0_2.length c0_2]) (t := 30) ?hr ?_; (case hd => rfl); (case hg => rfl); (case hr => first | (go_simp; done) | (go_simp; rfl)); intro gb166 hg w33 hbox hb; have n0_ := Aside0.mk (below_step zk8 hb); have n1_ := Aside0.mk (hbox); have n2_ := Aside0.mk ((zk17 : w.heap.size ≤ gb166)); have n3_ := Aside0.mk ((zk17 : w.heap.size ≤ gb166)); clear HB; have HB := n0_; have BK166 := n1_; have GW166 := n2_; have GE166 := n3_; clear n0_ n1_ n2_ n3_; clear hb hbox hg) | ((with_reducible refine gate_dst (N := 4) rfl ?_); refine box_event ?hg (N := 4) ?hd (cs := #[.int .i64 a1_0, .int .i64 a1_1]) (t := 32) ?hr ?_; (case hd => rfl); (case hg => rfl); (case hr => first | (go_simp; done) | (go_simp; rfl)); intro gb167 hg w34 hbox hb; have n0_ := Aside0.mk (blk_below (g := gb166) (o := .cells #[.int .i64 a0_0, .int .i64 a0_1, .slice A0_2 l0_2.length c0_2] 30 (0, 0)) zk2 hb); have n1_ := Aside0.mk (below_step zk5 hb); have n2_ := Aside0.mk (hbox); have n3_ := Aside0.mk ((zk18 : w.heap.size ≤ gb167)); have n4_ := Aside0.mk ((zk18 : w.heap.size ≤ gb167)); have n5_ := Aside0.mk ((zk15 : gb166 ≠ gb167)); have n6_ := Aside0.mk ((zk16 : gb167 ≠ gb166)); clear BK166; clear HB; have BK166 := n0_; have HB := n1_; have BK167 := n2_; have GW167 := n3_; have GE167 := n4_; have NB166_167 := n5_; have NB167_166 := n6_; clear n0_ n1_ n2_ n3_ n4_ n5_ n6_; clear hb hbox hg; have hnb35 := NB166_167.out; have hnc35 := NB167_166.out; have hcz36_0 : w34.cell? ⟨gb166, 0, none⟩ = some (.int .i64 a0_0) := (blk_cell BK166.out 0).trans rfl; have hcz36_1 : w34.cell? ⟨gb166, 1, none⟩ = some (.int .i64 a0_1) := (blk_cell BK166.out 1).trans rfl; have hcz36_2 : w34.cell? ⟨gb166, 2, none⟩ = some (.slice A0_2 l0_2.length c0_2) := (blk_cell BK166.out 2).trans rfl; have hfz36_0 := blk_frozen BK166.out 0; have hfz36_1 := blk_frozen BK166.out 1; have hfz36_2 := blk_frozen BK166.out 2; have hcz37_0 : w34.cell? ⟨gb167, 0, none⟩ = some (.int .i64 a1_0) := (blk_cell BK167.out 0).trans rfl; have hcz37_1 : w34.cell? ⟨gb167, 1, none⟩ = some (.int .i64 a1_1) := (blk_cell BK167.out 1).trans rfl; have hfz37_0 := blk_frozen BK167.out 0; have hfz37_1 := blk_frozen BK167.out 1) | (go_at_call 40; (with_reducible refine (spec_blWalk.calls k a0_0 a0_1 _ _ l0_2 a1_0 a1_1 _ _ l2 false _ ?side1 ?side2 ?side3 ?side4 A4.out).mono ?_); (case side1 => exact zk6); (case side2 => exact HC0_2.out); (case side3 => exact zk7); (case side4 => exact HC2.out); rintro e w38 ⟨rfl, hb⟩; have n0_ := Aside0.mk (blk_below (g := gb166) (o := .cells #[.int .i64 a0_0, .int .i64 a0_1, .slice A0_2 l0_2.length c0_2] 30 (0, 0)) zk2 hb); have n1_ := Aside0.mk (blk_below (g := gb167) (o := .cells #[.int .i64 a1_0, .int .i64 a1_1] 32 (0, 0)) zk3 hb); have n2_ := Aside0.mk (below_step zk1 hb); clear BK166; clear BK167; clear HB; have BK166 := n0_; have BK167 := n1_; have HB := n2_; clear n0_ n1_ n2_; (try clear hb); (try clear hb2); (try clear hk); (try clear hi); (try clear hna_); (try clear hnb_)))
  repeat ((first | go_quiet (first | (go_at_call 40; (with_reducible refine (spec_blWalk.calls k a0_0 a0_1 _ _ l0_2 a1_0 a1_1 _ _ l2 false _ ?side1 ?side2 ?side3 ?side4 A4.out).mono ?_); (case side1 => exact zk6); (case side2 => exact HC0_2.out); (case side3 => exact zk7); (case side4 => exact HC2.out); rintro e w38 ⟨rfl, hb⟩; have n0_ := Aside0.mk (blk_below (g := gb166) (o := .cells #[.int .i64 a0_0, .int .i64 a0_1, .slice A0_2 l0_2.length c0_2] 30 (0, 0)) zk2 hb); have n1_ := Aside0.mk (blk_below (g := gb167) (o := .cells #[.int .i64 a1_0, .int .i64 a1_1] 32 (0, 0)) zk3 hb); have n2_ := Aside0.mk (below_step zk1 hb); clear BK166; clear BK167; clear HB; have BK166 := n0_; have BK167 := n1_; have HB := n2_; clear n0_ n1_ n2_; (try clear hb); (try clear hb2); (try clear hk); (try clear hi); (try clear hna_); (try clear hnb_))) | (refine wp_region_quiet_lit (by kernel_rfl) (by kernel_rfl) ?_; (repeat (any_goals (first | go_big_quiet_step (first | (go_at_call 40; (with_reducible refine (spec_blWalk.calls k a0_0 a0_1 _ _ l0_2 a1_0 a1_1 _ _ l2 false _ ?side1 ?side2 ?side3 ?side4 A4.out).mono ?_); (case side1 => exact zk6); (case side2 => exact HC0_2.out); (case side3 => exact zk7); (case side4 => exact HC2.out); rintro e w38 ⟨rfl, hb⟩; have n0_ := Aside0.mk (blk_below (g := gb166) (o := .cells #[.int .i64 a0_0, .int .i64 a0_1, .slice A0_2 l0_2.length c0_2] 30 (0, 0)) zk2 hb); have n1_ := Aside0.mk (blk_below (g := gb167) (o := .cells #[.int .i64 a1_0, .int .i64 a1_1] 32 (0, 0)) zk3 hb); have n2_ := Aside0.mk (below_step zk1 hb); clear BK166; clear BK167; clear HB; have BK166 := n0_; have BK167 := n1_; have HB := n2_; clear n0_ n1_ n2_; (try clear hb); (try clear hb2); (try clear hk); (try clear hi); (try clear hna_); (try clear hnb_))) | quiet_step (first | (go_at_call 40; (with_reducible refine (spec_blWalk.calls k a0_0 a0_1 _ _ l0_2 a1_0 a1_1 _ _ l2 false _ ?side1 ?side2 ?side3 ?side4 A4.out).mono ?_); (case side1 => exact zk6); (case side2 => exact HC0_2.out); (case side3 => exact zk7); (case side4 => exact HC2.out); rintro e w38 ⟨rfl, hb⟩; have n0_ := Aside0.mk (blk_below (g := gb166) (o := .cells #[.int .i64 a0_0, .int .i64 a0_1, .slice A0_2 l0_2.length c0_2] 30 (0, 0)) zk2 hb); have n1_ := Aside0.mk (blk_below (g := gb167) (o := .cells #[.int .i64 a1_0, .int .i64 a1_1] 32 (0, 0)) zk3 hb); have n2_ := Aside0.mk (below_step zk1 hb); clear BK166; clear BK167; clear HB; have BK166 := n0_; have BK167 := n1_; have HB := n2_; clear n0_ n1_ n2_; (try clear hb); (try clear hb2); (try clear hk); (try clear hi); (try clear hna_); (try clear hnb_)))))); all_goals (refine wpQuiet_nil ?_; intro _ hw2_; obtain ⟨nq, hw3_⟩ := hw2_; subst hw3_))); try go_wp2_with (first | ((with_reducible refine gate_dst (N := 3) rfl ?_); refine box_event ?hg (N := 3) ?hd (cs := #[.int .i64 a0_0, .int .i64 a0_1, .slice A0_2 l0_2.length c0_2]) (t := 30) ?hr ?_; (case hd => rfl); (case hg => rfl); (case hr => first | (go_simp; done) | (go_simp; rfl)); intro gb166 hg w33 hbox hb; have n0_ := Aside0.mk (below_step zk8 hb); have n1_ := Aside0.mk (hbox); have n2_ := Aside0.mk ((zk17 : w.heap.size ≤ gb166)); have n3_ := Aside0.mk ((zk17 : w.heap.size ≤ gb166)); clear HB; have HB := n0_; have BK166 := n1_; have GW166 := n2_; have GE166 := n3_; clear n0_ n1_ n2_ n3_; clear hb hbox hg) | ((with_reducible refine gate_dst (N := 4) rfl ?_); refine box_event ?hg (N := 4) ?hd (cs := #[.int .i64 a1_0, .int .i64 a1_1]) (t := 32) ?hr ?_; (case hd => rfl); (case hg => rfl); (case hr => first | (go_simp; done) | (go_simp; rfl)); intro gb167 hg w34 hbox hb; have n0_ := Aside0.mk (blk_below (g := gb166) (o := .cells #[.int .i64 a0_0, .int .i64 a0_1, .slice A0_2 l0_2.length c0_2] 30 (0, 0)) zk2 hb); have n1_ := Aside0.mk (below_step zk5 hb); have n2_ := Aside0.mk (hbox); have n3_ := Aside0.mk ((zk18 : w.heap.size ≤ gb167)); have n4_ := Aside0.mk ((zk18 : w.heap.size ≤ gb167)); have n5_ := Aside0.mk ((zk15 : gb166 ≠ gb167)); have n6_ := Aside0.mk ((zk16 : gb167 ≠ gb166)); clear BK166; clear HB; have BK166 := n0_; have HB := n1_; have BK167 := n2_; have GW167 := n3_; have GE167 := n4_; have NB166_167 := n5_; have NB167_166 := n6_; clear n0_ n1_ n2_ n3_ n4_ n5_ n6_; clear hb hbox hg; have hnb35 := NB166_167.out; have hnc35 := NB167_166.out; have hcz36_0 : w34.cell? ⟨gb166, 0, none⟩ = some (.int .i64 a0_0) := (blk_cell BK166.out 0).trans rfl; have hcz36_1 : w34.cell? ⟨gb166, 1, none⟩ = some (.int .i64 a0_1) := (blk_cell BK166.out 1).trans rfl; have hcz36_2 : w34.cell? ⟨gb166, 2, none⟩ = some (.slice A0_2 l0_2.length c0_2) := (blk_cell BK166.out 2).trans rfl; have hfz36_0 := blk_frozen BK166.out 0; have hfz36_1 := blk_frozen BK166.out 1; have hfz36_2 := blk_frozen BK166.out 2; have hcz37_0 : w34.cell? ⟨gb167, 0, none⟩ = some (.int .i64 a1_0) := (blk_cell BK167.out 0).trans rfl; have hcz37_1 : w34.cell? ⟨gb167, 1, none⟩ = some (.int .i64 a1_1) := (blk_cell BK167.out 1).trans rfl; have hfz37_0 := blk_frozen BK167.out 0; have hfz37_1 := blk_frozen BK167.out 1) | (go_at_call 40; (with_reducible refine (spec_blWalk.calls k a0_0 a0_1 _ _ l0_2 a1_0 a1_1 _ _ l2 false _ ?side1 ?side2 ?side3 ?side4 A4.out).mono ?_); (case side1 => exact zk6); (case side2 => exact HC0_2.out); (case side3 => exact zk7); (case side4 => exact HC2.out); rintro e w38 ⟨rfl, hb⟩; have n0_ := Aside0.mk (blk_below (g := gb166) (o := .cells #[.int .i64 a0_0, .int .i64 a0_1, .slice A0_2 l0_2.length c0_2] 30 (0, 0)) zk2 hb); have n1_ := Aside0.mk (blk_below (g := gb167) (o := .cells #[.int .i64 a1_0, .int .i64 a1_1] 32 (0, 0)) zk3 hb); have n2_ := Aside0.mk (below_step zk1 hb); clear BK166; clear BK167; clear HB; have BK166 := n0_; have BK167 := n1_; have HB := n2_; clear n0_ n1_ n2_; (try clear hb); (try clear hb2); (try clear hk); (try clear hi); (try clear hna_); (try clear hnb_))))
  go_ret2
  exact ⟨_, by first | rfl | (simp [errW_none, errW_some] <;> rfl) | (simp [*, errW_none, errW_some] <;> rfl), zk14, zk1⟩
 subst c5
 have H1 : (spec_StepsOfWalk.l0 k l2 ([] : List Int) 1 a0_0 a0_1 l0_2 a1_0 a1_1) = some (r1, r2) := by rw [if_pos rfl] at H; exact H
 clear H
 have H := H1
 clear H1
 have H' := Aside0.mk H
 clear H
 go_enter Try.func13, Try.ntmps13
 go_wp2_with (first | ((with_reducible refine gate_dst (N := 3) rfl ?_); refine box_event ?hg (N := 3) ?hd (cs := #[.int .i64 a0_0, .int .i64 a0_1, .slice A0_2 l0_2.length c0_2]) (t := 30) ?hr ?_; (case hd => rfl); (case hg => rfl); (case hr => first | (go_simp; done) | (go_simp; rfl)); intro gb166 hg w6 hbox hb; have n0_ := Aside0.mk (below_step zk8 hb); have n1_ := Aside0.mk (hbox); have n2_ := Aside0.mk ((zk17 : w.heap.size ≤ gb166)); have n3_ := Aside0.mk ((zk17 : w.heap.size ≤ gb166)); clear HB; have HB := n0_; have BK166 := n1_; have GW166 := n2_; have GE166 := n3_; clear n0_ n1_ n2_ n3_; clear hb hbox hg) | ((with_reducible refine gate_dst (N := 4) rfl ?_); refine box_event ?hg (N := 4) ?hd (cs := #[.int .i64 a1_0, .int .i64 a1_1]) (t := 32) ?hr ?_; (case hd => rfl); (case hg => rfl); (case hr => first | (go_simp; done) | (go_simp; rfl)); intro gb167 hg w7 hbox hb; have n0_ := Aside0.mk (blk_below (g := gb166) (o := .cells #[.int .i64 a0_0, .int .i64 a0_1, .slice A0_2 l0_2.length c0_2] 30 (0, 0)) zk2 hb); have n1_ := Aside0.mk (below_step zk5 hb); have n2_ := Aside0.mk (hbox); have n3_ := Aside0.mk ((zk18 : w.heap.size ≤ gb167)); have n4_ := Aside0.mk ((zk18 : w.heap.size ≤ gb167)); have n5_ := Aside0.mk ((zk15 : gb166 ≠ gb167)); have n6_ := Aside0.mk ((zk16 : gb167 ≠ gb166)); clear BK166; clear HB; have BK166 := n0_; have HB := n1_; have BK167 := n2_; have GW167 := n3_; have GE167 := n4_; have NB166_167 := n5_; have NB167_166 := n6_; clear n0_ n1_ n2_ n3_ n4_ n5_ n6_; clear hb hbox hg; have hnb8 := NB166_167.out; have hnc8 := NB167_166.out; have hcz9_0 : w7.cell? ⟨gb166, 0, none⟩ = some (.int .i64 a0_0) := (blk_cell BK166.out 0).trans rfl; have hcz9_1 : w7.cell? ⟨gb166, 1, none⟩ = some (.int .i64 a0_1) := (blk_cell BK166.out 1).trans rfl; have hcz9_2 : w7.cell? ⟨gb166, 2, none⟩ = some (.slice A0_2 l0_2.length c0_2) := (blk_cell BK166.out 2).trans rfl; have hfz9_0 := blk_frozen BK166.out 0; have hfz9_1 := blk_frozen BK166.out 1; have hfz9_2 := blk_frozen BK166.out 2; have hcz10_0 : w7.cell? ⟨gb167, 0, none⟩ = some (.int .i64 a1_0) := (blk_cell BK167.out 0).trans rfl; have hcz10_1 : w7.cell? ⟨gb167, 1, none⟩ = some (.int .i64 a1_1) := (blk_cell BK167.out 1).trans rfl; have hfz10_0 := blk_frozen BK167.out 0; have hfz10_1 := blk_frozen BK167.out 1) | (go_at_call 40; (with_reducible refine (spec_blWalk.calls k a0_0 a0_1 _ _ l0_2 a1_0 a1_1 _ _ l2 true _ ?side1 ?side2 ?side3 ?side4 A4.out).mono ?_); (case side1 => exact zk6); (case side2 => exact HC0_2.out); (case side3 => exact zk7); (case side4 => exact HC2.out); rintro e w11 ⟨rfl, hb⟩; have n0_ := Aside0.mk (blk_below (g := gb166) (o := .cells #[.int .i64 a0_0, .int .i64 a0_1, .slice A0_2 l0_2.length c0_2] 30 (0, 0)) zk2 hb); have n1_ := Aside0.mk (blk_below (g := gb167) (o := .cells #[.int .i64 a1_0, .int .i64 a1_1] 32 (0, 0)) zk3 hb); have n2_ := Aside0.mk (below_step zk1 hb); clear BK166; clear BK167; clear HB; have BK166 := n0_; have BK167 := n1_; have HB := n2_; clear n0_ n1_ n2_; (try clear hb); (try clear hb2); (try clear hk); (try clear hi); (try clear hna_); (try clear hnb_)))
 repeat ((first | go_quiet (first | (go_at_call 40; (with_reducible refine (spec_blWalk.calls k a0_0 a0_1 _ _ l0_2 a1_0 a1_1 _ _ l2 true _ ?side1 ?side2 ?side3 ?side4 A4.out).mono ?_); (case side1 => exact zk6); (case side2 => exact HC0_2.out); (case side3 => exact zk7); (case side4 => exact HC2.out); rintro e w11 ⟨rfl, hb⟩; have n0_ := Aside0.mk (blk_below (g := gb166) (o := .cells #[.int .i64 a0_0, .int .i64 a0_1, .slice A0_2 l0_2.length c0_2] 30 (0, 0)) zk2 hb); have n1_ := Aside0.mk (blk_below (g := gb167) (o := .cells #[.int .i64 a1_0, .int .i64 a1_1] 32 (0, 0)) zk3 hb); have n2_ := Aside0.mk (below_step zk1 hb); clear BK166; clear BK167; clear HB; have BK166 := n0_; have BK167 := n1_; have HB := n2_; clear n0_ n1_ n2_; (try clear hb); (try clear hb2); (try clear hk); (try clear hi); (try clear hna_); (try clear hnb_))) | (refine wp_region_quiet_lit (by kernel_rfl) (by kernel_rfl) ?_; (repeat (any_goals (first | go_big_quiet_step (first | (go_at_call 40; (with_reducible refine (spec_blWalk.calls k a0_0 a0_1 _ _ l0_2 a1_0 a1_1 _ _ l2 true _ ?side1 ?side2 ?side3 ?side4 A4.out).mono ?_); (case side1 => exact zk6); (case side2 => exact HC0_2.out); (case side3 => exact zk7); (case side4 => exact HC2.out); rintro e w11 ⟨rfl, hb⟩; have n0_ := Aside0.mk (blk_below (g := gb166) (o := .cells #[.int .i64 a0_0, .int .i64 a0_1, .slice A0_2 l0_2.length c0_2] 30 (0, 0)) zk2 hb); have n1_ := Aside0.mk (blk_below (g := gb167) (o := .cells #[.int .i64 a1_0, .int .i64 a1_1] 32 (0, 0)) zk3 hb); have n2_ := Aside0.mk (below_step zk1 hb); clear BK166; clear BK167; clear HB; have BK166 := n0_; have BK167 := n1_; have HB := n2_; clear n0_ n1_ n2_; (try clear hb); (try clear hb2); (try clear hk); (try clear hi); (try clear hna_); (try clear hnb_))) | quiet_step (first | (go_at_call 40; (with_reducible refine (spec_blWalk.calls k a0_0 a0_1 _ _ l0_2 a1_0 a1_1 _ _ l2 true _ ?side1 ?side2 ?side3 ?side4 A4.out).mono ?_); (case side1 => exact zk6); (case side2 => exact HC0_2.out); (case side3 => exact zk7); (case side4 => exact HC2.out); rintro e w11 ⟨rfl, hb⟩; have n0_ := Aside0.mk (blk_below (g := gb166) (o := .cells #[.int .i64 a0_0, .int .i64 a0_1, .slice A0_2 l0_2.length c0_2] 30 (0, 0)) zk2 hb); have n1_ := Aside0.mk (blk_below (g := gb167) (o := .cells #[.int .i64 a1_0, .int .i64 a1_1] 32 (0, 0)) zk3 hb); have n2_ := Aside0.mk (below_step zk1 hb); clear BK166; clear BK167; clear HB; have BK166 := n0_; have BK167 := n1_; have HB := n2_; clear n0_ n1_ n2_; (try clear hb); (try clear hb2); (try clear hk); (try clear hi); (try clear hna_); (try clear hnb_)))))); all_goals (refine wpQuiet_nil ?_; intro _ hw2_; obtain ⟨nq, hw3_⟩ := hw2_; subst hw3_))); try go_wp2_with (first | ((with_reducible refine gate_dst (N := 3) rfl ?_); refine box_event ?hg (N := 3) ?hd (cs := #[.int .i64 a0_0, .int .i64 a0_1, .slice A0_2 l0_2.length c0_2]) (t := 30) ?hr ?_; (case hd => rfl); (case hg => rfl); (case hr => first | (go_simp; done) | (go_simp; rfl)); intro gb166 hg w6 hbox hb; have n0_ := Aside0.mk (below_step zk8 hb); have n1_ := Aside0.mk (hbox); have n2_ := Aside0.mk ((zk17 : w.heap.size ≤ gb166)); have n3_ := Aside0.mk ((zk17 : w.heap.size ≤ gb166)); clear HB; have HB := n0_; have BK166 := n1_; have GW166 := n2_; have GE166 := n3_; clear n0_ n1_ n2_ n3_; clear hb hbox hg) | ((with_reducible refine gate_dst (N := 4) rfl ?_); refine box_event ?hg (N := 4) ?hd (cs := #[.int .i64 a1_0, .int .i64 a1_1]) (t := 32) ?hr ?_; (case hd => rfl); (case hg => rfl); (case hr => first | (go_simp; done) | (go_simp; rfl)); intro gb167 hg w7 hbox hb; have n0_ := Aside0.mk (blk_below (g := gb166) (o := .cells #[.int .i64 a0_0, .int .i64 a0_1, .slice A0_2 l0_2.length c0_2] 30 (0, 0)) zk2 hb); have n1_ := Aside0.mk (below_step zk5 hb); have n2_ := Aside0.mk (hbox); have n3_ := Aside0.mk ((zk18 : w.heap.size ≤ gb167)); have n4_ := Aside0.mk ((zk18 : w.heap.size ≤ gb167)); have n5_ := Aside0.mk ((zk15 : gb166 ≠ gb167)); have n6_ := Aside0.mk ((zk16 : gb167 ≠ gb166)); clear BK166; clear HB; have BK166 := n0_; have HB := n1_; have BK167 := n2_; have GW167 := n3_; have GE167 := n4_; have NB166_167 := n5_; have NB167_166 := n6_; clear n0_ n1_ n2_ n3_ n4_ n5_ n6_; clear hb hbox hg; have hnb8 := NB166_167.out; have hnc8 := NB167_166.out; have hcz9_0 : w7.cell? ⟨gb166, 0, none⟩ = some (.int .i64 a0_0) := (blk_cell BK166.out 0).trans rfl; have hcz9_1 : w7.cell? ⟨gb166, 1, none⟩ = some (.int .i64 a0_1) := (blk_cell BK166.out 1).trans rfl; have hcz9_2 : w7.cell? ⟨gb166, 2, none⟩ = some (.slice A0_2 l0_2.length c0_2) := (blk_cell BK166.out 2).trans rfl; have hfz9_0 := blk_frozen BK166.out 0; have hfz9_1 := blk_frozen BK166.out 1; have hfz9_2 := blk_frozen BK166.out 2; have hcz10_0 : w7.cell? ⟨gb167, 0, none⟩ = some (.int .i64 a1_0) := (blk_cell BK167.out 0).trans rfl; have hcz10_1 : w7.cell? ⟨gb167, 1, none⟩ = some (.int .i64 a1_1) := (blk_cell BK167.out 1).trans rfl; have hfz10_0 := blk_frozen BK167.out 0; have hfz10_1 := blk_frozen BK167.out 1) | (go_at_call 40; (with_reducible refine (spec_blWalk.calls k a0_0 a0_1 _ _ l0_2 a1_0 a1_1 _ _ l2 true _ ?side1 ?side2 ?side3 ?side4 A4.out).mono ?_); (case side1 => exact zk6); (case side2 => exact HC0_2.out); (case side3 => exact zk7); (case side4 => exact HC2.out); rintro e w11 ⟨rfl, hb⟩; have n0_ := Aside0.mk (blk_below (g := gb166) (o := .cells #[.int .i64 a0_0, .int .i64 a0_1, .slice A0_2 l0_2.length c0_2] 30 (0, 0)) zk2 hb); have n1_ := Aside0.mk (blk_below (g := gb167) (o := .cells #[.int .i64 a1_0, .int .i64 a1_1] 32 (0, 0)) zk3 hb); have n2_ := Aside0.mk (below_step zk1 hb); clear BK166; clear BK167; clear HB; have BK166 := n0_; have BK167 := n1_; have HB := n2_; clear n0_ n1_ n2_; (try clear hb); (try clear hb2); (try clear hk); (try clear hi); (try clear hna_); (try clear hnb_))))
 go_loopg [8, 9] k (fun kq v8 v9 w' => ∃ (x8_1 : List Int) (x9_1 : Int), v9 = .int .i64 x9_1 ∧ Aside0 (spec_StepsOfWalk.l0 kq l2 x8_1 x9_1 a0_0 a0_1 l0_2 a1_0 a1_1 = some (r1, r2)) ∧ Aside0 (kq ≤ k) ∧ Aside0 (Kd.R (Kd.int .i64) 3 w' w.heap.size (fun _ => True) v8 x8_1) ∧ Aside0 (w'.heap[gb166]? = some (.cells #[.int .i64 a0_0, .int .i64 a0_1, (.slice A0_2 l0_2.length c0_2)] 30 (0, 0))) ∧ Aside0 (w'.heap[gb167]? = some (.cells #[.int .i64 a1_0, .int .i64 a1_1] 32 (0, 0))) ∧ Aside0 (Below w.heap.size w w'))
 case atStart => exact ⟨(([] : List Int)), (1), zk13, H', ⟨Nat.le_refl _⟩, ⟨zk14⟩, ⟨zk2⟩, ⟨zk3⟩, ⟨zk1⟩⟩
 case round =>
  clear H'
  try clear c1; try clear c2; try clear p2; try clear c5; try clear c8; try clear hcz10_0; try clear hcz10_1; try clear hcz9_0; try clear hcz9_1; try clear hcz9_2; try clear hfz10_0; try clear hfz10_1; try clear hfz9_0; try clear hfz9_1; try clear hfz9_2
  obtain ⟨x8_1, x9_1, rfl, HA, HK1, HO_8, BK166, BK167, HB⟩ := hrel
  cases gk with
  | zero => exact absurd HA.out (by simp [spec_StepsOfWalk.l0])
  | succ k1 =>
   have H := HA.out
   clear HA
   simp only [spec_StepsOfWalk.l0] at H
   by_cases c12 : x9_1 < (l2.length : Int)
   rotate_left
   ·rw [if_neg c12] at H
    have c12b0 : decide (x9_1 < (l2.length : Int)) = false := decide_eq_false c12
    clear c12
    simp only [Option.some.injEq, Prod.mk.injEq] at H
    obtain ⟨rfl, rfl⟩ := H
    go_wp2
    repeat ((first | go_quiet (fail) | (refine wp_region_quiet_lit (by kernel_rfl) (by kernel_rfl) ?_; (repeat (any_goals (first | go_big_quiet_step (fail) | quiet_step (fail)))); all_goals (refine wpQuiet_nil ?_; intro _ hw2_; obtain ⟨nq, hw3_⟩ := hw2_; subst hw3_))); try go_wp2)
    go_ret2
    exact ⟨_, by first | rfl | (simp [errW_none, errW_some] <;> rfl) | (simp [*, errW_none, errW_some] <;> rfl), zk4, zk1⟩
   rw [if_pos c12] at H
   have c12b0 : decide (x9_1 < (l2.length : Int)) = true := decide_eq_true c12
   clear c12
   by_cases c13 : 0 ≤ x9_1
   rotate_left
   ·rw [if_neg c13] at H
    exact absurd H (by simp)
   rw [if_pos c13] at H
   have c13b0 : decide (0 ≤ x9_1) = true := decide_eq_true c13
   clear c13
   by_cases c14 : a0_0 = 0
   ·rw [if_pos c14] at H
    exact absurd H (by simp)
   rw [if_neg c14] at H
   have c14b0 : (a0_0 == 0) = false := beq_eq_false_iff_ne.mpr c14
   have c14b1 : (a0_0 != 0) = true := bne_iff_ne.mpr c14
   obtain ⟨ji15, hji15⟩ : ∃ j_ : Int, (wrap64 (x9_1 - 1)) = j_ := ⟨_, rfl⟩
   replace H : (if 0 ≤ (ji15) then (if (ji15) < (l2.length : Int) then ((spec_boSteps.f k1 a1_0 a1_1).bind fun t173 => (spec_StepsOfWalk.l1 k1 l2 x8_1 x9_1 (wrap64 ((Int.tmod (rd l2 x9_1) a0_0) - (Int.tmod (rd l2 (ji15)) a0_0))) (wrap64 ((wrap64 (Int.tdiv (rd l2 x9_1) a0_0)) - (wrap64 (Int.tdiv (rd l2 (ji15)) a0_0)))) t173 (t173.length : Int) 0 a0_0 a0_1 l0_2 a1_0 a1_1)) else (none)) else (none)) = some (r1, r2) := by first | (rw [hji15] at H; exact H) | (simp only [hji15] at H ⊢; exact H)
   have hji15w : (IntKind.i64.wrap (x9_1 - 1)) = ji15 := (i64_w _).trans hji15
   by_cases c16 : 0 ≤ (ji15)
   rotate_left
   ·rw [if_neg c16] at H
    exact absurd H (by simp)
   rw [if_pos c16] at H
   have c16b0 : decide (0 ≤ (ji15)) = true := decide_eq_true c16
   clear c16
   by_cases c17 : (ji15) < (l2.length : Int)
   rotate_left
   ·rw [if_neg c17] at H
    exact absurd H (by simp)
   rw [if_pos c17] at H
   have c17b0 : decide ((ji15) < (l2.length : Int)) = true := decide_eq_true c17
   clear c17
   replace H := Option.bind_eq_some_iff.mp H
   obtain ⟨t173, A180, H⟩ := H
   replace H : (spec_StepsOfWalk.l1 k1 l2 x8_1 x9_1 (wrap64 ((Int.tmod (rd l2 x9_1) a0_0) - (Int.tmod (rd l2 (ji15)) a0_0))) (wrap64 ((wrap64 (Int.tdiv (rd l2 x9_1) a0_0)) - (wrap64 (Int.tdiv (rd l2 (ji15)) a0_0)))) t173 (t173.length : Int) 0 a0_0 a0_1 l0_2 a1_0 a1_1) = some (r1, r2) := H
   have A18 := Aside0.mk A180
   clear A180
   have H' := Aside0.mk H
   clear H
   have p169 : 0 ≤ (x9_1 : Int) := of_decide_eq_true zk9
   have q169 : x9_1 < (l2.length : Int) := of_decide_eq_true zk9
   obtain ⟨ad169, e169, hx169_0⟩ := Kd.at_int HR2.out x9_1 p169 q169
   cases e169
   (first | replace hx169_0 := (HB.out.cell (World.block_lt_of_cell? w _ hx169_0)).trans hx169_0 | skip)
   replace p169 := eq_true p169
   replace q169 := eq_true q169
   have hnb19 := NB166_167.out
   have hnc19 := NB167_166.out
   have hcz20_0 : wr.cell? ⟨gb166, 0, none⟩ = some (.int .i64 a0_0) := (blk_cell BK166.out 0).trans rfl
   have hcz20_1 : wr.cell? ⟨gb166, 1, none⟩ = some (.int .i64 a0_1) := (blk_cell BK166.out 1).trans rfl
   have hcz20_2 : wr.cell? ⟨gb166, 2, none⟩ = some (.slice A0_2 l0_2.length c0_2) := (blk_cell BK166.out 2).trans rfl
   have hfz20_0 := blk_frozen BK166.out 0
   have hfz20_1 := blk_frozen BK166.out 1
   have hfz20_2 := blk_frozen BK166.out 2
   have p170 : 0 ≤ ((ji15) : Int) := of_decide_eq_true zk9
   have q170 : (ji15) < (l2.length : Int) := of_decide_eq_true zk9
   obtain ⟨ad170, e170, hx170_0⟩ := Kd.at_int HR2.out (ji15) p170 q170
   obtain rfl : ad169 = ad170 := (by injection e170)
   (first | replace hx170_0 := (HB.out.cell (World.block_lt_of_cell? w _ hx170_0)).trans hx170_0 | skip)
   replace p170 := eq_true p170
   replace q170 := eq_true q170
   have p171 : 0 ≤ (x9_1 : Int) := of_decide_eq_true zk9
   have q171 : x9_1 < (l2.length : Int) := of_decide_eq_true zk9
   obtain ⟨ad171, e171, hx171_0⟩ := Kd.at_int HR2.out x9_1 p171 q171
   obtain rfl : ad169 = ad171 := (by injection e171)
   (first | replace hx171_0 := (HB.out.cell (World.block_lt_of_cell? w _ hx171_0)).trans hx171_0 | skip)
   replace p171 := eq_true p171
   replace q171 := eq_true q171
   have p172 : 0 ≤ ((ji15) : Int) := of_decide_eq_true zk9
   have q172 : (ji15) < (l2.length : Int) := of_decide_eq_true zk9
   obtain ⟨ad172, e172, hx172_0⟩ := Kd.at_int HR2.out (ji15) p172 q172
   obtain rfl : ad169 = ad172 := (by injection e172)
   (first | replace hx172_0 := (HB.out.cell (World.block_lt_of_cell? w _ hx172_0)).trans hx172_0 | skip)
   replace p172 := eq_true p172
   replace q172 := eq_true q172
   have hcz21_0 : wr.cell? ⟨gb167, 0, none⟩ = some (.int .i64 a1_0) := (blk_cell BK167.out 0).trans rfl
   have hcz21_1 : wr.cell? ⟨gb167, 1, none⟩ = some (.int .i64 a1_1) := (blk_cell BK167.out 1).trans rfl
   have hfz21_0 := blk_frozen BK167.out 0
   have hfz21_1 := blk_frozen BK167.out 1
   go_wp2_with (first | (go_at_call 41; (with_reducible refine (spec_boSteps.calls k1 a1_0 a1_1 t173 _ A18.out).mono ?_); rintro e w22 ⟨v174, rfl, ho0, hb⟩; have n0_ := Aside0.mk (Kd.R_below zk4 hb); have n1_ := Aside0.mk (Kd.S_lower (Kd.S_new' ho0 (Kd.R_lt zk4)) (below_size zk1)); have n2_ := Aside0.mk (blk_below (g := gb166) (o := .cells #[.int .i64 a0_0, .int .i64 a0_1, .slice A0_2 l0_2.length c0_2] 30 (0, 0)) zk2 hb); have n3_ := Aside0.mk (blk_below (g := gb167) (o := .cells #[.int .i64 a1_0, .int .i64 a1_1] 32 (0, 0)) zk3 hb); have n4_ := Aside0.mk (below_step zk1 hb); clear HO_8; clear BK166; clear BK167; clear HB; have HO_8 := n0_; have HO175 := n1_; have BK166 := n2_; have BK167 := n3_; have HB := n4_; clear n0_ n1_ n2_ n3_ n4_; (try clear hb); (try clear hb2); (try clear hk); (try clear hi); (try clear ho0); (try clear hna_); (try clear hnb_); obtain ⟨Ao23, co23, eo23⟩ := Kd.S_slice HO175.out; subst eo23))
   repeat ((first | go_quiet (first | (go_at_call 41; (with_reducible refine (spec_boSteps.calls k1 a1_0 a1_1 t173 _ A18.out).mono ?_); rintro e w22 ⟨v174, rfl, ho0, hb⟩; have n0_ := Aside0.mk (Kd.R_below zk4 hb); have n1_ := Aside0.mk (Kd.S_lower (Kd.S_new' ho0 (Kd.R_lt zk4)) (below_size zk1)); have n2_ := Aside0.mk (blk_below (g := gb166) (o := .cells #[.int .i64 a0_0, .int .i64 a0_1, .slice A0_2 l0_2.length c0_2] 30 (0, 0)) zk2 hb); have n3_ := Aside0.mk (blk_below (g := gb167) (o := .cells #[.int .i64 a1_0, .int .i64 a1_1] 32 (0, 0)) zk3 hb); have n4_ := Aside0.mk (below_step zk1 hb); clear HO_8; clear BK166; clear BK167; clear HB; have HO_8 := n0_; have HO175 := n1_; have BK166 := n2_; have BK167 := n3_; have HB := n4_; clear n0_ n1_ n2_ n3_ n4_; (try clear hb); (try clear hb2); (try clear hk); (try clear hi); (try clear ho0); (try clear hna_); (try clear hnb_); obtain ⟨Ao23, co23, eo23⟩ := Kd.S_slice HO175.out; subst eo23)) | (refine wp_region_quiet_lit (by kernel_rfl) (by kernel_rfl) ?_; (repeat (any_goals (first | go_big_quiet_step (first | (go_at_call 41; (with_reducible refine (spec_boSteps.calls k1 a1_0 a1_1 t173 _ A18.out).mono ?_); rintro e w22 ⟨v174, rfl, ho0, hb⟩; have n0_ := Aside0.mk (Kd.R_below zk4 hb); have n1_ := Aside0.mk (Kd.S_lower (Kd.S_new' ho0 (Kd.R_lt zk4)) (below_size zk1)); have n2_ := Aside0.mk (blk_below (g := gb166) (o := .cells #[.int .i64 a0_0, .int .i64 a0_1, .slice A0_2 l0_2.length c0_2] 30 (0, 0)) zk2 hb); have n3_ := Aside0.mk (blk_below (g := gb167) (o := .cells #[.int .i64 a1_0, .int .i64 a1_1] 32 (0, 0)) zk3 hb); have n4_ := Aside0.mk (below_step zk1 hb); clear HO_8; clear BK166; clear BK167; clear HB; have HO_8 := n0_; have HO175 := n1_; have BK166 := n2_; have BK167 := n3_; have HB := n4_; clear n0_ n1_ n2_ n3_ n4_; (try clear hb); (try clear hb2); (try clear hk); (try clear hi); (try clear ho0); (try clear hna_); (try clear hnb_); obtain ⟨Ao23, co23, eo23⟩ := Kd.S_slice HO175.out; subst eo23)) | quiet_step (first | (go_at_call 41; (with_reducible refine (spec_boSteps.calls k1 a1_0 a1_1 t173 _ A18.out).mono ?_); rintro e w22 ⟨v174, rfl, ho0, hb⟩; have n0_ := Aside0.mk (Kd.R_below zk4 hb); have n1_ := Aside0.mk (Kd.S_lower (Kd.S_new' ho0 (Kd.R_lt zk4)) (below_size zk1)); have n2_ := Aside0.mk (blk_below (g := gb166) (o := .cells #[.int .i64 a0_0, .int .i64 a0_1, .slice A0_2 l0_2.length c0_2] 30 (0, 0)) zk2 hb); have n3_ := Aside0.mk (blk_below (g := gb167) (o := .cells #[.int .i64 a1_0, .int .i64 a1_1] 32 (0, 0)) zk3 hb); have n4_ := Aside0.mk (below_step zk1 hb); clear HO_8; clear BK166; clear BK167; clear HB; have HO_8 := n0_; have HO175 := n1_; have BK166 := n2_; have BK167 := n3_; have HB := n4_; clear n0_ n1_ n2_ n3_ n4_; (try clear hb); (try clear hb2); (try clear hk); (try clear hi); (try clear ho0); (try clear hna_); (try clear hnb_); obtain ⟨Ao23, co23, eo23⟩ := Kd.S_slice HO175.out; subst eo23))))); all_goals (refine wpQuiet_nil ?_; intro _ hw2_; obtain ⟨nq, hw3_⟩ := hw2_; subst hw3_))); try go_wp2_with (first | (go_at_call 41; (with_reducible refine (spec_boSteps.calls k1 a1_0 a1_1 t173 _ A18.out).mono ?_); rintro e w22 ⟨v174, rfl, ho0, hb⟩; have n0_ := Aside0.mk (Kd.R_below zk4 hb); have n1_ := Aside0.mk (Kd.S_lower (Kd.S_new' ho0 (Kd.R_lt zk4)) (below_size zk1)); have n2_ := Aside0.mk (blk_below (g := gb166) (o := .cells #[.int .i64 a0_0, .int .i64 a0_1, .slice A0_2 l0_2.length c0_2] 30 (0, 0)) zk2 hb); have n3_ := Aside0.mk (blk_below (g := gb167) (o := .cells #[.int .i64 a1_0, .int .i64 a1_1] 32 (0, 0)) zk3 hb); have n4_ := Aside0.mk (below_step zk1 hb); clear HO_8; clear BK166; clear BK167; clear HB; have HO_8 := n0_; have HO175 := n1_; have BK166 := n2_; have BK167 := n3_; have HB := n4_; clear n0_ n1_ n2_ n3_ n4_; (try clear hb); (try clear hb2); (try clear hk); (try clear hi); (try clear ho0); (try clear hna_); (try clear hnb_); obtain ⟨Ao23, co23, eo23⟩ := Kd.S_slice HO175.out; subst eo23)))
   go_loopg [8, 60] k1 (fun kq v8 v60 w' => ∃ (x8_2 : List Int) (x60_2 : Int), v60 = .int .i64 x60_2 ∧ Aside0 (spec_StepsOfWalk.l1 kq l2 x8_2 x9_1 (wrap64 ((Int.tmod (rd l2 x9_1) a0_0) - (Int.tmod (rd l2 (ji15)) a0_0))) (wrap64 ((wrap64 (Int.tdiv (rd l2 x9_1) a0_0)) - (wrap64 (Int.tdiv (rd l2 (ji15)) a0_0)))) t173 (t173.length : Int) x60_2 a0_0 a0_1 l0_2 a1_0 a1_1 = some (r1, r2)) ∧ Aside0 (kq ≤ k1) ∧ Aside0 (Kd.R (Kd.int .i64) 3 w' w.heap.size (fun _ => True) v8 x8_2) ∧ Aside0 (Kd.S (Kd.slice 3 (Kd.int .i64)) 22 w' w.heap.size (fun k_ => some k_ ≠ (v8 : Value).ownBlock) (.slice Ao23 t173.length co23) t173) ∧ Aside0 (w'.heap[gb166]? = some (.cells #[.int .i64 a0_0, .int .i64 a0_1, (.slice A0_2 l0_2.length c0_2)] 30 (0, 0))) ∧ Aside0 (w'.heap[gb167]? = some (.cells #[.int .i64 a1_0, .int .i64 a1_1] 32 (0, 0))) ∧ Aside0 (Below w.heap.size w w'))
   case atStart => exact ⟨(x8_1), (0), zk13, H', ⟨Nat.le_refl _⟩, ⟨zk4⟩, ⟨by (with_reducible repeat (first | apply Kd.S_alloc | apply Kd.S_drewN | apply Kd.S_drew)); exact Kd.S_mono HO175.out (fun _ hk => hk.2)⟩, ⟨zk2⟩, ⟨zk3⟩, ⟨zk1⟩⟩
   case round =>
    clear H'
    try clear c1; try clear p1; try clear q1; try clear hx1; try clear c2; try clear p2; try clear c5; try clear p6; try clear c8; try clear c12; try clear c12b0; try clear c13; try clear c13b0; try clear c14; try clear c14b0; try clear c14b1; try clear c16; try clear c16b0; try clear p16; try clear q16; try clear hx16; try clear c17; try clear c17b0; try clear p17; try clear q17; try clear hx17; try clear c19; try clear hcz10_0; try clear hcz10_1; try clear hcz20_0; try clear hcz20_1; try clear hcz20_2; try clear hcz21_0; try clear hcz21_1; try clear hcz9_0; try clear hcz9_1; try clear hcz9_2; try clear hfz10_0
    try clear hfz10_1; try clear hfz20_0; try clear hfz20_1; try clear hfz20_2; try clear hfz21_0; try clear hfz21_1; try clear hfz9_0; try clear hfz9_1; try clear hfz9_2; try clear hx169_0; try clear hx170_0; try clear hx171_0; try clear hx172_0; try clear p169; try clear p170; try clear p171; try clear p172; try clear p2; try clear q169; try clear q170; try clear q171; try clear q172
    obtain ⟨x8_2, x60_2, rfl, HA, HK2, HO_8, HO_58, BK166, BK167, HB⟩ := hrel
    cases gk with
    | zero => exact absurd HA.out (by simp [spec_StepsOfWalk.l1])
    | succ k2 =>
     have H := HA.out
     clear HA
     simp only [spec_StepsOfWalk.l1] at H
     by_cases c24 : x60_2 < (t173.length : Int)
     rotate_left
     ·rw [if_neg c24] at H
      have c24b0 : decide (x60_2 < (t173.length : Int)) = false := decide_eq_false c24
      clear c24
      have H' := Aside0.mk H
      clear H
      go_wp2
      repeat ((first | go_quiet (fail) | (refine wp_region_quiet_lit (by kernel_rfl) (by kernel_rfl) ?_; (repeat (any_goals (first | go_big_quiet_step (fail) | quiet_step (fail)))); all_goals (refine wpQuiet_nil ?_; intro _ hw2_; obtain ⟨nq, hw3_⟩ := hw2_; subst hw3_))); try go_wp2)
      go_roundg k2
      case measure => have := HK1.out; have := HK2.out; omega
      case rel => exact ⟨(x8_2), (wrap64 (x9_1 + 1)), zk13, H', ⟨by have := HK1.out; have := HK2.out; omega⟩, ⟨zk4⟩, ⟨zk2⟩, ⟨zk3⟩, ⟨zk1⟩⟩
     rw [if_pos c24] at H
     have c24b0 : decide (x60_2 < (t173.length : Int)) = true := decide_eq_true c24
     clear c24
     by_cases c25 : 0 ≤ x60_2
     rotate_left
     ·rw [if_neg c25] at H
      exact absurd H (by simp)
     rw [if_pos c25] at H
     have c25b0 : decide (0 ≤ x60_2) = true := decide_eq_true c25
     clear c25
     by_cases c26 : x60_2 < (t173.length : Int)
     rotate_left
     ·rw [if_neg c26] at H
      exact absurd H (by simp)
     rw [if_pos c26] at H
     have c26b0 : decide (x60_2 < (t173.length : Int)) = true := decide_eq_true c26
     clear c26
     by_cases c27 : 0 < ((rd_L1 t173 x60_2).length : Int)
     rotate_left
     ·rw [if_neg c27] at H
      exact absurd H (by simp)
     rw [if_pos c27] at H
     have c27b0 : decide (0 < ((rd_L1 t173 x60_2).length : Int)) = true := decide_eq_true c27
     have c27b1 : decide (0 < (rd_L1 t173 x60_2).length) = true := decide_eq_true (by omega)
     clear c27
     by_cases c28 : (rd (rd_L1 t173 x60_2) 0) = (wrap64 ((Int.tmod (rd l2 x9_1) a0_0) - (Int.tmod (rd l2 (ji15)) a0_0)))
     rotate_left
     ·rw [if_neg c28] at H
      have c28b0 : ((rd (rd_L1 t173 x60_2) 0) == (wrap64 ((Int.tmod (rd l2 x9_1) a0_0) - (Int.tmod (rd l2 (ji15)) a0_0)))) = false := beq_eq_false_iff_ne.mpr c28
      have c28b1 : ((rd (rd_L1 t173 x60_2) 0) != (wrap64 ((Int.tmod (rd l2 x9_1) a0_0) - (Int.tmod (rd l2 (ji15)) a0_0)))) = true := bne_iff_ne.mpr c28
      have H' := Aside0.mk H
      clear H
      have p176 : 0 ≤ (x60_2 : Int) := of_decide_eq_true zk9
      have q176 : x60_2 < (t173.length : Int) := of_decide_eq_true zk9
      obtain ⟨ad176, A176_0, c176_0, e176, hx176_0, hl176_0, hi176_0⟩ := at_L1 (Kd.S_reads' HO_58.out).2.2 x60_2 p176 q176
      cases e176
      obtain ⟨ce176, hce176, hMe176, hcc176⟩ := Kd.S_get HO_58.out [] x60_2 p176 zk19
      obtain ⟨ve176_0, rfl, ge176_0⟩ := hMe176
      have hv176_0 := hcc176 0 _ rfl
      rw [Nat.add_zero, show ((Kd.slice 3 (Kd.int .i64))).sz = 1 from rfl, Nat.mul_one] at hv176_0
      replace hv176_0 := Option.some.inj (hv176_0.symm.trans hx176_0)
      rw [hv176_0] at ge176_0
      have HL176_0 := Aside0.mk (show Kd.R (Kd.int .i64) 3 _ _ _ _ (rd_L1 t173 x60_2) from ge176_0)
      clear hv176_0 ge176_0
      clear hcc176 hce176
      have HR176_0 := Aside0.mk hi176_0
      have HC176_0 := Aside0.mk hl176_0
      clear hi176_0 hl176_0
      replace p176 := eq_true p176
      replace q176 := eq_true q176
      have p177 : 0 ≤ (0 : Int) := (by omega)
      have q177 : 0 < ((rd_L1 t173 x60_2).length : Int) := of_decide_eq_true zk9
      obtain ⟨ad177, e177, hx177_0⟩ := Kd.at_int zk10 0 p177 q177
      cases e177
      have qi177 : (0 < (rd_L1 t173 x60_2).length) = True := eq_true (by omega)
      (try rw [show ((0 : Int)).toNat = 0 from rfl] at hx177_0)
      (try rw [Addr.add_zero'] at hx177_0)
      replace p177 := eq_true p177
      replace q177 := eq_true q177
      go_wp2
      repeat ((first | go_quiet (fail) | (refine wp_region_quiet_lit (by kernel_rfl) (by kernel_rfl) ?_; (repeat (any_goals (first | go_big_quiet_step (fail) | quiet_step (fail)))); all_goals (refine wpQuiet_nil ?_; intro _ hw2_; obtain ⟨nq, hw3_⟩ := hw2_; subst hw3_))); try go_wp2)
      go_roundg k2
      case measure => have := HK1.out; have := HK2.out; omega
      case rel => exact ⟨(x8_2), (wrap64 (x60_2 + 1)), zk13, H', ⟨by have := HK1.out; have := HK2.out; omega⟩, ⟨zk4⟩, ⟨by first | exact HO_58.out | ((with_reducible repeat (first | apply Kd.S_alloc | apply Kd.S_drewN | apply Kd.S_drew)); exact HO_58.out)⟩, ⟨zk2⟩, ⟨zk3⟩, ⟨zk1⟩⟩
     rw [if_pos c28] at H
     have c28b0 : ((rd (rd_L1 t173 x60_2) 0) == (wrap64 ((Int.tmod (rd l2 x9_1) a0_0) - (Int.tmod (rd l2 (ji15)) a0_0)))) = true := beq_iff_eq.mpr c28
     have c28b1 : ((rd (rd_L1 t173 x60_2) 0) != (wrap64 ((Int.tmod (rd l2 x9_1) a0_0) - (Int.tmod (rd l2 (ji15)) a0_0)))) = false := bne_eq_false_iff_eq.mpr c28
     clear c28
     by_cases c29 : 1 < ((rd_L1 t173 x60_2).length : Int)
     rotate_left
     ·rw [if_neg c29] at H
      exact absurd H (by simp)
     rw [if_pos c29] at H
     have c29b0 : decide (1 < ((rd_L1 t173 x60_2).length : Int)) = true := decide_eq_true c29
     have c29b1 : decide (1 < (rd_L1 t173 x60_2).length) = true := decide_eq_true (by omega)
     clear c29
     by_cases c30 : (rd (rd_L1 t173 x60_2) 1) = (wrap64 ((wrap64 (Int.tdiv (rd l2 x9_1) a0_0)) - (wrap64 (Int.tdiv (rd l2 (ji15)) a0_0))))
     rotate_left
     ·rw [if_neg c30] at H
      have c30b0 : ((rd (rd_L1 t173 x60_2) 1) == (wrap64 ((wrap64 (Int.tdiv (rd l2 x9_1) a0_0)) - (wrap64 (Int.tdiv (rd l2 (ji15)) a0_0))))) = false := beq_eq_false_iff_ne.mpr c30
      have c30b1 : ((rd (rd_L1 t173 x60_2) 1) != (wrap64 ((wrap64 (Int.tdiv (rd l2 x9_1) a0_0)) - (wrap64 (Int.tdiv (rd l2 (ji15)) a0_0))))) = true := bne_iff_ne.mpr c30
      have H' := Aside0.mk H
      clear H
      have p176 : 0 ≤ (x60_2 : Int) := of_decide_eq_true zk9
      have q176 : x60_2 < (t173.length : Int) := of_decide_eq_true zk9
      obtain ⟨ad176, A176_0, c176_0, e176, hx176_0, hl176_0, hi176_0⟩ := at_L1 (Kd.S_reads' HO_58.out).2.2 x60_2 p176 q176
      cases e176
      obtain ⟨ce176, hce176, hMe176, hcc176⟩ := Kd.S_get HO_58.out [] x60_2 p176 zk19
      obtain ⟨ve176_0, rfl, ge176_0⟩ := hMe176
      have hv176_0 := hcc176 0 _ rfl
      rw [Nat.add_zero, show ((Kd.slice 3 (Kd.int .i64))).sz = 1 from rfl, Nat.mul_one] at hv176_0
      replace hv176_0 := Option.some.inj (hv176_0.symm.trans hx176_0)
      rw [hv176_0] at ge176_0
      have HL176_0 := Aside0.mk (show Kd.R (Kd.int .i64) 3 _ _ _ _ (rd_L1 t173 x60_2) from ge176_0)
      clear hv176_0 ge176_0
      clear hcc176 hce176
      have HR176_0 := Aside0.mk hi176_0
      have HC176_0 := Aside0.mk hl176_0
      clear hi176_0 hl176_0
      replace p176 := eq_true p176
      replace q176 := eq_true q176
      have p177 : 0 ≤ (0 : Int) := (by omega)
      have q177 : 0 < ((rd_L1 t173 x60_2).length : Int) := of_decide_eq_true zk9
      obtain ⟨ad177, e177, hx177_0⟩ := Kd.at_int zk10 0 p177 q177
      cases e177
      have qi177 : (0 < (rd_L1 t173 x60_2).length) = True := eq_true (by omega)
      (try rw [show ((0 : Int)).toNat = 0 from rfl] at hx177_0)
      (try rw [Addr.add_zero'] at hx177_0)
      replace p177 := eq_true p177
      replace q177 := eq_true q177
      have p178 : 0 ≤ (1 : Int) := (by omega)
      have q178 : 1 < ((rd_L1 t173 x60_2).length : Int) := of_decide_eq_true zk9
      obtain ⟨ad178, e178, hx178_0⟩ := Kd.at_int zk10 1 p178 q178
      obtain rfl : ad177 = ad178 := (by injection e178)
      (try simp only [show (1 : Int).toNat = 1 from rfl, Nat.reduceMul, Nat.reduceEqDiff, Go.Addr.add, ↓reduceIte] at hx178_0)
      have qi178 : (1 < (rd_L1 t173 x60_2).length) = True := eq_true (by omega)
      (try rw [show ((1 : Int)).toNat = 1 from rfl] at hx178_0)
      replace p178 := eq_true p178
      replace q178 := eq_true q178
      go_wp2
      repeat ((first | go_quiet (fail) | (refine wp_region_quiet_lit (by kernel_rfl) (by kernel_rfl) ?_; (repeat (any_goals (first | go_big_quiet_step (fail) | quiet_step (fail)))); all_goals (refine wpQuiet_nil ?_; intro _ hw2_; obtain ⟨nq, hw3_⟩ := hw2_; subst hw3_))); try go_wp2)
      go_roundg k2
      case measure => have := HK1.out; have := HK2.out; omega
      case rel => exact ⟨(x8_2), (wrap64 (x60_2 + 1)), zk13, H', ⟨by have := HK1.out; have := HK2.out; omega⟩, ⟨zk4⟩, ⟨by first | exact HO_58.out | ((with_reducible repeat (first | apply Kd.S_alloc | apply Kd.S_drewN | apply Kd.S_drew)); exact HO_58.out)⟩, ⟨zk2⟩, ⟨zk3⟩, ⟨zk1⟩⟩
     rw [if_pos c30] at H
     have c30b0 : ((rd (rd_L1 t173 x60_2) 1) == (wrap64 ((wrap64 (Int.tdiv (rd l2 x9_1) a0_0)) - (wrap64 (Int.tdiv (rd l2 (ji15)) a0_0))))) = true := beq_iff_eq.mpr c30
     have c30b1 : ((rd (rd_L1 t173 x60_2) 1) != (wrap64 ((wrap64 (Int.tdiv (rd l2 x9_1) a0_0)) - (wrap64 (Int.tdiv (rd l2 (ji15)) a0_0))))) = false := bne_eq_false_iff_eq.mpr c30
     clear c30
     by_cases c31 : x8_2.length < 17592186044416
     rotate_left
     ·rw [if_neg c31] at H
      exact absurd H (by simp)
     rw [if_pos c31] at H
     have LMc31 := Aside0.mk c31
     clear c31
     obtain ⟨y179, hy179⟩ : ∃ y_ : List Int, y_ = (x8_2 ++ [x60_2]) := ⟨_, rfl⟩
     replace H : (spec_StepsOfWalk.l1 k2 l2 y179 x9_1 (wrap64 ((Int.tmod (rd l2 x9_1) a0_0) - (Int.tmod (rd l2 (ji15)) a0_0))) (wrap64 ((wrap64 (Int.tdiv (rd l2 x9_1) a0_0)) - (wrap64 (Int.tdiv (rd l2 (ji15)) a0_0)))) t173 (t173.length : Int) (wrap64 (x60_2 + 1)) a0_0 a0_1 l0_2 a1_0 a1_1) = some (r1, r2) := by first | (rw [hy179]; with_reducible exact H) | (have H2_ := (Option.bind_some _ _).symm.trans H; rw [hy179]; with_reducible exact H2_) | (have H2_ := (Option.bind_some _ _).symm.trans H; with_reducible exact H2_) | with_reducible exact H | (rw [hy179]; exact H) | exact H
     have Ny179 := Aside0.mk hy179
     clear hy179
     have H' := Aside0.mk H
     clear H
     have p176 : 0 ≤ (x60_2 : Int) := of_decide_eq_true zk9
     have q176 : x60_2 < (t173.length : Int) := of_decide_eq_true zk9
     obtain ⟨ad176, A176_0, c176_0, e176, hx176_0, hl176_0, hi176_0⟩ := at_L1 (Kd.S_reads' HO_58.out).2.2 x60_2 p176 q176
     cases e176
     obtain ⟨ce176, hce176, hMe176, hcc176⟩ := Kd.S_get HO_58.out [] x60_2 p176 zk19
     obtain ⟨ve176_0, rfl, ge176_0⟩ := hMe176
     have hv176_0 := hcc176 0 _ rfl
     rw [Nat.add_zero, show ((Kd.slice 3 (Kd.int .i64))).sz = 1 from rfl, Nat.mul_one] at hv176_0
     replace hv176_0 := Option.some.inj (hv176_0.symm.trans hx176_0)
     rw [hv176_0] at ge176_0
     have HL176_0 := Aside0.mk (show Kd.R (Kd.int .i64) 3 _ _ _ _ (rd_L1 t173 x60_2) from ge176_0)
     clear hv176_0 ge176_0
     clear hcc176 hce176
     have HR176_0 := Aside0.mk hi176_0
     have HC176_0 := Aside0.mk hl176_0
     clear hi176_0 hl176_0
     replace p176 := eq_true p176
     replace q176 := eq_true q176
     have p177 : 0 ≤ (0 : Int) := (by omega)
     have q177 : 0 < ((rd_L1 t173 x60_2).length : Int) := of_decide_eq_true zk9
     obtain ⟨ad177, e177, hx177_0⟩ := Kd.at_int zk10 0 p177 q177
     cases e177
     have qi177 : (0 < (rd_L1 t173 x60_2).length) = True := eq_true (by omega)
     (try rw [show ((0 : Int)).toNat = 0 from rfl] at hx177_0)
     (try rw [Addr.add_zero'] at hx177_0)
     replace p177 := eq_true p177
     replace q177 := eq_true q177
     have p178 : 0 ≤ (1 : Int) := (by omega)
     have q178 : 1 < ((rd_L1 t173 x60_2).length : Int) := of_decide_eq_true zk9
     obtain ⟨ad178, e178, hx178_0⟩ := Kd.at_int zk10 1 p178 q178
     obtain rfl : ad177 = ad178 := (by injection e178)
     (try simp only [show (1 : Int).toNat = 1 from rfl, Nat.reduceMul, Nat.reduceEqDiff, Go.Addr.add, ↓reduceIte] at hx178_0)
     have qi178 : (1 < (rd_L1 t173 x60_2).length) = True := eq_true (by omega)
     (try rw [show ((1 : Int)).toNat = 1 from rfl] at hx178_0)
     replace p178 := eq_true p178
     replace q178 := eq_true q178
     go_wp2_with (first | ((with_reducible refine gate_builtin (b := .append) (xs := #[.tmp 77, .tmp 79]) rfl ?_); at_builtin; refine Kd.R_append (Kd.int .i64) (w0 := w) w.heap.size rfl (.tmp 77) (.tmp 79) 22 3 (.int .i64 0) 8 rfl Try.underlying22 info3 rfl (by decide) (by omega) u8 x8_2 x60_2 [.int .i64 x60_2] (fun _ => True) (fun _ => False) rfl rfl ?aP (fun _ hk => hk.elim) ?aF ?aO ?aB ?aS ?aL ?_; (case aP => exact rfl); (case aB => exact zk1); (case aF => exact (fun _ _ => trivial)); (case aO => exact zk4); (case aS => exact (below_size zk1)); (case aL => have := LMc31.out; omega); intro v180 w32 ho hb hg hat; rw [← Ny179.out] at ho; have n0_ := Aside0.mk (Kd.S_after (ok := (fun _ => True)) zk12 hg hat); have n1_ := Aside0.mk (blk_grown (g := gb166) (o := .cells #[.int .i64 a0_0, .int .i64 a0_1, .slice A0_2 l0_2.length c0_2] 30 (0, 0)) zk2 hg (Kd.R_ne HO_8.out BK166.out (by decide))); have n2_ := Aside0.mk (blk_grown (g := gb167) (o := .cells #[.int .i64 a1_0, .int .i64 a1_1] 32 (0, 0)) zk3 hg (Kd.R_ne HO_8.out BK167.out (by decide))); have n3_ := Aside0.mk (Kd.R_after (ok := (fun k_ => some k_ ≠ (.slice (some ad176) t173.length co23 : Value).ownBlock)) zk11 hg hat); have n4_ := Aside0.mk (hb); have n5_ := Aside0.mk (ho); clear HO_58; clear BK166; clear BK167; clear HL176_0; clear HB; clear HO_8; have HO_58 := n0_; have BK166 := n1_; have BK167 := n2_; have HL176_0 := n3_; have HB := n4_; have HO181 := n5_; clear n0_ n1_ n2_ n3_ n4_ n5_; clear ho hb hg hat))
     repeat ((first | go_quiet (first | ((with_reducible refine gate_builtin (b := .append) (xs := #[.tmp 77, .tmp 79]) rfl ?_); at_builtin; refine Kd.R_append (Kd.int .i64) (w0 := w) w.heap.size rfl (.tmp 77) (.tmp 79) 22 3 (.int .i64 0) 8 rfl Try.underlying22 info3 rfl (by decide) (by omega) u8 x8_2 x60_2 [.int .i64 x60_2] (fun _ => True) (fun _ => False) rfl rfl ?aP (fun _ hk => hk.elim) ?aF ?aO ?aB ?aS ?aL ?_; (case aP => exact rfl); (case aB => exact zk1); (case aF => exact (fun _ _ => trivial)); (case aO => exact zk4); (case aS => exact (below_size zk1)); (case aL => have := LMc31.out; omega); intro v180 w32 ho hb hg hat; rw [← Ny179.out] at ho; have n0_ := Aside0.mk (Kd.S_after (ok := (fun _ => True)) zk12 hg hat); have n1_ := Aside0.mk (blk_grown (g := gb166) (o := .cells #[.int .i64 a0_0, .int .i64 a0_1, .slice A0_2 l0_2.length c0_2] 30 (0, 0)) zk2 hg (Kd.R_ne HO_8.out BK166.out (by decide))); have n2_ := Aside0.mk (blk_grown (g := gb167) (o := .cells #[.int .i64 a1_0, .int .i64 a1_1] 32 (0, 0)) zk3 hg (Kd.R_ne HO_8.out BK167.out (by decide))); have n3_ := Aside0.mk (Kd.R_after (ok := (fun k_ => some k_ ≠ (.slice (some ad176) t173.length co23 : Value).ownBlock)) zk11 hg hat); have n4_ := Aside0.mk (hb); have n5_ := Aside0.mk (ho); clear HO_58; clear BK166; clear BK167; clear HL176_0; clear HB; clear HO_8; have HO_58 := n0_; have BK166 := n1_; have BK167 := n2_; have HL176_0 := n3_; have HB := n4_; have HO181 := n5_; clear n0_ n1_ n2_ n3_ n4_ n5_; clear ho hb hg hat)) | (refine wp_region_quiet_lit (by kernel_rfl) (by kernel_rfl) ?_; (repeat (any_goals (first | go_big_quiet_step (first | ((with_reducible refine gate_builtin (b := .append) (xs := #[.tmp 77, .tmp 79]) rfl ?_); at_builtin; refine Kd.R_append (Kd.int .i64) (w0 := w) w.heap.size rfl (.tmp 77) (.tmp 79) 22 3 (.int .i64 0) 8 rfl Try.underlying22 info3 rfl (by decide) (by omega) u8 x8_2 x60_2 [.int .i64 x60_2] (fun _ => True) (fun _ => False) rfl rfl ?aP (fun _ hk => hk.elim) ?aF ?aO ?aB ?aS ?aL ?_; (case aP => exact rfl); (case aB => exact zk1); (case aF => exact (fun _ _ => trivial)); (case aO => exact zk4); (case aS => exact (below_size zk1)); (case aL => have := LMc31.out; omega); intro v180 w32 ho hb hg hat; rw [← Ny179.out] at ho; have n0_ := Aside0.mk (Kd.S_after (ok := (fun _ => True)) zk12 hg hat); have n1_ := Aside0.mk (blk_grown (g := gb166) (o := .cells #[.int .i64 a0_0, .int .i64 a0_1, .slice A0_2 l0_2.length c0_2] 30 (0, 0)) zk2 hg (Kd.R_ne HO_8.out BK166.out (by decide))); have n2_ := Aside0.mk (blk_grown (g := gb167) (o := .cells #[.int .i64 a1_0, .int .i64 a1_1] 32 (0, 0)) zk3 hg (Kd.R_ne HO_8.out BK167.out (by decide))); have n3_ := Aside0.mk (Kd.R_after (ok := (fun k_ => some k_ ≠ (.slice (some ad176) t173.length co23 : Value).ownBlock)) zk11 hg hat); have n4_ := Aside0.mk (hb); have n5_ := Aside0.mk (ho); clear HO_58; clear BK166; clear BK167; clear HL176_0; clear HB; clear HO_8; have HO_58 := n0_; have BK166 := n1_; have BK167 := n2_; have HL176_0 := n3_; have HB := n4_; have HO181 := n5_; clear n0_ n1_ n2_ n3_ n4_ n5_; clear ho hb hg hat)) | quiet_step (first | ((with_reducible refine gate_builtin (b := .append) (xs := #[.tmp 77, .tmp 79]) rfl ?_); at_builtin; refine Kd.R_append (Kd.int .i64) (w0 := w) w.heap.size rfl (.tmp 77) (.tmp 79) 22 3 (.int .i64 0) 8 rfl Try.underlying22 info3 rfl (by decide) (by omega) u8 x8_2 x60_2 [.int .i64 x60_2] (fun _ => True) (fun _ => False) rfl rfl ?aP (fun _ hk => hk.elim) ?aF ?aO ?aB ?aS ?aL ?_; (case aP => exact rfl); (case aB => exact zk1); (case aF => exact (fun _ _ => trivial)); (case aO => exact zk4); (case aS => exact (below_size zk1)); (case aL => have := LMc31.out; omega); intro v180 w32 ho hb hg hat; rw [← Ny179.out] at ho; have n0_ := Aside0.mk (Kd.S_after (ok := (fun _ => True)) zk12 hg hat); have n1_ := Aside0.mk (blk_grown (g := gb166) (o := .cells #[.int .i64 a0_0, .int .i64 a0_1, .slice A0_2 l0_2.length c0_2] 30 (0, 0)) zk2 hg (Kd.R_ne HO_8.out BK166.out (by decide))); have n2_ := Aside0.mk (blk_grown (g := gb167) (o := .cells #[.int .i64 a1_0, .int .i64 a1_1] 32 (0, 0)) zk3 hg (Kd.R_ne HO_8.out BK167.out (by decide))); have n3_ := Aside0.mk (Kd.R_after (ok := (fun k_ => some k_ ≠ (.slice (some ad176) t173.length co23 : Value).ownBlock)) zk11 hg hat); have n4_ := Aside0.mk (hb); have n5_ := Aside0.mk (ho); clear HO_58; clear BK166; clear BK167; clear HL176_0; clear HB; clear HO_8; have HO_58 := n0_; have BK166 := n1_; have BK167 := n2_; have HL176_0 := n3_; have HB := n4_; have HO181 := n5_; clear n0_ n1_ n2_ n3_ n4_ n5_; clear ho hb hg hat))))); all_goals (refine wpQuiet_nil ?_; intro _ hw2_; obtain ⟨nq, hw3_⟩ := hw2_; subst hw3_))); try go_wp2_with (first | ((with_reducible refine gate_builtin (b := .append) (xs := #[.tmp 77, .tmp 79]) rfl ?_); at_builtin; refine Kd.R_append (Kd.int .i64) (w0 := w) w.heap.size rfl (.tmp 77) (.tmp 79) 22 3 (.int .i64 0) 8 rfl Try.underlying22 info3 rfl (by decide) (by omega) u8 x8_2 x60_2 [.int .i64 x60_2] (fun _ => True) (fun _ => False) rfl rfl ?aP (fun _ hk => hk.elim) ?aF ?aO ?aB ?aS ?aL ?_; (case aP => exact rfl); (case aB => exact zk1); (case aF => exact (fun _ _ => trivial)); (case aO => exact zk4); (case aS => exact (below_size zk1)); (case aL => have := LMc31.out; omega); intro v180 w32 ho hb hg hat; rw [← Ny179.out] at ho; have n0_ := Aside0.mk (Kd.S_after (ok := (fun _ => True)) zk12 hg hat); have n1_ := Aside0.mk (blk_grown (g := gb166) (o := .cells #[.int .i64 a0_0, .int .i64 a0_1, .slice A0_2 l0_2.length c0_2] 30 (0, 0)) zk2 hg (Kd.R_ne HO_8.out BK166.out (by decide))); have n2_ := Aside0.mk (blk_grown (g := gb167) (o := .cells #[.int .i64 a1_0, .int .i64 a1_1] 32 (0, 0)) zk3 hg (Kd.R_ne HO_8.out BK167.out (by decide))); have n3_ := Aside0.mk (Kd.R_after (ok := (fun k_ => some k_ ≠ (.slice (some ad176) t173.length co23 : Value).ownBlock)) zk11 hg hat); have n4_ := Aside0.mk (hb); have n5_ := Aside0.mk (ho); clear HO_58; clear BK166; clear BK167; clear HL176_0; clear HB; clear HO_8; have HO_58 := n0_; have BK166 := n1_; have BK167 := n2_; have HL176_0 := n3_; have HB := n4_; have HO181 := n5_; clear n0_ n1_ n2_ n3_ n4_ n5_; clear ho hb hg hat)))
     go_roundg k2
     case measure => have := HK1.out; have := HK2.out; omega
     case rel => exact ⟨(y179), (wrap64 (x60_2 + 1)), zk13, H', ⟨by have := HK1.out; have := HK2.out; omega⟩, ⟨by first | exact HO181.out | ((with_reducible repeat (first | apply Kd.R_alloc | apply Kd.R_drewN | apply Kd.R_drew)); exact HO181.out)⟩, ⟨by (with_reducible repeat (first | apply Kd.S_alloc | apply Kd.S_drewN | apply Kd.S_drew)); exact Kd.S_mono HO_58.out (fun _ hk => hk.2)⟩, ⟨zk2⟩, ⟨zk3⟩, ⟨zk1⟩⟩

end Go.Proofs.Ytbecdckdbeoomaa.Q

/- Written by a program of this session: functions of the translation as plain Lean functions, each with a proof that the call does what the plain function says; the conditions stand in each theorem. -/
import Derived.Test.YtekajjhjjnfdpaaQ0
import Derived.Test.YtekajjhjjnfdpaaQ5
import Derived.Test.YtekajjhjjnfdpaaQ42
import Derived.Test.YtekajjhjjnfdpaaQ43
import Derived.Test.YtekajjhjjnfdpaaHSort
namespace Go.Proofs.Ytekajjhjjnfdpaa.Q
open Go.RowKit Go.Proofs.YtekajjhjjnfdpaaW.PrintWords Go.Proofs.YtekajjhjjnfdpaaW.PrintLast Go.Proofs.YtekajjhjjnfdpaaW.PrintMore
attribute [local go_sem] max2_int min2_int max_two min_two max_three min_three max_four min_four   -- for this text's walks alone
set_option linter.unusedVariables false
set_option linter.unusedSimpArgs false

/-! ### impl_nearAround: function 79 -/
def impl_nearAround.f (k : Nat) (a0_0 : Int) (a0_1 : Int) (a0_2 : Bool) (a0_3 : Bool) (a1_0 : Int) (a1_1 : Int) : Option ((List (List Int)) × Bool) := (impl_IsAround.f a0_0 a0_1 a0_2 a0_3).bind fun t1116 => (if t1116 = true then ((impl_IsLeaper.f a1_0 a1_1).bind fun t1117 => (if t1117 = true then ((impl_Around_near.f k a0_0 a0_1 a0_2 a0_3 a1_0 a1_1).bind fun t1118 => (some (t1118, true))) else (some (([] : List (List Int)), false)))) else (some (([] : List (List Int)), false)))
set_option maxHeartbeats 8000000 in
set_option maxRecDepth 100000 in
theorem impl_nearAround.calls (k : Nat) (a0_0 : Int) (a0_1 : Int) (a0_2 : Bool) (a0_3 : Bool) (a1_0 : Int) (a1_1 : Int) (r1 : List (List Int)) (r2 : Bool) (w : World) (h : impl_nearAround.f k a0_0 a0_1 a0_2 a0_3 a1_0 a1_1 = some (r1, r2)) :
  Calls Try.prog 79 #[.agg #[.int .i64 a0_0, .int .i64 a0_1, .bool a0_2, .bool a0_3], .agg #[.int .i64 a1_0, .int .i64 a1_1]] w fun e w' => ∃ v0_ : Value, e = .returned (.tuple #[v0_, .bool r2]) ∧ Kd.S (Kd.slice 3 (Kd.int .i64)) 22 w' w.heap.size (fun _ => True) v0_ r1 ∧ Below w.heap.size w w' := by
 have hu51 := Try.underlying51
 have hu32 := Try.underlying32
 have HB := Aside0.mk (Below.refl w.heap.size w)
 have H : ((impl_IsAround.f a0_0 a0_1 a0_2 a0_3).bind fun t1116 => (if t1116 = true then ((impl_IsLeaper.f a1_0 a1_1).bind fun t1117 => (if t1117 = true then ((impl_Around_near.f k a0_0 a0_1 a0_2 a0_3 a1_0 a1_1).bind fun t1118 => (some (t1118, true))) else (some (([] : List (List Int)), false)))) else (some (([] : List (List Int)), false)))) = some (r1, r2) := h
 clear h
 replace H := Option.bind_eq_some_iff.mp H
 obtain ⟨t1116, A30, H⟩ := H
 replace H : (if t1116 = true then ((impl_IsLeaper.f a1_0 a1_1).bind fun t1117 => (if t1117 = true then ((impl_Around_near.f k a0_0 a0_1 a0_2 a0_3 a1_0 a1_1).bind fun t1118 => (some (t1118, true))) else (some (([] : List (List Int)), false)))) else (some (([] : List (List Int)), false))) = some (r1, r2) := H
 have A3 := Aside0.mk A30
 clear A30
 by_cases c4 : t1116 = true
 ·subst c4
  have H1 : ((impl_IsLeaper.f a1_0 a1_1).bind fun t1117 => (if t1117 = true then ((impl_Around_near.f k a0_0 a0_1 a0_2 a0_3 a1_0 a1_1).bind fun t1118 => (some (t1118, true))) else (some (([] : List (List Int)), false)))) = some (r1, r2) := by rw [if_pos rfl] at H; exact H
  clear H
  have H := H1
  clear H1
  replace H := Option.bind_eq_some_iff.mp H
  obtain ⟨t1117, A50, H⟩ := H
  replace H : (if t1117 = true then ((impl_Around_near.f k a0_0 a0_1 a0_2 a0_3 a1_0 a1_1).bind fun t1118 => (some (t1118, true))) else (some (([] : List (List Int)), false))) = some (r1, r2) := H
  have A5 := Aside0.mk A50
  clear A50
  by_cases c6 : t1117 = true
  ·subst c6
   have H1 : ((impl_Around_near.f k a0_0 a0_1 a0_2 a0_3 a1_0 a1_1).bind fun t1118 => (some (t1118, true))) = some (r1, r2) := by rw [if_pos rfl] at H; exact H
   clear H
   have H := H1
   clear H1
   replace H := Option.bind_eq_some_iff.mp H
   obtain ⟨t1118, A70, H⟩ := H
   replace H : (some (t1118, true)) = some (r1, r2) := H
   have A7 := Aside0.mk A70
   clear A70
   simp only [Option.some.injEq, Prod.mk.injEq] at H
   obtain ⟨rfl, rfl⟩ := H
   go_enter Try.func79, Try.ntmps79
   go_wp2_with (first | ((with_reducible refine gate_dst (N := 2) rfl ?_); refine box_event ?hg (N := 2) ?hd (cs := #[.int .i64 a0_0, .int .i64 a0_1, .bool a0_2, .bool a0_3]) (t := 51) ?hr ?_; (case hd => rfl); (case hg => rfl); (case hr => first | (go_simp; done) | (go_simp; rfl)); intro gb1114 hg w8 hbox hb; have n0_ := Aside0.mk (below_step (by repeat (first | (with_reducible first | exact HB.out | apply below_alloc | apply pw_below_drewN | apply below_drew1) | exact HB.out)) hb); have n1_ := Aside0.mk (hbox); have n2_ := Aside0.mk ((by rw [hg]; exact (below_size (by repeat (first | (with_reducible first | exact HB.out | apply below_alloc | apply pw_below_drewN | apply below_drew1) | exact HB.out))) : w.heap.size ≤ gb1114)); have n3_ := Aside0.mk ((by rw [hg]; exact (below_size (by repeat (first | (with_reducible first | exact HB.out | apply below_alloc | apply pw_below_drewN | apply below_drew1) | exact HB.out))) : w.heap.size ≤ gb1114)); clear HB; have HB := n0_; have BK1114 := n1_; have GW1114 := n2_; have GE1114 := n3_; clear n0_ n1_ n2_ n3_; clear hb hbox hg) | ((with_reducible refine gate_dst (N := 3) rfl ?_); refine box_event ?hg (N := 3) ?hd (cs := #[.int .i64 a1_0, .int .i64 a1_1]) (t := 32) ?hr ?_; (case hd => rfl); (case hg => rfl); (case hr => first | (go_simp; done) | (go_simp; rfl)); intro gb1115 hg w9 hbox hb; have n0_ := Aside0.mk (blk_below (g := gb1114) (o := .cells #[.int .i64 a0_0, .int .i64 a0_1, .bool a0_2, .bool a0_3] 51 (0, 0)) (by (with_reducible repeat (first | refine blk_drewN ?_ _ | refine blk_drew ?_ | refine blk_alloc ?_ _)); exact BK1114.out) hb); have n1_ := Aside0.mk (below_step (by repeat (first | (with_reducible first | exact HB.out | apply below_alloc | apply pw_below_drewN | apply below_drew1 | refine below_set ?_ GE1114.out) | exact HB.out)) hb); have n2_ := Aside0.mk (hbox); have n3_ := Aside0.mk ((by rw [hg]; exact (below_size (by repeat (first | (with_reducible first | exact HB.out | apply below_alloc | apply pw_below_drewN | apply below_drew1 | refine below_set ?_ GE1114.out) | exact HB.out))) : w.heap.size ≤ gb1115)); have n4_ := Aside0.mk ((by rw [hg]; exact (below_size (by repeat (first | (with_reducible first | exact HB.out | apply below_alloc | apply pw_below_drewN | apply below_drew1 | refine below_set ?_ GE1114.out) | exact HB.out))) : w.heap.size ≤ gb1115)); have n5_ := Aside0.mk ((by rw [hg]; exact Nat.ne_of_lt (blk_lt (g := gb1114) (o := .cells #[.int .i64 a0_0, .int .i64 a0_1, .bool a0_2, .bool a0_3] 51 (0, 0)) (by (with_reducible repeat (first | refine blk_drewN ?_ _ | refine blk_drew ?_ | refine blk_alloc ?_ _)); exact BK1114.out)) : gb1114 ≠ gb1115)); have n6_ := Aside0.mk ((by rw [hg]; exact Nat.ne_of_gt (blk_lt (g := gb1114) (o := .cells #[.int .i64 a0_0, .int .i64 a0_1, .bool a0_2, .bool a0_3] 51 (0, 0)) (by (with_reducible repeat (first | refine blk_drewN ?_ _ | refine blk_drew ?_ | refine blk_alloc ?_ _)); exact BK1114.out)) : gb1115 ≠ gb1114)); clear BK1114; clear HB; have BK1114 := n0_; have HB := n1_; have BK1115 := n2_; have GW1115 := n3_; have GE1115 := n4_; have NB1114_1115 := n5_; have NB1115_1114 := n6_; clear n0_ n1_ n2_ n3_ n4_ n5_ n6_; clear hb hbox hg; have hnb10 := NB1114_1115.out; have hnc10 := NB1115_1114.out; have hcz11_0 : w9.cell? ⟨gb1114, 0, none⟩ = some (.int .i64 a0_0) := (blk_cell BK1114.out 0).trans rfl; have hcz11_1 : w9.cell? ⟨gb1114, 1, none⟩ = some (.int .i64 a0_1) := (blk_cell BK1114.out 1).trans rfl; have hcz11_2 : w9.cell? ⟨gb1114, 2, none⟩ = some (.bool a0_2) := (blk_cell BK1114.out 2).trans rfl; have hcz11_3 : w9.cell? ⟨gb1114, 3, none⟩ = some (.bool a0_3) := (blk_cell BK1114.out 3).trans rfl; have hfz11_0 := blk_frozen BK1114.out 0; have hfz11_1 := blk_frozen BK1114.out 1; have hfz11_2 := blk_frozen BK1114.out 2; have hfz11_3 := blk_frozen BK1114.out 3) | ((with_reducible refine gate_callee (f := 110) rfl ?_); refine goesL_ (some 7) rfl rfl Try.func110 (by kernel_rfl) rfl #[.agg #[.int .i64 a0_0, .int .i64 a0_1, .bool a0_2, .bool a0_3]] rfl (by (try simp only [List.map_toArray, List.map_cons, List.map_nil]); first | done | rfl | (simp only [List.length_drop, List.length_take]; rfl)) ?_; (with_reducible refine (impl_IsAround.calls a0_0 a0_1 a0_2 a0_3 true _ A3.out).mono ?_); rintro e w12 ⟨rfl, hb⟩; refine ⟨_, rfl, ?_⟩; have n0_ := Aside0.mk (blk_below (g := gb1114) (o := .cells #[.int .i64 a0_0, .int .i64 a0_1, .bool a0_2, .bool a0_3] 51 (0, 0)) (by (with_reducible repeat (first | refine blk_drewN ?_ _ | refine blk_drew ?_ | refine blk_alloc ?_ _)); exact BK1114.out) hb); have n1_ := Aside0.mk (blk_below (g := gb1115) (o := .cells #[.int .i64 a1_0, .int .i64 a1_1] 32 (0, 0)) (by (with_reducible repeat (first | refine blk_drewN ?_ _ | refine blk_drew ?_ | refine blk_alloc ?_ _)); exact BK1115.out) hb); have n2_ := Aside0.mk (below_step (by repeat (first | (with_reducible first | exact HB.out | apply below_alloc | apply pw_below_drewN | apply below_drew1 | refine below_set ?_ GE1114.out | refine below_set ?_ GE1115.out) | exact HB.out)) hb); clear BK1114; clear BK1115; clear HB; have BK1114 := n0_; have BK1115 := n1_; have HB := n2_; clear n0_ n1_ n2_; (try clear hb); (try clear hb2); (try clear hk); (try clear hi); (try clear hna_); (try clear hnb_); have hcz13_0 : w12.cell? ⟨gb1115, 0, none⟩ = some (.int .i64 a1_0) := (blk_cell BK1115.out 0).trans rfl; have hcz13_1 : w12.cell? ⟨gb1115, 1, none⟩ = some (.int .i64 a1_1) := (blk_cell BK1115.out 1).trans rfl; have hfz13_0 := blk_frozen BK1115.out 0; have hfz13_1 := blk_frozen BK1115.out 1) | (go_at_call 95; (with_reducible refine (impl_IsLeaper.calls a1_0 a1_1 true _ A5.out).mono ?_); rintro e w14 ⟨rfl, hb⟩; have n0_ := Aside0.mk (blk_below (g := gb1114) (o := .cells #[.int .i64 a0_0, .int .i64 a0_1, .bool a0_2, .bool a0_3] 51 (0, 0)) (by (with_reducible repeat (first | refine blk_drewN ?_ _ | refine blk_drew ?_ | refine blk_alloc ?_ _)); exact BK1114.out) hb); have n1_ := Aside0.mk (blk_below (g := gb1115) (o := .cells #[.int .i64 a1_0, .int .i64 a1_1] 32 (0, 0)) (by (with_reducible repeat (first | refine blk_drewN ?_ _ | refine blk_drew ?_ | refine blk_alloc ?_ _)); exact BK1115.out) hb); have n2_ := Aside0.mk (below_step (by repeat (first | (with_reducible first | exact HB.out | apply below_alloc | apply pw_below_drewN | apply below_drew1 | refine below_set ?_ GE1114.out | refine below_set ?_ GE1115.out) | exact HB.out)) hb); clear BK1114; clear BK1115; clear HB; have BK1114 := n0_; have BK1115 := n1_; have HB := n2_; clear n0_ n1_ n2_; (try clear hb); (try clear hb2); (try clear hk); (try clear hi); (try clear hna_); (try clear hnb_); have hcz15_0 : w14.cell? ⟨gb1114, 0, none⟩ = some (.int .i64 a0_0) := (blk_cell BK1114.out 0).trans rfl; have hcz15_1 : w14.cell? ⟨gb1114, 1, none⟩ = some (.int .i64 a0_1) := (blk_cell BK1114.out 1).trans rfl; have hcz15_2 : w14.cell? ⟨gb1114, 2, none⟩ = some (.bool a0_2) := (blk_cell BK1114.out 2).trans rfl; have hcz15_3 : w14.cell? ⟨gb1114, 3, none⟩ = some (.bool a0_3) := (blk_cell BK1114.out 3).trans rfl; have hfz15_0 := blk_frozen BK1114.out 0; have hfz15_1 := blk_frozen BK1114.out 1; have hfz15_2 := blk_frozen BK1114.out 2; have hfz15_3 := blk_frozen BK1114.out 3; have hcz16_0 : w14.cell? ⟨gb1115, 0, none⟩ = some (.int .i64 a1_0) := (blk_cell BK1115.out 0).trans rfl; have hcz16_1 : w14.cell? ⟨gb1115, 1, none⟩ = some (.int .i64 a1_1) := (blk_cell BK1115.out 1).trans rfl; have hfz16_0 := blk_frozen BK1115.out 0; have hfz16_1 := blk_frozen BK1115.out 1) | ((with_reducible refine gate_callee (f := 111) rfl ?_); refine goesL_ (some 16) rfl rfl Try.func111 (by kernel_rfl) rfl #[.agg #[.int .i64 a0_0, .int .i64 a0_1, .bool a0_2, .bool a0_3], .agg #[.int .i64 a1_0, .int .i64 a1_1]] rfl (by (try simp only [List.map_toArray, List.map_cons, List.map_nil]); first | done | rfl | (simp only [List.length_drop, List.length_take]; rfl)) ?_; (with_reducible refine (impl_Around_near.calls k a0_0 a0_1 a0_2 a0_3 a1_0 a1_1 t1118 _ A7.out).mono ?_); rintro e w17 ⟨v1119, rfl, ho0, hb⟩; refine ⟨_, rfl, ?_⟩; have n0_ := Aside0.mk (Kd.S_lower ho0 (below_size (by repeat (first | (with_reducible first | exact HB.out | apply below_alloc | apply pw_below_drewN | apply below_drew1 | refine below_set ?_ GE1114.out | refine below_set ?_ GE1115.out) | exact HB.out)))); have n1_ := Aside0.mk (blk_below (g := gb1114) (o := .cells #[.int .i64 a0_0, .int .i64 a0_1, .bool a0_2, .bool a0_3] 51 (0, 0)) (by (with_reducible repeat (first | refine blk_drewN ?_ _ | refine blk_drew ?_ | refine blk_alloc ?_ _)); exact BK1114.out) hb); have n2_ := Aside0.mk (blk_below (g := gb1115) (o := .cells #[.int .i64 a1_0, .int .i64 a1_1] 32 (0, 0)) (by (with_reducible repeat (first | refine blk_drewN ?_ _ | refine blk_drew ?_ | refine blk_alloc ?_ _)); exact BK1115.out) hb); have n3_ := Aside0.mk (below_step (by repeat (first | (with_reducible first | exact HB.out | apply below_alloc | apply pw_below_drewN | apply below_drew1 | refine below_set ?_ GE1114.out | refine below_set ?_ GE1115.out) | exact HB.out)) hb); clear BK1114; clear BK1115; clear HB; have HO1120 := n0_; have BK1114 := n1_; have BK1115 := n2_; have HB := n3_; clear n0_ n1_ n2_ n3_; (try clear hb); (try clear hb2); (try clear hk); (try clear hi); (try clear ho0); (try clear hna_); (try clear hnb_)))
   go_ret2
   exact ⟨_, by first | rfl | (simp [errW_none, errW_some] <;> rfl) | (simp [*, errW_none, errW_some] <;> rfl), by (with_reducible repeat (first | apply Kd.S_alloc | apply Kd.S_drewN | apply Kd.S_drew)); exact HO1120.out, by repeat (first | (with_reducible first | exact HB.out | apply below_alloc | apply pw_below_drewN | apply below_drew1 | refine below_set ?_ GE1114.out | refine below_set ?_ GE1115.out) | exact HB.out)⟩
  ·replace c6 := Bool.eq_false_iff.mpr c6
   subst c6
   have H1 : (some (([] : List (List Int)), false)) = some (r1, r2) := by rw [if_neg (show ¬ (false = true) by decide)] at H; exact H
   clear H
   have H := H1
   clear H1
   simp only [Option.some.injEq, Prod.mk.injEq] at H
   obtain ⟨rfl, rfl⟩ := H
   go_enter Try.func79, Try.ntmps79
   go_wp2_with (first | ((with_reducible refine gate_dst (N := 2) rfl ?_); refine box_event ?hg (N := 2) ?hd (cs := #[.int .i64 a0_0, .int .i64 a0_1, .bool a0_2, .bool a0_3]) (t := 51) ?hr ?_; (case hd => rfl); (case hg => rfl); (case hr => first | (go_simp; done) | (go_simp; rfl)); intro gb1114 hg w18 hbox hb; have n0_ := Aside0.mk (below_step (by repeat (first | (with_reducible first | exact HB.out | apply below_alloc | apply pw_below_drewN | apply below_drew1) | exact HB.out)) hb); have n1_ := Aside0.mk (hbox); have n2_ := Aside0.mk ((by rw [hg]; exact (below_size (by repeat (first | (with_reducible first | exact HB.out | apply below_alloc | apply pw_below_drewN | apply below_drew1) | exact HB.out))) : w.heap.size ≤ gb1114)); have n3_ := Aside0.mk ((by rw [hg]; exact (below_size (by repeat (first | (with_reducible first | exact HB.out | apply below_alloc | apply pw_below_drewN | apply below_drew1) | exact HB.out))) : w.heap.size ≤ gb1114)); clear HB; have HB := n0_; have BK1114 := n1_; have GW1114 := n2_; have GE1114 := n3_; clear n0_ n1_ n2_ n3_; clear hb hbox hg) | ((with_reducible refine gate_dst (N := 3) rfl ?_); refine box_event ?hg (N := 3) ?hd (cs := #[.int .i64 a1_0, .int .i64 a1_1]) (t := 32) ?hr ?_; (case hd => rfl); (case hg => rfl); (case hr => first | (go_simp; done) | (go_simp; rfl)); intro gb1115 hg w19 hbox hb; have n0_ := Aside0.mk (blk_below (g := gb1114) (o := .cells #[.int .i64 a0_0, .int .i64 a0_1, .bool a0_2, .bool a0_3] 51 (0, 0)) (by (with_reducible repeat (first | refine blk_drewN ?_ _ | refine blk_drew ?_ | refine blk_alloc ?_ _)); exact BK1114.out) hb); have n1_ := Aside0.mk (below_step (by repeat (first | (with_reducible first | exact HB.out | apply below_alloc | apply pw_below_drewN | apply below_drew1 | refine below_set ?_ GE1114.out) | exact HB.out)) hb); have n2_ := Aside0.mk (hbox); have n3_ := Aside0.mk ((by rw [hg]; exact (below_size (by repeat (first | (with_reducible first | exact HB.out | apply below_alloc | apply pw_below_drewN | apply below_drew1 | refine below_set ?_ GE1114.out) | exact HB.out))) : w.heap.size ≤ gb1115)); have n4_ := Aside0.mk ((by rw [hg]; exact (below_size (by repeat (first | (with_reducible first | exact HB.out | apply below_alloc | apply pw_below_drewN | apply below_drew1 | refine below_set ?_ GE1114.out) | exact HB.out))) : w.heap.size ≤ gb1115)); have n5_ := Aside0.mk ((by rw [hg]; exact Nat.ne_of_lt (blk_lt (g := gb1114) (o := .cells #[.int .i64 a0_0, .int .i64 a0_1, .bool a0_2, .bool a0_3] 51 (0, 0)) (by (with_reducible repeat (first | refine blk_drewN ?_ _ | refine blk_drew ?_ | refine blk_alloc ?_ _)); exact BK1114.out)) : gb1114 ≠ gb1115)); have n6_ := Aside0.mk ((by rw [hg]; exact Nat.ne_of_gt (blk_lt (g := gb1114) (o := .cells #[.int .i64 a0_0, .int .i64 a0_1, .bool a0_2, .bool a0_3] 51 (0, 0)) (by (with_reducible repeat (first | refine blk_drewN ?_ _ | refine blk_drew ?_ | refine blk_alloc ?_ _)); exact BK1114.out)) : gb1115 ≠ gb1114)); clear BK1114; clear HB; have BK1114 := n0_; have HB := n1_; have BK1115 := n2_; have GW1115 := n3_; have GE1115 := n4_; have NB1114_1115 := n5_; have NB1115_1114 := n6_; clear n0_ n1_ n2_ n3_ n4_ n5_ n6_; clear hb hbox hg; have hnb20 := NB1114_1115.out; have hnc20 := NB1115_1114.out; have hcz21_0 : w19.cell? ⟨gb1114, 0, none⟩ = some (.int .i64 a0_0) := (blk_cell BK1114.out 0).trans rfl; have hcz21_1 : w19.cell? ⟨gb1114, 1, none⟩ = some (.int .i64 a0_1) := (blk_cell BK1114.out 1).trans rfl; have hcz21_2 : w19.cell? ⟨gb1114, 2, none⟩ = some (.bool a0_2) := (blk_cell BK1114.out 2).trans rfl; have hcz21_3 : w19.cell? ⟨gb1114, 3, none⟩ = some (.bool a0_3) := (blk_cell BK1114.out 3).trans rfl; have hfz21_0 := blk_frozen BK1114.out 0; have hfz21_1 := blk_frozen BK1114.out 1; have hfz21_2 := blk_frozen BK1114.out 2; have hfz21_3 := blk_frozen BK1114.out 3) | ((with_reducible refine gate_callee (f := 110) rfl ?_); refine goesL_ (some 7) rfl rfl Try.func110 (by kernel_rfl) rfl #[.agg #[.int .i64 a0_0, .int .i64 a0_1, .bool a0_2, .bool a0_3]] rfl (by (try simp only [List.map_toArray, List.map_cons, List.map_nil]); first | done | rfl | (simp only [List.length_drop, List.length_take]; rfl)) ?_; (with_reducible refine (impl_IsAround.calls a0_0 a0_1 a0_2 a0_3 true _ A3.out).mono ?_); rintro e w22 ⟨rfl, hb⟩; refine ⟨_, rfl, ?_⟩; have n0_ := Aside0.mk (blk_below (g := gb1114) (o := .cells #[.int .i64 a0_0, .int .i64 a0_1, .bool a0_2, .bool a0_3] 51 (0, 0)) (by (with_reducible repeat (first | refine blk_drewN ?_ _ | refine blk_drew ?_ | refine blk_alloc ?_ _)); exact BK1114.out) hb); have n1_ := Aside0.mk (blk_below (g := gb1115) (o := .cells #[.int .i64 a1_0, .int .i64 a1_1] 32 (0, 0)) (by (with_reducible repeat (first | refine blk_drewN ?_ _ | refine blk_drew ?_ | refine blk_alloc ?_ _)); exact BK1115.out) hb); have n2_ := Aside0.mk (below_step (by repeat (first | (with_reducible first | exact HB.out | apply below_alloc | apply pw_below_drewN | apply below_drew1 | refine below_set ?_ GE1114.out | refine below_set ?_ GE1115.out) | exact HB.out)) hb); clear BK1114; clear BK1115; clear HB; have BK1114 := n0_; have BK1115 := n1_; have HB := n2_; clear n0_ n1_ n2_; (try clear hb); (try clear hb2); (try clear hk); (try clear hi); (try clear hna_); (try clear hnb_); have hcz23_0 : w22.cell? ⟨gb1115, 0, none⟩ = some (.int .i64 a1_0) := (blk_cell BK1115.out 0).trans rfl; have hcz23_1 : w22.cell? ⟨gb1115, 1, none⟩ = some (.int .i64 a1_1) := (blk_cell BK1115.out 1).trans rfl; have hfz23_0 := blk_frozen BK1115.out 0; have hfz23_1 := blk_frozen BK1115.out 1) | (go_at_call 95; (with_reducible refine (impl_IsLeaper.calls a1_0 a1_1 false _ A5.out).mono ?_); rintro e w24 ⟨rfl, hb⟩; have n0_ := Aside0.mk (blk_below (g := gb1114) (o := .cells #[.int .i64 a0_0, .int .i64 a0_1, .bool a0_2, .bool a0_3] 51 (0, 0)) (by (with_reducible repeat (first | refine blk_drewN ?_ _ | refine blk_drew ?_ | refine blk_alloc ?_ _)); exact BK1114.out) hb); have n1_ := Aside0.mk (blk_below (g := gb1115) (o := .cells #[.int .i64 a1_0, .int .i64 a1_1] 32 (0, 0)) (by (with_reducible repeat (first | refine blk_drewN ?_ _ | refine blk_drew ?_ | refine blk_alloc ?_ _)); exact BK1115.out) hb); have n2_ := Aside0.mk (below_step (by repeat (first | (with_reducible first | exact HB.out | apply below_alloc | apply pw_below_drewN | apply below_drew1 | refine below_set ?_ GE1114.out | refine below_set ?_ GE1115.out) | exact HB.out)) hb); clear BK1114; clear BK1115; clear HB; have BK1114 := n0_; have BK1115 := n1_; have HB := n2_; clear n0_ n1_ n2_; (try clear hb); (try clear hb2); (try clear hk); (try clear hi); (try clear hna_); (try clear hnb_)))
   go_ret2
   exact ⟨_, by first | rfl | (simp [errW_none, errW_some] <;> rfl) | (simp [*, errW_none, errW_some] <;> rfl), by first | exact Kd.S_nil _ _ _ _ _ | exact Kd.N_nil _ _ _ _ _ | exact Kd.V_nil _ _ _ _ _ | exact Kd.Q_nil _ _ _ _ _ | exact Kd.R_nil _ _ _ _ _, by repeat (first | (with_reducible first | exact HB.out | apply below_alloc | apply pw_below_drewN | apply below_drew1 | refine below_set ?_ GE1114.out | refine below_set ?_ GE1115.out) | exact HB.out)⟩
 ·replace c4 := Bool.eq_false_iff.mpr c4
  subst c4
  have H1 : (some (([] : List (List Int)), false)) = some (r1, r2) := by rw [if_neg (show ¬ (false = true) by decide)] at H; exact H
  clear H
  have H := H1
  clear H1
  simp only [Option.some.injEq, Prod.mk.injEq] at H
  obtain ⟨rfl, rfl⟩ := H
  go_enter Try.func79, Try.ntmps79
  go_wp2_with (first | ((with_reducible refine gate_dst (N := 2) rfl ?_); refine box_event ?hg (N := 2) ?hd (cs := #[.int .i64 a0_0, .int .i64 a0_1, .bool a0_2, .bool a0_3]) (t := 51) ?hr ?_; (case hd => rfl); (case hg => rfl); (case hr => first | (go_simp; done) | (go_simp; rfl)); intro gb1114 hg w25 hbox hb; have n0_ := Aside0.mk (below_step (by repeat (first | (with_reducible first | exact HB.out | apply below_alloc | apply pw_below_drewN | apply below_drew1) | exact HB.out)) hb); have n1_ := Aside0.mk (hbox); have n2_ := Aside0.mk ((by rw [hg]; exact (below_size (by repeat (first | (with_reducible first | exact HB.out | apply below_alloc | apply pw_below_drewN | apply below_drew1) | exact HB.out))) : w.heap.size ≤ gb1114)); have n3_ := Aside0.mk ((by rw [hg]; exact (below_size (by repeat (first | (with_reducible first | exact HB.out | apply below_alloc | apply pw_below_drewN | apply below_drew1) | exact HB.out))) : w.heap.size ≤ gb1114)); clear HB; have HB := n0_; have BK1114 := n1_; have GW1114 := n2_; have GE1114 := n3_; clear n0_ n1_ n2_ n3_; clear hb hbox hg) | ((with_reducible refine gate_dst (N := 3) rfl ?_); refine box_event ?hg (N := 3) ?hd (cs := #[.int .i64 a1_0, .int .i64 a1_1]) (t := 32) ?hr ?_; (case hd => rfl); (case hg => rfl); (case hr => first | (go_simp; done) | (go_simp; rfl)); intro gb1115 hg w26 hbox hb; have n0_ := Aside0.mk (blk_below (g := gb1114) (o := .cells #[.int .i64 a0_0, .int .i64 a0_1, .bool a0_2, .bool a0_3] 51 (0, 0)) (by (with_reducible repeat (first | refine blk_drewN ?_ _ | refine blk_drew ?_ | refine blk_alloc ?_ _)); exact BK1114.out) hb); have n1_ := Aside0.mk (below_step (by repeat (first | (with_reducible first | exact HB.out | apply below_alloc | apply pw_below_drewN | apply below_drew1 | refine below_set ?_ GE1114.out) | exact HB.out)) hb); have n2_ := Aside0.mk (hbox); have n3_ := Aside0.mk ((by rw [hg]; exact (below_size (by repeat (first | (with_reducible first | exact HB.out | apply below_alloc | apply pw_below_drewN | apply below_drew1 | refine below_set ?_ GE1114.out) | exact HB.out))) : w.heap.size ≤ gb1115)); have n4_ := Aside0.mk ((by rw [hg]; exact (below_size (by repeat (first | (with_reducible first | exact HB.out | apply below_alloc | apply pw_below_drewN | apply below_drew1 | refine below_set ?_ GE1114.out) | exact HB.out))) : w.heap.size ≤ gb1115)); have n5_ := Aside0.mk ((by rw [hg]; exact Nat.ne_of_lt (blk_lt (g := gb1114) (o := .cells #[.int .i64 a0_0, .int .i64 a0_1, .bool a0_2, .bool a0_3] 51 (0, 0)) (by (with_reducible repeat (first | refine blk_drewN ?_ _ | refine blk_drew ?_ | refine blk_alloc ?_ _)); exact BK1114.out)) : gb1114 ≠ gb1115)); have n6_ := Aside0.mk ((by rw [hg]; exact Nat.ne_of_gt (blk_lt (g := gb1114) (o := .cells #[.int .i64 a0_0, .int .i64 a0_1, .bool a0_2, .bool a0_3] 51 (0, 0)) (by (with_reducible repeat (first | refine blk_drewN ?_ _ | refine blk_drew ?_ | refine blk_alloc ?_ _)); exact BK1114.out)) : gb1115 ≠ gb1114)); clear BK1114; clear HB; have BK1114 := n0_; have HB := n1_; have BK1115 := n2_; have GW1115 := n3_; have GE1115 := n4_; have NB1114_1115 := n5_; have NB1115_1114 := n6_; clear n0_ n1_ n2_ n3_ n4_ n5_ n6_; clear hb hbox hg; have hnb27 := NB1114_1115.out; have hnc27 := NB1115_1114.out; have hcz28_0 : w26.cell? ⟨gb1114, 0, none⟩ = some (.int .i64 a0_0) := (blk_cell BK1114.out 0).trans rfl; have hcz28_1 : w26.cell? ⟨gb1114, 1, none⟩ = some (.int .i64 a0_1) := (blk_cell BK1114.out 1).trans rfl; have hcz28_2 : w26.cell? ⟨gb1114, 2, none⟩ = some (.bool a0_2) := (blk_cell BK1114.out 2).trans rfl; have hcz28_3 : w26.cell? ⟨gb1114, 3, none⟩ = some (.bool a0_3) := (blk_cell BK1114.out 3).trans rfl; have hfz28_0 := blk_frozen BK1114.out 0; have hfz28_1 := blk_frozen BK1114.out 1; have hfz28_2 := blk_frozen BK1114.out 2; have hfz28_3 := blk_frozen BK1114.out 3) | ((with_reducible refine gate_callee (f := 110) rfl ?_); refine goesL_ (some 7) rfl rfl Try.func110 (by kernel_rfl) rfl #[.agg #[.int .i64 a0_0, .int .i64 a0_1, .bool a0_2, .bool a0_3]] rfl (by (try simp only [List.map_toArray, List.map_cons, List.map_nil]); first | done | rfl | (simp only [List.length_drop, List.length_take]; rfl)) ?_; (with_reducible refine (impl_IsAround.calls a0_0 a0_1 a0_2 a0_3 false _ A3.out).mono ?_); rintro e w29 ⟨rfl, hb⟩; refine ⟨_, rfl, ?_⟩; have n0_ := Aside0.mk (blk_below (g := gb1114) (o := .cells #[.int .i64 a0_0, .int .i64 a0_1, .bool a0_2, .bool a0_3] 51 (0, 0)) (by (with_reducible repeat (first | refine blk_drewN ?_ _ | refine blk_drew ?_ | refine blk_alloc ?_ _)); exact BK1114.out) hb); have n1_ := Aside0.mk (blk_below (g := gb1115) (o := .cells #[.int .i64 a1_0, .int .i64 a1_1] 32 (0, 0)) (by (with_reducible repeat (first | refine blk_drewN ?_ _ | refine blk_drew ?_ | refine blk_alloc ?_ _)); exact BK1115.out) hb); have n2_ := Aside0.mk (below_step (by repeat (first | (with_reducible first | exact HB.out | apply below_alloc | apply pw_below_drewN | apply below_drew1 | refine below_set ?_ GE1114.out | refine below_set ?_ GE1115.out) | exact HB.out)) hb); clear BK1114; clear BK1115; clear HB; have BK1114 := n0_; have BK1115 := n1_; have HB := n2_; clear n0_ n1_ n2_; (try clear hb); (try clear hb2); (try clear hk); (try clear hi); (try clear hna_); (try clear hnb_)))
  go_ret2
  exact ⟨_, by first | rfl | (simp [errW_none, errW_some] <;> rfl) | (simp [*, errW_none, errW_some] <;> rfl), by first | exact Kd.S_nil _ _ _ _ _ | exact Kd.N_nil _ _ _ _ _ | exact Kd.V_nil _ _ _ _ _ | exact Kd.Q_nil _ _ _ _ _ | exact Kd.R_nil _ _ _ _ _, by repeat (first | (with_reducible first | exact HB.out | apply below_alloc | apply pw_below_drewN | apply below_drew1 | refine below_set ?_ GE1114.out | refine below_set ?_ GE1115.out) | exact HB.out)⟩

/-! ### impl_Around_has: function 80 -/
def impl_Around_has.f (a0_0 : Int) (a0_1 : Int) (a0_2 : Bool) (a0_3 : Bool) (a1 : Int) : Option (Bool) := if a1 ≥ 0 then (some (decide (a1 < (wrap64 (a0_0 * a0_1))))) else (some false)
set_option maxHeartbeats 8000000 in
set_option maxRecDepth 100000 in
theorem impl_Around_has.calls (a0_0 : Int) (a0_1 : Int) (a0_2 : Bool) (a0_3 : Bool) (a1 : Int) (r : Bool) (w : World) (h : impl_Around_has.f a0_0 a0_1 a0_2 a0_3 a1 = some r) :
  Calls Try.prog 80 #[.agg #[.int .i64 a0_0, .int .i64 a0_1, .bool a0_2, .bool a0_3], .int .i64 a1] w fun e w' => e = .returned (.bool r) ∧ Below w.heap.size w w' := by
 have hu51 := Try.underlying51
 have HB := Aside0.mk (Below.refl w.heap.size w)
 have H : (if a1 ≥ 0 then (some (decide (a1 < (wrap64 (a0_0 * a0_1))))) else (some false)) = some r := h
 clear h
 by_cases c3 : a1 ≥ 0
 ·rw [if_pos c3] at H
  have c3b0 : decide (0 ≤ a1) = true := decide_eq_true c3
  clear c3
  obtain rfl := Option.some.inj H
  go_enter Try.func80, Try.ntmps80
  go_wp2_with (first | ((with_reducible refine gate_dst (N := 2) rfl ?_); refine box_event ?hg (N := 2) ?hd (cs := #[.int .i64 a0_0, .int .i64 a0_1, .bool a0_2, .bool a0_3]) (t := 51) ?hr ?_; (case hd => rfl); (case hg => rfl); (case hr => first | (go_simp; done) | (go_simp; rfl)); intro gb1121 hg w4 hbox hb; have n0_ := Aside0.mk (below_step (by repeat (first | (with_reducible first | exact HB.out | apply below_alloc | apply pw_below_drewN | apply below_drew1) | exact HB.out)) hb); have n1_ := Aside0.mk (hbox); have n2_ := Aside0.mk ((by rw [hg]; exact (below_size (by repeat (first | (with_reducible first | exact HB.out | apply below_alloc | apply pw_below_drewN | apply below_drew1) | exact HB.out))) : w.heap.size ≤ gb1121)); have n3_ := Aside0.mk ((by rw [hg]; exact (below_size (by repeat (first | (with_reducible first | exact HB.out | apply below_alloc | apply pw_below_drewN | apply below_drew1) | exact HB.out))) : w.heap.size ≤ gb1121)); clear HB; have HB := n0_; have BK1121 := n1_; have GW1121 := n2_; have GE1121 := n3_; clear n0_ n1_ n2_ n3_; clear hb hbox hg; have hcz5_0 : w4.cell? ⟨gb1121, 0, none⟩ = some (.int .i64 a0_0) := (blk_cell BK1121.out 0).trans rfl; have hcz5_1 : w4.cell? ⟨gb1121, 1, none⟩ = some (.int .i64 a0_1) := (blk_cell BK1121.out 1).trans rfl; have hcz5_2 : w4.cell? ⟨gb1121, 2, none⟩ = some (.bool a0_2) := (blk_cell BK1121.out 2).trans rfl; have hcz5_3 : w4.cell? ⟨gb1121, 3, none⟩ = some (.bool a0_3) := (blk_cell BK1121.out 3).trans rfl; have hfz5_0 := blk_frozen BK1121.out 0; have hfz5_1 := blk_frozen BK1121.out 1; have hfz5_2 := blk_frozen BK1121.out 2; have hfz5_3 := blk_frozen BK1121.out 3))
  go_ret
  exact ⟨by first | rfl | (simp [errW_none, errW_some] <;> rfl) | (simp [*, errW_none, errW_some] <;> rfl), by repeat (first | (with_reducible first | exact HB.out | apply below_alloc | apply pw_below_drewN | apply below_drew1 | refine below_set ?_ GE1121.out) | exact HB.out)⟩
 ·rw [if_neg c3] at H
  have c3b0 : decide (0 ≤ a1) = false := decide_eq_false c3
  clear c3
  obtain rfl := Option.some.inj H
  go_enter Try.func80, Try.ntmps80
  go_wp2_with (first | ((with_reducible refine gate_dst (N := 2) rfl ?_); refine box_event ?hg (N := 2) ?hd (cs := #[.int .i64 a0_0, .int .i64 a0_1, .bool a0_2, .bool a0_3]) (t := 51) ?hr ?_; (case hd => rfl); (case hg => rfl); (case hr => first | (go_simp; done) | (go_simp; rfl)); intro gb1121 hg w6 hbox hb; have n0_ := Aside0.mk (below_step (by repeat (first | (with_reducible first | exact HB.out | apply below_alloc | apply pw_below_drewN | apply below_drew1) | exact HB.out)) hb); have n1_ := Aside0.mk (hbox); have n2_ := Aside0.mk ((by rw [hg]; exact (below_size (by repeat (first | (with_reducible first | exact HB.out | apply below_alloc | apply pw_below_drewN | apply below_drew1) | exact HB.out))) : w.heap.size ≤ gb1121)); have n3_ := Aside0.mk ((by rw [hg]; exact (below_size (by repeat (first | (with_reducible first | exact HB.out | apply below_alloc | apply pw_below_drewN | apply below_drew1) | exact HB.out))) : w.heap.size ≤ gb1121)); clear HB; have HB := n0_; have BK1121 := n1_; have GW1121 := n2_; have GE1121 := n3_; clear n0_ n1_ n2_ n3_; clear hb hbox hg))
  go_ret
  exact ⟨by first | rfl | (simp [errW_none, errW_some] <;> rfl) | (simp [*, errW_none, errW_some] <;> rfl), by repeat (first | (with_reducible first | exact HB.out | apply below_alloc | apply pw_below_drewN | apply below_drew1 | refine below_set ?_ GE1121.out) | exact HB.out)⟩

/-! ### impl_byDistance: function 81 -/
def impl_byDistance.l0 : Nat → List Int → List Int → Int → Int → Option (List Int)
 | 0, _, _, _, _ => none
 | k + 1, x3, x10, x11, x12 => if x12 < x11 then (if 0 ≤ x12 then (if x12 < (x10.length : Int) then (if (rd x10 x12) ≥ 0 then (if 0 ≤ (rd x10 x12) then (if (rd x10 x12) < (x3.length : Int) then (impl_byDistance.l0 k (x3.set ((rd x10 x12) : Int).toNat (wrap64 ((rd x3 (rd x10 x12)) + 1))) x10 x11 (wrap64 (x12 + 1))) else (none)) else (none)) else (impl_byDistance.l0 k x3 x10 x11 (wrap64 (x12 + 1)))) else (none)) else (none)) else (some x3)
def impl_byDistance.f (k : Nat) (l0 : List Int) : Option (List Int) := (slices_Max_int_int.f l0).bind fun t1122 => (if 0 ≤ (wrap64 (t1122 + 1)) then (if (wrap64 (t1122 + 1) : Int).toNat ≤ 35184372088832 then (impl_byDistance.l0 k (List.replicate (wrap64 (t1122 + 1) : Int).toNat 0) l0 (l0.length : Int) 0) else (none)) else (none))
set_option maxHeartbeats 8000000 in
set_option maxRecDepth 100000 in
theorem impl_byDistance.calls (k : Nat) (A0 : Option Addr) (c0 : Nat) (l0 : List Int) (r : List Int) (w : World) (hr0 : Kd.C (Kd.int .i64) w A0 l0.length l0) (hc0 : l0.length ≤ c0) (h : impl_byDistance.f k l0 = some r) :
  Calls Try.prog 81 #[.slice A0 l0.length c0] w fun e w' => ∃ v0_ : Value, e = .returned (v0_) ∧ Kd.R (Kd.int .i64) 3 w' w.heap.size (fun _ => True) v0_ r ∧ Below w.heap.size w w' := by
 have HR0 := Aside0.mk hr0
 have HC0 := Aside0.mk hc0
 clear hr0 hc0
 have HB := Aside0.mk (Below.refl w.heap.size w)
 have H : ((slices_Max_int_int.f l0).bind fun t1122 => (if 0 ≤ (wrap64 (t1122 + 1)) then (if (wrap64 (t1122 + 1) : Int).toNat ≤ 35184372088832 then (impl_byDistance.l0 k (List.replicate (wrap64 (t1122 + 1) : Int).toNat 0) l0 (l0.length : Int) 0) else (none)) else (none))) = some r := h
 clear h
 replace H := Option.bind_eq_some_iff.mp H
 obtain ⟨t1122, A20, H⟩ := H
 replace H : (if 0 ≤ (wrap64 (t1122 + 1)) then (if (wrap64 (t1122 + 1) : Int).toNat ≤ 35184372088832 then (impl_byDistance.l0 k (List.replicate (wrap64 (t1122 + 1) : Int).toNat 0) l0 (l0.length : Int) 0) else (none)) else (none)) = some r := H
 have A2 := Aside0.mk A20
 clear A20
 obtain ⟨ji3, hji3⟩ : ∃ j_ : Int, (wrap64 (t1122 + 1)) = j_ := ⟨_, rfl⟩
 replace H : (if 0 ≤ (ji3) then (if (ji3 : Int).toNat ≤ 35184372088832 then (impl_byDistance.l0 k (List.replicate (ji3 : Int).toNat 0) l0 (l0.length : Int) 0) else (none)) else (none)) = some r := by first | (rw [hji3] at H; exact H) | (simp only [hji3] at H ⊢; exact H)
 (try rw [hji3] at A2)
 have hji3w : (IntKind.i64.wrap (t1122 + 1)) = ji3 := (i64_w _).trans hji3
 by_cases c4 : 0 ≤ (ji3)
 ·rw [if_pos c4] at H
  have c4b0 := eq_true c4
  have c4b1 : decide (0 ≤ (ji3)) = true := decide_eq_true c4
  clear c4
  by_cases c5 : (ji3 : Int).toNat ≤ 35184372088832
  ·rw [if_pos c5] at H
   have c5b0 := eq_true c5
   have c5b1 : decide ((ji3 : Int).toNat ≤ 35184372088832) = true := decide_eq_true c5
   clear c5
   obtain ⟨y1123, hy1123⟩ : ∃ y_ : List Int, y_ = (List.replicate (ji3 : Int).toNat 0) := ⟨_, rfl⟩
   replace H : (impl_byDistance.l0 k y1123 l0 (l0.length : Int) 0) = some r := by first | (rw [hy1123]; with_reducible exact H) | (have H2_ := (Option.bind_some _ _).symm.trans H; rw [hy1123]; with_reducible exact H2_) | (have H2_ := (Option.bind_some _ _).symm.trans H; with_reducible exact H2_) | with_reducible exact H | (rw [hy1123]; exact H) | exact H
   have Ny1123 := Aside0.mk hy1123
   clear hy1123
   have H' := Aside0.mk H
   clear H
   go_enter Try.func81, Try.ntmps81
   go_wp2_with (first | ((with_reducible refine gate_callee (f := 112) rfl ?_); refine goesL_ (some 7) rfl rfl Try.func112 (by kernel_rfl) rfl #[.slice A0 l0.length c0] rfl (by (try simp only [List.map_toArray, List.map_cons, List.map_nil]); first | done | rfl | (simp only [List.length_drop, List.length_take]; rfl)) ?_; (with_reducible refine (slices_Max_int_int.calls _ _ l0 t1122 _ ?side1 ?side2 A2.out).mono ?_); (case side1 => repeat (first | exact HR0.out | (with_reducible refine Kd.C_alloc ?_ _) | (with_reducible refine Kd.C_drewN ?_ _) | (with_reducible refine Kd.C_drew ?_))); (case side2 => exact HC0.out); rintro e w' ⟨rfl, ⟨nd, rfl⟩⟩; refine ⟨_, rfl, ?_⟩) | ((with_reducible refine gate_dst (N := 9) rfl ?_); refine Kd.R_make (Kd.int .i64) _ 3 rfl (N := 9) rfl 22 _ _ rfl ji3 rfl rfl Try.underlying22 (.int .i64 0) 8 info3 rfl (by decide) (by omega) 0 (ok := fun _ => True) (okp := fun _ => True) rfl (fun _ hk => hk) trivial (of_decide_eq_true (by first | (with_reducible assumption) | assumption)) (Nat.le_trans (Nat.mul_le_mul_right _ (of_decide_eq_true (by first | (with_reducible assumption) | assumption) : ji3.toNat ≤ 35184372088832)) (by omega)) (Below.refl _ _) (Nat.le_refl _) ?_; intro v1124 w6 ho7 hb hg_ hnew_; clear hg_ hnew_; (first | rw [← Ny1123.out] at ho7 | (simp only [Int.reduceToNat] at ho7; rw [← Ny1123.out] at ho7)); have n0_ := Aside0.mk (Kd.R_lower ho7 (below_size (by repeat (first | (with_reducible first | exact HB.out | apply below_alloc | apply pw_below_drewN | apply below_drew1) | exact HB.out)))); have n1_ := Aside0.mk (below_step (by repeat (first | (with_reducible first | exact HB.out | apply below_alloc | apply pw_below_drewN | apply below_drew1) | exact HB.out)) hb); clear HB; have HO1125 := n0_; have HB := n1_; clear n0_ n1_; clear hb ho7))
   go_loopg [12] k (fun kq v12 w' => ∃ (x3_1 : List Int) (x12_1 : Int), v12 = .int .i64 x12_1 ∧ Aside0 (impl_byDistance.l0 kq x3_1 l0 (l0.length : Int) x12_1 = some r) ∧ Aside0 (kq ≤ k) ∧ Aside0 (Kd.R (Kd.int .i64) 3 w' w.heap.size (fun _ => True) v1124 x3_1) ∧ Aside0 (Below w.heap.size w w'))
   case atStart => exact ⟨(y1123), (0), (by first | rfl | (simp; done) | (simp [*]; done)), H', ⟨Nat.le_refl _⟩, ⟨by (with_reducible repeat (first | apply Kd.R_alloc | apply Kd.R_drewN | apply Kd.R_drew)); exact HO1125.out⟩, ⟨by repeat (first | (with_reducible first | exact HB.out | apply below_alloc | apply pw_below_drewN | apply below_drew1) | exact HB.out)⟩⟩
   case round =>
    clear H'
    try clear c1; try clear p2; try clear c4; try clear c4b0; try clear c4b1; try clear c5; try clear c5b0; try clear c5b1; try clear p6
    obtain ⟨x3_1, x12_1, rfl, HA, HK1, HO_3, HB⟩ := hrel
    cases gk with
    | zero => exact absurd HA.out (by simp [impl_byDistance.l0])
    | succ k1 =>
     have H := HA.out
     clear HA
     simp only [impl_byDistance.l0] at H
     by_cases c8 : x12_1 < (l0.length : Int)
     ·rw [if_pos c8] at H
      have c8b0 : decide (x12_1 < (l0.length : Int)) = true := decide_eq_true c8
      clear c8
      by_cases c9 : 0 ≤ x12_1
      ·rw [if_pos c9] at H
       have c9b0 : decide (0 ≤ x12_1) = true := decide_eq_true c9
       clear c9
       by_cases c10 : x12_1 < (l0.length : Int)
       ·rw [if_pos c10] at H
        have c10b0 : decide (x12_1 < (l0.length : Int)) = true := decide_eq_true c10
        clear c10
        by_cases c11 : (rd l0 x12_1) ≥ 0
        ·rw [if_pos c11] at H
         have c11b0 : decide (0 ≤ (rd l0 x12_1)) = true := decide_eq_true c11
         clear c11
         by_cases c12 : 0 ≤ (rd l0 x12_1)
         ·rw [if_pos c12] at H
          have c12b0 : decide (0 ≤ (rd l0 x12_1)) = true := decide_eq_true c12
          clear c12
          by_cases c13 : (rd l0 x12_1) < (x3_1.length : Int)
          ·rw [if_pos c13] at H
           have c13b0 : decide ((rd l0 x12_1) < (x3_1.length : Int)) = true := decide_eq_true c13
           clear c13
           obtain ⟨y1128, hy1128⟩ : ∃ y_ : List Int, y_ = (x3_1.set ((rd l0 x12_1) : Int).toNat (wrap64 ((rd x3_1 (rd l0 x12_1)) + 1))) := ⟨_, rfl⟩
           replace H : (impl_byDistance.l0 k1 y1128 l0 (l0.length : Int) (wrap64 (x12_1 + 1))) = some r := by first | (rw [hy1128]; with_reducible exact H) | (have H2_ := (Option.bind_some _ _).symm.trans H; rw [hy1128]; with_reducible exact H2_) | (have H2_ := (Option.bind_some _ _).symm.trans H; with_reducible exact H2_) | with_reducible exact H | (rw [hy1128]; exact H) | exact H
           have Ny1128 := Aside0.mk hy1128
           clear hy1128
           have H' := Aside0.mk H
           clear H
           have p1126 : 0 ≤ (x12_1 : Int) := of_decide_eq_true (by first | (with_reducible assumption) | assumption)
           have q1126 : x12_1 < (l0.length : Int) := of_decide_eq_true (by first | (with_reducible assumption) | assumption)
           obtain ⟨ad1126, e1126, hx1126_0⟩ := Kd.at_int HR0.out x12_1 p1126 q1126
           cases e1126
           (first | replace hx1126_0 := (HB.out.cell (World.block_lt_of_cell? w _ hx1126_0)).trans hx1126_0 | skip)
           replace p1126 := eq_true p1126
           replace q1126 := eq_true q1126
           obtain ⟨Ao15, co15, eo15⟩ := Kd.R_slice HO_3.out
           subst eo15
           have p1127 : 0 ≤ ((rd l0 x12_1) : Int) := of_decide_eq_true (by first | (with_reducible assumption) | assumption)
           have q1127 : (rd l0 x12_1) < (x3_1.length : Int) := of_decide_eq_true (by first | (with_reducible assumption) | assumption)
           obtain ⟨ad1127, e1127, hx1127_0⟩ := Kd.at_int (Kd.R_reads' HO_3.out).2.2 (rd l0 x12_1) p1127 q1127
           cases e1127
           replace p1127 := eq_true p1127
           replace q1127 := eq_true q1127
           have p14 : 0 ≤ ((rd l0 x12_1) : Int) := of_decide_eq_true (by first | (with_reducible assumption) | assumption)
           have q14 : ((rd l0 x12_1) : Int) < ((x3_1.length : Int) : Int) := of_decide_eq_true (by first | (with_reducible assumption) | assumption)
           obtain ⟨go14, co14, eo14, gb14, gl14, cl14, HG14⟩ := Kd.R_form HO_3.out (by omega)
           (first | cases eo14 | (injection eo14 with ea_ en_ ec_; (first | subst ea_ | (injection ea_ with ea_; subst ea_)); subst ec_; clear en_))
           have GB14 := Aside0.mk gb14
           have GG14 := Aside0.mk HG14
           clear gb14 gl14 HG14
           (try simp only [add_plain] at *)
           (first | simp only [add_plain] at hx1127_0 | skip)
           obtain ⟨hx14_0, hf14_0⟩ := Kd.R_celln 0 HO_3.out ((rd l0 x12_1) : Int) p14 q14
           replace p14 := eq_true p14
           replace q14 := eq_true q14
           have HP16 := Kd.R_putg HO_3.out ((rd l0 x12_1) : Int) (wrap64 ((rd x3_1 (rd l0 x12_1)) + 1))
           go_wp2_with (first | ((with_reducible refine gate_store (t := 3) (p := 23) rfl ?_); refine store_event (t := 3) (p := 23) (v := ?vo_w17) (w1 := (wr.setCell ⟨go14, ((rd l0 x12_1) : Int).toNat, none⟩ (.int .i64 (wrap64 ((rd x3_1 (rd l0 x12_1)) + 1))))) ?hg ?ho ?hn ?hr ?_; (case ho => rfl); (case hg => rfl); (case hn => rfl); (case hr => first | (go_simp; done) | (go_simp; rfl)); intro w17 hw; have hg : wr.grownBy w17 (some go14) := (by rw [hw]; exact HP16.2); have hp_ : Kd.R (Kd.int .i64) 3 w17 w.heap.size (fun _ => True) (.slice (some ⟨go14, 0, none⟩) x3_1.length co15) y1128 := (by rw [hw, Ny1128.out]; exact HP16.1); clear HP16; have n0_ := Aside0.mk (hp_); have n1_ := Aside0.mk ((by rw [hw]; exact below_set (HB.out) GB14.out : Below w.heap.size w w17)); clear HO_3; clear HB; have HO_3 := n0_; have HB := n1_; clear n0_ n1_; clear hg hw hp_))
           go_roundg k1
           case measure => have := HK1.out; omega
           case rel => exact ⟨(y1128), (wrap64 (x12_1 + 1)), (by first | rfl | (simp; done) | (simp [*]; done)), H', ⟨by have := HK1.out; omega⟩, ⟨by (with_reducible repeat (first | apply Kd.R_alloc | apply Kd.R_drewN | apply Kd.R_drew)); exact HO_3.out⟩, ⟨by repeat (first | (with_reducible first | exact HB.out | apply below_alloc | apply pw_below_drewN | apply below_drew1) | exact HB.out)⟩⟩
          ·rw [if_neg c13] at H
           exact absurd H (by simp)
         ·rw [if_neg c12] at H
          exact absurd H (by simp)
        ·rw [if_neg c11] at H
         have c11b0 : decide (0 ≤ (rd l0 x12_1)) = false := decide_eq_false c11
         clear c11
         have H' := Aside0.mk H
         clear H
         have p1126 : 0 ≤ (x12_1 : Int) := of_decide_eq_true (by first | (with_reducible assumption) | assumption)
         have q1126 : x12_1 < (l0.length : Int) := of_decide_eq_true (by first | (with_reducible assumption) | assumption)
         obtain ⟨ad1126, e1126, hx1126_0⟩ := Kd.at_int HR0.out x12_1 p1126 q1126
         cases e1126
         (first | replace hx1126_0 := (HB.out.cell (World.block_lt_of_cell? w _ hx1126_0)).trans hx1126_0 | skip)
         replace p1126 := eq_true p1126
         replace q1126 := eq_true q1126
         go_wp2
         go_roundg k1
         case measure => have := HK1.out; omega
         case rel => exact ⟨(x3_1), (wrap64 (x12_1 + 1)), (by first | rfl | (simp; done) | (simp [*]; done)), H', ⟨by have := HK1.out; omega⟩, ⟨by (with_reducible repeat (first | apply Kd.R_alloc | apply Kd.R_drewN | apply Kd.R_drew)); exact HO_3.out⟩, ⟨by repeat (first | (with_reducible first | exact HB.out | apply below_alloc | apply pw_below_drewN | apply below_drew1) | exact HB.out)⟩⟩
       ·rw [if_neg c10] at H
        exact absurd H (by simp)
      ·rw [if_neg c9] at H
       exact absurd H (by simp)
     ·rw [if_neg c8] at H
      have c8b0 : decide (x12_1 < (l0.length : Int)) = false := decide_eq_false c8
      clear c8
      obtain rfl := Option.some.inj H
      go_wp2
      go_ret
      exact ⟨_, by first | rfl | (simp [errW_none, errW_some] <;> rfl) | (simp only [← hji3]; first | rfl | (simp [errW_none, errW_some] <;> rfl)) | (simp [*, errW_none, errW_some] <;> rfl), by (with_reducible repeat (first | apply Kd.R_alloc | apply Kd.R_drewN | apply Kd.R_drew)); exact HO_3.out, by repeat (first | (with_reducible first | exact HB.out | apply below_alloc | apply pw_below_drewN | apply below_drew1) | exact HB.out)⟩
  ·rw [if_neg c5] at H
   exact absurd H (by simp)
 ·rw [if_neg c4] at H
  exact absurd H (by simp)

/-! ### impl_farAround: function 82 -/
mutual
def impl_farAround.l0 : Nat → List (List Int) → Int → List Int → Int → Int → Option (List Int)
 | 0, _, _, _, _, _ => none
 | k + 1, x0, x1, x5, x14, x15 => if x15 < x14 then (if 0 ≤ x15 then (if x15 < (x5.length : Int) then (impl_farAround.l0 k x0 x1 (x5.set (x15 : Int).toNat (-1)) x14 (wrap64 (x15 + 1))) else (none)) else (none)) else (if 0 ≤ x1 then (if x1 < (x5.length : Int) then (impl_farAround.l1 k x0 (x5.set (x1 : Int).toNat 0) (([x1] : List Int))) else (none)) else (none))
def impl_farAround.l1 : Nat → List (List Int) → List Int → List Int → Option (List Int)
 | 0, _, _, _ => none
 | k + 1, x0, x5, x7 => if (x7.length : Int) > 0 then (if 0 < (x7.length : Int) then (if 0 ≤ (rd x7 0) then (if (rd x7 0) < (x0.length : Int) then (impl_farAround.l2 k x0 x5 x7 (rd_L1 x0 (rd x7 0)) ((rd_L1 x0 (rd x7 0)).length : Int) 0) else (none)) else (none)) else (none)) else (some x5)
def impl_farAround.l2 : Nat → List (List Int) → List Int → List Int → List Int → Int → Int → Option (List Int)
 | 0, _, _, _, _, _, _ => none
 | k + 1, x0, x5, x7, x37, x38, x39 => if x39 < x38 then (if 0 ≤ x39 then (if x39 < (x37.length : Int) then (if 0 ≤ (rd x37 x39) then (if (rd x37 x39) < (x5.length : Int) then (if (rd x5 (rd x37 x39)) < 0 then (if 0 < (x7.length : Int) then (if 0 ≤ (rd x7 0) then (if (rd x7 0) < (x5.length : Int) then (if x7.length < 17592186044416 then (impl_farAround.l2 k x0 (x5.set ((rd x37 x39) : Int).toNat (wrap64 ((rd x5 (rd x7 0)) + 1))) (x7 ++ [rd x37 x39]) x37 x38 (wrap64 (x39 + 1))) else (none)) else (none)) else (none)) else (none)) else (impl_farAround.l2 k x0 x5 x7 x37 x38 (wrap64 (x39 + 1)))) else (none)) else (none)) else (none)) else (none)) else (if 1 ≤ (x7.length : Int) then (impl_farAround.l1 k x0 x5 (x7.drop (1 : Int).toNat)) else (none))
end
def impl_farAround.f (k : Nat) (l0 : List (List Int)) (a1 : Int) : Option (List Int) := if 0 ≤ (l0.length : Int) then (if ((l0.length : Int) : Int).toNat ≤ 35184372088832 then ((some (List.replicate ((l0.length : Int) : Int).toNat 0 : List Int)).bind fun y1129 => (impl_farAround.l0 k l0 a1 y1129 (y1129.length : Int) 0)) else (none)) else (none)
set_option maxHeartbeats 8000000 in
set_option maxRecDepth 100000 in
theorem impl_farAround.calls (k : Nat) (A0 : Option Addr) (c0 : Nat) (l0 : List (List Int)) (a1 : Int) (r : List Int) (w : World) (hr0 : Kd.C (Kd.slice 3 (Kd.int .i64)) w A0 l0.length l0) (hc0 : l0.length ≤ c0) (h : impl_farAround.f k l0 a1 = some r) :
  Calls Try.prog 82 #[.slice A0 l0.length c0, .int .i64 a1] w fun e w' => ∃ v0_ : Value, e = .returned (v0_) ∧ Kd.R (Kd.int .i64) 3 w' w.heap.size (fun _ => True) v0_ r ∧ Below w.heap.size w w' := by
 have HR0 := Aside0.mk hr0
 have HC0 := Aside0.mk hc0
 clear hr0 hc0
 have HB := Aside0.mk (Below.refl w.heap.size w)
 have H : (if 0 ≤ (l0.length : Int) then (if ((l0.length : Int) : Int).toNat ≤ 35184372088832 then ((some (List.replicate ((l0.length : Int) : Int).toNat 0 : List Int)).bind fun y1129 => (impl_farAround.l0 k l0 a1 y1129 (y1129.length : Int) 0)) else (none)) else (none)) = some r := h
 clear h
 by_cases c3 : 0 ≤ (l0.length : Int)
 ·rw [if_pos c3] at H
  have c3b0 := eq_true c3
  have c3b1 : decide (0 ≤ (l0.length : Int)) = true := decide_eq_true c3
  clear c3
  by_cases c4 : ((l0.length : Int) : Int).toNat ≤ 35184372088832
  ·rw [if_pos c4] at H
   have c4b0 := eq_true c4
   have c4b1 : decide (((l0.length : Int) : Int).toNat ≤ 35184372088832) = true := decide_eq_true c4
   clear c4
   obtain ⟨y1129, hy1129⟩ : ∃ y_ : List Int, y_ = (List.replicate ((l0.length : Int) : Int).toNat 0) := ⟨_, rfl⟩
   replace H : (impl_farAround.l0 k l0 a1 y1129 (y1129.length : Int) 0) = some r := by first | (rw [hy1129]; with_reducible exact H) | (have H2_ := (Option.bind_some _ _).symm.trans H; rw [hy1129]; with_reducible exact H2_) | (have H2_ := (Option.bind_some _ _).symm.trans H; with_reducible exact H2_) | with_reducible exact H | (rw [hy1129]; exact H) | exact H
   have Ny1129 := Aside0.mk hy1129
   clear hy1129
   have H' := Aside0.mk H
   clear H
   go_enter Try.func82, Try.ntmps82
   go_wp2_with (first | ((with_reducible refine gate_dst (N := 12) rfl ?_); refine Kd.R_make (Kd.int .i64) _ 3 rfl (N := 12) rfl 22 _ _ rfl (l0.length : Int) rfl rfl Try.underlying22 (.int .i64 0) 8 info3 rfl (by decide) (by omega) 0 (ok := fun _ => True) (okp := fun _ => True) rfl (fun _ hk => hk) trivial (of_decide_eq_true (by first | (with_reducible assumption) | assumption)) (Nat.le_trans (Nat.mul_le_mul_right _ (of_decide_eq_true (by first | (with_reducible assumption) | assumption) : (l0.length : Int).toNat ≤ 35184372088832)) (by omega)) (Below.refl _ _) (Nat.le_refl _) ?_; intro v1130 w5 ho6 hb hg_ hnew_; clear hg_ hnew_; (first | rw [← Ny1129.out] at ho6 | (simp only [Int.reduceToNat] at ho6; rw [← Ny1129.out] at ho6)); have n0_ := Aside0.mk (Kd.R_lower ho6 (below_size (by repeat (first | (with_reducible first | exact HB.out | apply below_alloc | apply pw_below_drewN | apply below_drew1) | exact HB.out)))); have n1_ := Aside0.mk (below_step (by repeat (first | (with_reducible first | exact HB.out | apply below_alloc | apply pw_below_drewN | apply below_drew1) | exact HB.out)) hb); clear HB; have HO1131 := n0_; have HB := n1_; clear n0_ n1_; clear hb ho6; obtain ⟨Ao7, co7, eo7⟩ := Kd.R_slice HO1131.out; subst eo7))
   go_loopg [15] k (fun kq v15 w' => ∃ (x5_1 : List Int) (x15_1 : Int), v15 = .int .i64 x15_1 ∧ Aside0 (impl_farAround.l0 kq l0 a1 x5_1 (y1129.length : Int) x15_1 = some r) ∧ Aside0 (kq ≤ k) ∧ Aside0 (Kd.R (Kd.int .i64) 3 w' w.heap.size (fun _ => True) (.slice Ao7 y1129.length co7) x5_1) ∧ Aside0 (Below w.heap.size w w'))
   case atStart => exact ⟨(y1129), (0), (by first | rfl | (simp; done) | (simp [*]; done)), H', ⟨Nat.le_refl _⟩, ⟨by (with_reducible repeat (first | apply Kd.R_alloc | apply Kd.R_drewN | apply Kd.R_drew)); exact HO1131.out⟩, ⟨by repeat (first | (with_reducible first | exact HB.out | apply below_alloc | apply pw_below_drewN | apply below_drew1) | exact HB.out)⟩⟩
   case round =>
    clear H'
    try clear p2; try clear c3; try clear c3b0; try clear c3b1; try clear c4; try clear c4b0; try clear c4b1
    obtain ⟨x5_1, x15_1, rfl, HA, HK1, HO_5, HB⟩ := hrel
    have hl5_1 := (Kd.R_reads' HO_5.out).1
    rw [hl5_1] at HO_5
    (try simp only [hl5_1])
    cases gk with
    | zero => exact absurd HA.out (by simp [impl_farAround.l0])
    | succ k1 =>
     have H := HA.out
     clear HA
     simp only [impl_farAround.l0] at H
     by_cases c8 : x15_1 < (y1129.length : Int)
     ·rw [if_pos c8] at H
      have c8b0 : decide (x15_1 < (y1129.length : Int)) = true := decide_eq_true c8
      have c8b8 := c8b0
      (try simp only [hl5_1] at c8b8)
      clear c8
      by_cases c9 : 0 ≤ x15_1
      ·rw [if_pos c9] at H
       have c9b0 : decide (0 ≤ x15_1) = true := decide_eq_true c9
       clear c9
       by_cases c10 : x15_1 < (x5_1.length : Int)
       ·rw [if_pos c10] at H
        have c10b0 : decide (x15_1 < (x5_1.length : Int)) = true := decide_eq_true c10
        have c10b8 := c10b0
        (try simp only [hl5_1] at c10b8)
        clear c10
        obtain ⟨y1132, hy1132⟩ : ∃ y_ : List Int, y_ = (x5_1.set (x15_1 : Int).toNat (-1)) := ⟨_, rfl⟩
        replace H : (impl_farAround.l0 k1 l0 a1 y1132 (y1129.length : Int) (wrap64 (x15_1 + 1))) = some r := by first | (rw [hy1132]; with_reducible exact H) | (have H2_ := (Option.bind_some _ _).symm.trans H; rw [hy1132]; with_reducible exact H2_) | (have H2_ := (Option.bind_some _ _).symm.trans H; with_reducible exact H2_) | with_reducible exact H | (rw [hy1132]; exact H) | exact H
        have Ny1132 := Aside0.mk hy1132
        clear hy1132
        have H' := Aside0.mk H
        clear H
        have p11 : 0 ≤ (x15_1 : Int) := of_decide_eq_true (by first | (with_reducible assumption) | assumption)
        have q11 : (x15_1 : Int) < ((x5_1.length : Int) : Int) := of_decide_eq_true (by first | (with_reducible assumption) | assumption)
        obtain ⟨go11, co11, eo11, gb11, gl11, cl11, HG11⟩ := Kd.R_form HO_5.out (by omega)
        (first | cases eo11 | (injection eo11 with ea_ en_ ec_; (first | subst ea_ | (injection ea_ with ea_; subst ea_)); subst ec_; clear en_))
        have GB11 := Aside0.mk gb11
        have GG11 := Aside0.mk HG11
        clear gb11 gl11 HG11
        obtain ⟨hx11_0, hf11_0⟩ := Kd.R_celln 0 HO_5.out (x15_1 : Int) p11 q11
        replace p11 := eq_true p11
        replace q11 := eq_true q11
        have HP12 := Kd.R_putg HO_5.out (x15_1 : Int) (-1)
        go_wp2_with (first | ((with_reducible refine gate_store (t := 3) (p := 20) rfl ?_); refine store_event (t := 3) (p := 20) (v := ?vo_w13) (w1 := (wr.setCell ⟨go11, (x15_1 : Int).toNat, none⟩ (.int .i64 (-1)))) ?hg ?ho ?hn ?hr ?_; (case ho => rfl); (case hg => rfl); (case hn => rfl); (case hr => first | (go_simp; done) | (go_simp; rfl)); intro w13 hw; have hg : wr.grownBy w13 (some go11) := (by rw [hw]; exact HP12.2); have hp_ : Kd.R (Kd.int .i64) 3 w13 w.heap.size (fun _ => True) (.slice (some ⟨go11, 0, none⟩) x5_1.length co7) y1132 := (by rw [hw, Ny1132.out]; exact HP12.1); clear HP12; have n0_ := Aside0.mk (hp_); have n1_ := Aside0.mk ((by rw [hw]; exact below_set (HB.out) GB11.out : Below w.heap.size w w13)); clear HO_5; clear HB; have HO_5 := n0_; have HB := n1_; clear n0_ n1_; clear hg hw hp_))
        (try simp only [← hl5_1])
        go_roundg k1
        case measure => have := HK1.out; omega
        case rel => exact ⟨(y1132), (wrap64 (x15_1 + 1)), (by first | rfl | (simp; done) | (simp [*]; done)), H', ⟨by have := HK1.out; omega⟩, ⟨by (try simp only [hl5_1]); (with_reducible repeat (first | apply Kd.R_alloc | apply Kd.R_drewN | apply Kd.R_drew)); exact HO_5.out⟩, ⟨by repeat (first | (with_reducible first | exact HB.out | apply below_alloc | apply pw_below_drewN | apply below_drew1) | exact HB.out)⟩⟩
       ·rw [if_neg c10] at H
        exact absurd H (by simp)
      ·rw [if_neg c9] at H
       exact absurd H (by simp)
     ·rw [if_neg c8] at H
      have c8b0 : decide (x15_1 < (y1129.length : Int)) = false := decide_eq_false c8
      have c8b8 := c8b0
      (try simp only [hl5_1] at c8b8)
      clear c8
      by_cases c14 : 0 ≤ a1
      ·rw [if_pos c14] at H
       have c14b0 : decide (0 ≤ a1) = true := decide_eq_true c14
       clear c14
       by_cases c15 : a1 < (x5_1.length : Int)
       ·rw [if_pos c15] at H
        have c15b0 : decide (a1 < (x5_1.length : Int)) = true := decide_eq_true c15
        have c15b8 := c15b0
        (try simp only [hl5_1] at c15b8)
        clear c15
        obtain ⟨y1133, hy1133⟩ : ∃ y_ : List Int, y_ = (x5_1.set (a1 : Int).toNat 0) := ⟨_, rfl⟩
        replace H : (impl_farAround.l1 k1 l0 y1133 (([a1] : List Int))) = some r := by first | (rw [hy1133]; with_reducible exact H) | (have H2_ := (Option.bind_some _ _).symm.trans H; rw [hy1133]; with_reducible exact H2_) | (have H2_ := (Option.bind_some _ _).symm.trans H; with_reducible exact H2_) | with_reducible exact H | (rw [hy1133]; exact H) | exact H
        have Ny1133 := Aside0.mk hy1133
        clear hy1133
        obtain ⟨y1134, hy1134⟩ : ∃ y_ : List Int, y_ = (([a1] : List Int)) := ⟨_, rfl⟩
        replace H : (impl_farAround.l1 k1 l0 y1133 y1134) = some r := by first | (rw [hy1134]; with_reducible exact H) | (have H2_ := (Option.bind_some _ _).symm.trans H; rw [hy1134]; with_reducible exact H2_) | (have H2_ := (Option.bind_some _ _).symm.trans H; with_reducible exact H2_) | with_reducible exact H | (rw [hy1134]; exact H) | exact H
        have Ny1134 := Aside0.mk hy1134
        clear hy1134
        have H' := Aside0.mk H
        clear H
        have p16 : 0 ≤ (a1 : Int) := of_decide_eq_true (by first | (with_reducible assumption) | assumption)
        have q16 : (a1 : Int) < ((x5_1.length : Int) : Int) := of_decide_eq_true (by first | (with_reducible assumption) | assumption)
        obtain ⟨go16, co16, eo16, gb16, gl16, cl16, HG16⟩ := Kd.R_form HO_5.out (by omega)
        (first | cases eo16 | (injection eo16 with ea_ en_ ec_; (first | subst ea_ | (injection ea_ with ea_; subst ea_)); subst ec_; clear en_))
        have GB16 := Aside0.mk gb16
        have GG16 := Aside0.mk HG16
        clear gb16 gl16 HG16
        obtain ⟨hx16_0, hf16_0⟩ := Kd.R_celln 0 HO_5.out (a1 : Int) p16 q16
        replace p16 := eq_true p16
        replace q16 := eq_true q16
        have HP17 := Kd.R_putg HO_5.out (a1 : Int) 0
        go_wp2_with (first | ((with_reducible refine gate_store (t := 3) (p := 24) rfl ?_); refine store_event (t := 3) (p := 24) (v := ?vo_w18) (w1 := (wr.setCell ⟨go16, (a1 : Int).toNat, none⟩ (.int .i64 0))) ?hg ?ho ?hn ?hr ?_; (case ho => rfl); (case hg => rfl); (case hn => rfl); (case hr => first | (go_simp; done) | (go_simp; rfl)); intro w18 hw; have hg : wr.grownBy w18 (some go16) := (by rw [hw]; exact HP17.2); have hp_ : Kd.R (Kd.int .i64) 3 w18 w.heap.size (fun _ => True) (.slice (some ⟨go16, 0, none⟩) x5_1.length co7) y1133 := (by rw [hw, Ny1133.out]; exact HP17.1); clear HP17; have n0_ := Aside0.mk (hp_); have n1_ := Aside0.mk ((by rw [hw]; exact below_set (HB.out) GB16.out : Below w.heap.size w w18)); clear HO_5; clear HB; have HO_5 := n0_; have HB := n1_; clear n0_ n1_; clear hg hw hp_) | ((with_reducible refine gate_dst (N := 26) rfl ?_); refine Kd.R_lit (Kd.int .i64) _ 3 ?hg (N := 26) ?hd (xs := ([a1] : List Int)) (inner := [.int .i64 a1]) (ok := fun _ => True) (okp := fun _ => True) ?hr ?hp (fun _ hk => hk) trivial (Below.refl _ _) (Nat.le_refl _) (by simp) ?_; (case hd => rfl); (case hg => rfl); (case hr => first | (go_simp; done) | (go_simp; rfl)); (case hp => exact (Reps.one (show Kd.M (Kd.int .i64) _ _ _ a1 [.int .i64 a1] from rfl) (Reps.none _ _))); intro v1135 w19 ho20 hb hg_ hnew_; clear hg_ hnew_; (first | rw [← Ny1134.out] at ho20 | (simp only [Int.reduceToNat] at ho20; rw [← Ny1134.out] at ho20)); have n0_ := Aside0.mk (Kd.R_elder' (by (with_reducible repeat (first | apply Kd.R_alloc | apply Kd.R_drewN | apply Kd.R_drew)); exact HO_5.out) (Kd.R_base ho20) hb); have n1_ := Aside0.mk (Kd.R_lower (Kd.R_new' ho20 (Kd.R_lt (by (with_reducible repeat (first | apply Kd.R_alloc | apply Kd.R_drewN | apply Kd.R_drew)); exact HO_5.out))) (below_size (by repeat (first | (with_reducible first | exact HB.out | apply below_alloc | apply pw_below_drewN | apply below_drew1) | exact HB.out)))); have n2_ := Aside0.mk (below_step (by repeat (first | (with_reducible first | exact HB.out | apply below_alloc | apply pw_below_drewN | apply below_drew1) | exact HB.out)) hb); clear HO_5; clear HB; have HO_5 := n0_; have HO1136 := n1_; have HB := n2_; clear n0_ n1_ n2_; clear hb ho20))
        go_loopg [7] k1 (fun kq v7 w' => ∃ (x5_2 : List Int) (x7_2 : List Int), Aside0 (impl_farAround.l1 kq l0 x5_2 x7_2 = some r) ∧ Aside0 (kq ≤ k1) ∧ Aside0 (Kd.R (Kd.int .i64) 3 w' w.heap.size (fun k_ => some k_ ≠ (v7 : Value).ownBlock) (.slice (some ⟨go16, 0, none⟩) x5_1.length co7) x5_2) ∧ Aside0 (Kd.Q (Kd.int .i64) 3 w' w.heap.size (fun k_ => some k_ ≠ ((.slice (some ⟨go16, 0, none⟩) x5_1.length co7) : Value).ownBlock) v7 x7_2) ∧ Aside0 (Below w.heap.size w w'))
        case atStart => exact ⟨(y1133), (y1134), H', ⟨Nat.le_refl _⟩, ⟨by (try simp only [hl5_1]); (with_reducible repeat (first | apply Kd.R_alloc | apply Kd.R_drewN | apply Kd.R_drew)); exact Kd.R_mono HO_5.out (fun _ hk => hk.2)⟩, ⟨Kd.Q_of_R (by (try simp only [hl5_1]); (with_reducible repeat (first | apply Kd.R_alloc | apply Kd.R_drewN | apply Kd.R_drew)); exact Kd.R_mono HO1136.out (fun _ hk => hk.2))⟩, ⟨by repeat (first | (with_reducible first | exact HB.out | apply below_alloc | apply pw_below_drewN | apply below_drew1) | exact HB.out)⟩⟩
        case round =>
         clear H'
         try clear c1; try clear p1; try clear q1; try clear hx1; try clear p2; try clear c3; try clear c3b0; try clear c3b1; try clear c4; try clear c4b0; try clear c4b1; try clear p6; try clear c8; try clear c8b0; try clear c8b8; try clear c9; try clear c9b0; try clear c10; try clear c10b0; try clear c10b8; try clear p11; try clear q11; try clear hx11; try clear hf11; try clear c14; try clear c14b0; try clear c15; try clear c15b0; try clear c15b8; try clear p16; try clear q16; try clear hx16; try clear hf16; try clear hx11_0; try clear hx16_0; try clear p11; try clear p16; try clear p2; try clear q11
         try clear q16
         obtain ⟨x5_2, x7_2, HA, HK2, HO_5, HO_7, HB⟩ := hrel
         have hl5_2 := (Kd.R_reads' HO_5.out).1
         rw [hl5_2] at HO_5
         (try simp only [hl5_2])
         (try simp only [hl5_2] at HO_7)
         cases gk with
         | zero => exact absurd HA.out (by simp [impl_farAround.l1])
         | succ k2 =>
          have H := HA.out
          clear HA
          simp only [impl_farAround.l1] at H
          by_cases c21 : (x7_2.length : Int) > 0
          ·rw [if_pos c21] at H
           have c21b0 : decide (0 < (x7_2.length : Int)) = true := decide_eq_true c21
           have c21b8 := c21b0
           (try simp only [hl5_1, hl5_2] at c21b8)
           have c21b1 : decide (0 < x7_2.length) = true := decide_eq_true (by omega)
           have c21b9 := c21b1
           (try simp only [hl5_1, hl5_2] at c21b9)
           clear c21
           by_cases c22 : 0 < (x7_2.length : Int)
           ·rw [if_pos c22] at H
            have c22b0 : decide (0 < (x7_2.length : Int)) = true := decide_eq_true c22
            have c22b8 := c22b0
            (try simp only [hl5_1, hl5_2] at c22b8)
            have c22b1 : decide (0 < x7_2.length) = true := decide_eq_true (by omega)
            have c22b9 := c22b1
            (try simp only [hl5_1, hl5_2] at c22b9)
            clear c22
            by_cases c23 : 0 ≤ (rd x7_2 0)
            ·rw [if_pos c23] at H
             have c23b0 : decide (0 ≤ (rd x7_2 0)) = true := decide_eq_true c23
             clear c23
             by_cases c24 : (rd x7_2 0) < (l0.length : Int)
             ·rw [if_pos c24] at H
              have c24b0 : decide ((rd x7_2 0) < (l0.length : Int)) = true := decide_eq_true c24
              have c24b8 := c24b0
              (try simp only [hl5_1, hl5_2] at c24b8)
              clear c24
              have H' := Aside0.mk H
              clear H
              obtain ⟨Ao25, co25, eo25, _⟩ := Kd.Q_slice HO_7.out
              subst eo25
              have p1137 : 0 ≤ (0 : Int) := (by omega)
              have q1137 : 0 < (x7_2.length : Int) := of_decide_eq_true (by first | (with_reducible assumption) | assumption)
              obtain ⟨ad1137, e1137, hx1137_0⟩ := Kd.at_int (Kd.Q_reads' HO_7.out).2.2 0 p1137 q1137
              cases e1137
              have qi1137 : (0 < x7_2.length) = True := eq_true (by omega)
              (try rw [show ((0 : Int)).toNat = 0 from rfl] at hx1137_0)
              (try rw [Addr.add_zero'] at hx1137_0)
              replace p1137 := eq_true p1137
              replace q1137 := eq_true q1137
              have p1138 : 0 ≤ ((rd x7_2 0) : Int) := of_decide_eq_true (by first | (with_reducible assumption) | assumption)
              have q1138 : (rd x7_2 0) < (l0.length : Int) := of_decide_eq_true (by first | (with_reducible assumption) | assumption)
              obtain ⟨ad1138, A1138_0, c1138_0, e1138, hx1138_0, hl1138_0, hi1138_0⟩ := at_L1 HR0.out (rd x7_2 0) p1138 q1138
              cases e1138
              (first | replace hx1138_0 := (HB.out.cell (World.block_lt_of_cell? w _ hx1138_0)).trans hx1138_0 | skip)
              have HR1138_0 := Aside0.mk hi1138_0
              have HC1138_0 := Aside0.mk hl1138_0
              clear hi1138_0 hl1138_0
              replace p1138 := eq_true p1138
              replace q1138 := eq_true q1138
              go_wp2
              go_loopg [7, 39] k2 (fun kq v7 v39 w' => ∃ (x5_3 : List Int) (x7_3 : List Int) (x39_3 : Int), v39 = .int .i64 x39_3 ∧ Aside0 (impl_farAround.l2 kq l0 x5_3 x7_3 (rd_L1 l0 (rd x7_2 0)) ((rd_L1 l0 (rd x7_2 0)).length : Int) x39_3 = some r) ∧ Aside0 (kq ≤ k2) ∧ Aside0 (Kd.R (Kd.int .i64) 3 w' w.heap.size (fun k_ => some k_ ≠ (v7 : Value).ownBlock) (.slice (some ⟨go16, 0, none⟩) x5_2.length co7) x5_3) ∧ Aside0 (Kd.Q (Kd.int .i64) 3 w' w.heap.size (fun k_ => some k_ ≠ ((.slice (some ⟨go16, 0, none⟩) x5_2.length co7) : Value).ownBlock) v7 x7_3) ∧ Aside0 (Below w.heap.size w w'))
              case atStart => exact ⟨(x5_2), (x7_2), (0), (by first | rfl | (simp; done) | (simp [*]; done)), H', ⟨Nat.le_refl _⟩, ⟨by (try simp only [hl5_1]); (try simp only [hl5_2]); (with_reducible repeat (first | apply Kd.R_alloc | apply Kd.R_drewN | apply Kd.R_drew)); exact HO_5.out⟩, ⟨by (try simp only [hl5_1]); (try simp only [hl5_2]); (with_reducible repeat (first | apply Kd.Q_alloc | apply Kd.Q_drewN | apply Kd.Q_drew)); exact HO_7.out⟩, ⟨by repeat (first | (with_reducible first | exact HB.out | apply below_alloc | apply pw_below_drewN | apply below_drew1) | exact HB.out)⟩⟩
              case round =>
               clear H'
               try clear c1; try clear p1; try clear q1; try clear hx1; try clear qi1; try clear c2; try clear p2; try clear c3; try clear c3b0; try clear c3b1; try clear c4; try clear c4b0; try clear c4b1; try clear p6; try clear c8; try clear c8b0; try clear c8b8; try clear c9; try clear c9b0; try clear c10; try clear c10b0; try clear c10b8; try clear c11; try clear p11; try clear q11; try clear hx11; try clear qi11; try clear hf11; try clear c14; try clear c14b0; try clear c15; try clear c15b0; try clear c15b8; try clear p16; try clear q16; try clear hx16; try clear hf16; try clear c21; try clear c21b0; try clear c21b1
               try clear c21b8; try clear c21b9; try clear c22; try clear c22b0; try clear c22b1; try clear c22b8; try clear c22b9; try clear c23; try clear c23b0; try clear c24; try clear c24b0; try clear c24b8; try clear hx1137_0; try clear hx1138_0; try clear hx11_0; try clear hx16_0; try clear p1; try clear p11; try clear p1137; try clear p1138; try clear p16; try clear p2; try clear p6; try clear q1; try clear q11; try clear q1137; try clear q1138; try clear q16
               obtain ⟨x5_3, x7_3, x39_3, rfl, HA, HK3, HO_5, HO_7, HB⟩ := hrel
               have hl5_3 := (Kd.R_reads' HO_5.out).1
               rw [hl5_3] at HO_5
               (try simp only [hl5_3])
               (try simp only [hl5_3] at HO_7)
               cases gk with
               | zero => exact absurd HA.out (by simp [impl_farAround.l2])
               | succ k3 =>
                have H := HA.out
                clear HA
                simp only [impl_farAround.l2] at H
                by_cases c26 : x39_3 < ((rd_L1 l0 (rd x7_2 0)).length : Int)
                ·rw [if_pos c26] at H
                 have c26b0 : decide (x39_3 < ((rd_L1 l0 (rd x7_2 0)).length : Int)) = true := decide_eq_true c26
                 have c26b8 := c26b0
                 (try simp only [hl5_1, hl5_2, hl5_3] at c26b8)
                 clear c26
                 by_cases c27 : 0 ≤ x39_3
                 ·rw [if_pos c27] at H
                  have c27b0 : decide (0 ≤ x39_3) = true := decide_eq_true c27
                  clear c27
                  by_cases c28 : x39_3 < ((rd_L1 l0 (rd x7_2 0)).length : Int)
                  ·rw [if_pos c28] at H
                   have c28b0 : decide (x39_3 < ((rd_L1 l0 (rd x7_2 0)).length : Int)) = true := decide_eq_true c28
                   have c28b8 := c28b0
                   (try simp only [hl5_1, hl5_2, hl5_3] at c28b8)
                   clear c28
                   by_cases c29 : 0 ≤ (rd (rd_L1 l0 (rd x7_2 0)) x39_3)
                   ·rw [if_pos c29] at H
                    have c29b0 : decide (0 ≤ (rd (rd_L1 l0 (rd x7_2 0)) x39_3)) = true := decide_eq_true c29
                    clear c29
                    by_cases c30 : (rd (rd_L1 l0 (rd x7_2 0)) x39_3) < (x5_3.length : Int)
                    ·rw [if_pos c30] at H
                     have c30b0 : decide ((rd (rd_L1 l0 (rd x7_2 0)) x39_3) < (x5_3.length : Int)) = true := decide_eq_true c30
                     have c30b8 := c30b0
                     (try simp only [hl5_1, hl5_2, hl5_3] at c30b8)
                     clear c30
                     by_cases c31 : (rd x5_3 (rd (rd_L1 l0 (rd x7_2 0)) x39_3)) < 0
                     ·rw [if_pos c31] at H
                      have c31b0 : decide ((rd x5_3 (rd (rd_L1 l0 (rd x7_2 0)) x39_3)) < 0) = true := decide_eq_true c31
                      clear c31
                      by_cases c32 : 0 < (x7_3.length : Int)
                      ·rw [if_pos c32] at H
                       have c32b0 : decide (0 < (x7_3.length : Int)) = true := decide_eq_true c32
                       have c32b8 := c32b0
                       (try simp only [hl5_1, hl5_2, hl5_3] at c32b8)
                       have c32b1 : decide (0 < x7_3.length) = true := decide_eq_true (by omega)
                       have c32b9 := c32b1
                       (try simp only [hl5_1, hl5_2, hl5_3] at c32b9)
                       clear c32
                       by_cases c33 : 0 ≤ (rd x7_3 0)
                       ·rw [if_pos c33] at H
                        have c33b0 : decide (0 ≤ (rd x7_3 0)) = true := decide_eq_true c33
                        clear c33
                        by_cases c34 : (rd x7_3 0) < (x5_3.length : Int)
                        ·rw [if_pos c34] at H
                         have c34b0 : decide ((rd x7_3 0) < (x5_3.length : Int)) = true := decide_eq_true c34
                         have c34b8 := c34b0
                         (try simp only [hl5_1, hl5_2, hl5_3] at c34b8)
                         clear c34
                         obtain ⟨y1143, hy1143⟩ : ∃ y_ : List Int, y_ = (x5_3.set ((rd (rd_L1 l0 (rd x7_2 0)) x39_3) : Int).toNat (wrap64 ((rd x5_3 (rd x7_3 0)) + 1))) := ⟨_, rfl⟩
                         replace H : (if x7_3.length < 17592186044416 then (impl_farAround.l2 k3 l0 y1143 (x7_3 ++ [rd (rd_L1 l0 (rd x7_2 0)) x39_3]) (rd_L1 l0 (rd x7_2 0)) ((rd_L1 l0 (rd x7_2 0)).length : Int) (wrap64 (x39_3 + 1))) else (none)) = some r := by first | (rw [hy1143]; with_reducible exact H) | (have H2_ := (Option.bind_some _ _).symm.trans H; rw [hy1143]; with_reducible exact H2_) | (have H2_ := (Option.bind_some _ _).symm.trans H; with_reducible exact H2_) | with_reducible exact H | (rw [hy1143]; exact H) | exact H
                         have Ny1143 := Aside0.mk hy1143
                         clear hy1143
                         by_cases c36 : x7_3.length < 17592186044416
                         ·rw [if_pos c36] at H
                          have LMc36 := Aside0.mk c36
                          clear c36
                          obtain ⟨y1144, hy1144⟩ : ∃ y_ : List Int, y_ = (x7_3 ++ [rd (rd_L1 l0 (rd x7_2 0)) x39_3]) := ⟨_, rfl⟩
                          replace H : (impl_farAround.l2 k3 l0 y1143 y1144 (rd_L1 l0 (rd x7_2 0)) ((rd_L1 l0 (rd x7_2 0)).length : Int) (wrap64 (x39_3 + 1))) = some r := by first | (rw [hy1144]; with_reducible exact H) | (have H2_ := (Option.bind_some _ _).symm.trans H; rw [hy1144]; with_reducible exact H2_) | (have H2_ := (Option.bind_some _ _).symm.trans H; with_reducible exact H2_) | with_reducible exact H | (rw [hy1144]; exact H) | exact H
                          have Ny1144 := Aside0.mk hy1144
                          clear hy1144
                          have H' := Aside0.mk H
                          clear H
                          have p1139 : 0 ≤ (x39_3 : Int) := of_decide_eq_true (by first | (with_reducible assumption) | assumption)
                          have q1139 : x39_3 < ((rd_L1 l0 (rd x7_2 0)).length : Int) := of_decide_eq_true (by first | (with_reducible assumption) | assumption)
                          obtain ⟨ad1139, e1139, hx1139_0⟩ := Kd.at_int HR1138_0.out x39_3 p1139 q1139
                          cases e1139
                          (first | replace hx1139_0 := (HB.out.cell (World.block_lt_of_cell? w _ hx1139_0)).trans hx1139_0 | skip)
                          replace p1139 := eq_true p1139
                          replace q1139 := eq_true q1139
                          have p1140 : 0 ≤ ((rd (rd_L1 l0 (rd x7_2 0)) x39_3) : Int) := of_decide_eq_true (by first | (with_reducible assumption) | assumption)
                          have q1140 : (rd (rd_L1 l0 (rd x7_2 0)) x39_3) < (x5_3.length : Int) := of_decide_eq_true (by first | (with_reducible assumption) | assumption)
                          obtain ⟨ad1140, e1140, hx1140_0⟩ := Kd.at_int (Kd.R_reads' HO_5.out).2.2 (rd (rd_L1 l0 (rd x7_2 0)) x39_3) p1140 q1140
                          obtain rfl : (⟨go16, 0, none⟩ : Addr) = ad1140 := (by injection e1140)
                          (first | simp only [add_plain] at hx1140_0 | simp only [add_at] at hx1140_0 | simp only [Addr.add, Nat.zero_add] at hx1140_0 | skip)
                          replace p1140 := eq_true p1140
                          replace q1140 := eq_true q1140
                          obtain ⟨Ao37, co37, eo37, _⟩ := Kd.Q_slice HO_7.out
                          subst eo37
                          have p1141 : 0 ≤ (0 : Int) := (by omega)
                          have q1141 : 0 < (x7_3.length : Int) := of_decide_eq_true (by first | (with_reducible assumption) | assumption)
                          obtain ⟨ad1141, e1141, hx1141_0⟩ := Kd.at_int (Kd.Q_reads' HO_7.out).2.2 0 p1141 q1141
                          cases e1141
                          have qi1141 : (0 < x7_3.length) = True := eq_true (by omega)
                          (try rw [show ((0 : Int)).toNat = 0 from rfl] at hx1141_0)
                          (try rw [Addr.add_zero'] at hx1141_0)
                          replace p1141 := eq_true p1141
                          replace q1141 := eq_true q1141
                          have p1142 : 0 ≤ ((rd x7_3 0) : Int) := of_decide_eq_true (by first | (with_reducible assumption) | assumption)
                          have q1142 : (rd x7_3 0) < (x5_3.length : Int) := of_decide_eq_true (by first | (with_reducible assumption) | assumption)
                          obtain ⟨ad1142, e1142, hx1142_0⟩ := Kd.at_int (Kd.R_reads' HO_5.out).2.2 (rd x7_3 0) p1142 q1142
                          obtain rfl : (⟨go16, 0, none⟩ : Addr) = ad1142 := (by injection e1142)
                          (first | simp only [add_plain] at hx1142_0 | simp only [add_at] at hx1142_0 | simp only [Addr.add, Nat.zero_add] at hx1142_0 | skip)
                          replace p1142 := eq_true p1142
                          replace q1142 := eq_true q1142
                          have p35 : 0 ≤ ((rd (rd_L1 l0 (rd x7_2 0)) x39_3) : Int) := of_decide_eq_true (by first | (with_reducible assumption) | assumption)
                          have q35 : ((rd (rd_L1 l0 (rd x7_2 0)) x39_3) : Int) < ((x5_3.length : Int) : Int) := of_decide_eq_true (by first | (with_reducible assumption) | assumption)
                          obtain ⟨hx35_0, hf35_0⟩ := Kd.R_celln 0 HO_5.out ((rd (rd_L1 l0 (rd x7_2 0)) x39_3) : Int) p35 q35
                          replace p35 := eq_true p35
                          replace q35 := eq_true q35
                          have HP38 := Kd.R_putg HO_5.out ((rd (rd_L1 l0 (rd x7_2 0)) x39_3) : Int) (wrap64 ((rd x5_3 (rd x7_3 0)) + 1))
                          go_wp2_with (first | ((with_reducible refine gate_store (t := 3) (p := 57) rfl ?_); refine store_event (t := 3) (p := 57) (v := ?vo_w39) (w1 := (wr.setCell ⟨go16, ((rd (rd_L1 l0 (rd x7_2 0)) x39_3) : Int).toNat, none⟩ (.int .i64 (wrap64 ((rd x5_3 (rd x7_3 0)) + 1))))) ?hg ?ho ?hn ?hr ?_; (case ho => rfl); (case hg => rfl); (case hn => rfl); (case hr => first | (go_simp; done) | (go_simp; rfl)); intro w39 hw; have hg : wr.grownBy w39 (some go16) := (by rw [hw]; exact HP38.2); have hp_ : Kd.R (Kd.int .i64) 3 w39 w.heap.size (fun k_ => some k_ ≠ (.slice (some ad1141) x7_3.length co37 : Value).ownBlock) (.slice (some ⟨go16, 0, none⟩) x5_3.length co7) y1143 := (by rw [hw, Ny1143.out]; exact HP38.1); clear HP38; have n0_ := Aside0.mk (hp_); have n1_ := Aside0.mk (Kd.Q_after (v := (.slice (some ⟨go16, 0, none⟩) x5_3.length co7)) (v1 := (.slice (some ⟨go16, 0, none⟩) x5_3.length co7)) (ok := (fun _ => True)) (by (with_reducible repeat (first | apply Kd.Q_alloc | apply Kd.Q_drewN | apply Kd.Q_drew)); exact Kd.Q_mono HO_7.out (fun _ hk => ⟨trivial, hk⟩)) hg (.inl rfl)); have n2_ := Aside0.mk ((by rw [hw]; exact below_set (HB.out) GB16.out : Below w.heap.size w w39)); clear HO_5; clear HO_7; clear HB; have HO_5 := n0_; have HO_7 := n1_; have HB := n2_; clear n0_ n1_ n2_; clear hg hw hp_) | ((with_reducible refine gate_builtin (b := .append) (xs := #[.tmp 58, .tmp 60]) rfl ?_); at_builtin; refine Kd.Q_append (Kd.int .i64) (w0 := w) w.heap.size rfl (.tmp 58) (.tmp 60) 22 3 (.int .i64 0) 8 rfl Try.underlying22 info3 rfl (by decide) (by omega) (.slice (some ad1141) x7_3.length co37) x7_3 (rd (rd_L1 l0 (rd x7_2 0)) x39_3) [.int .i64 (rd (rd_L1 l0 (rd x7_2 0)) x39_3)] (fun k_ => some k_ ≠ (.slice (some ⟨go16, 0, none⟩) x5_3.length co7 : Value).ownBlock) (fun _ => False) rfl rfl ?aP (fun _ hk => hk.elim) ?aF ?aO ?aB ?aS ?aL ?_; (case aP => exact rfl); (case aB => exact (by repeat (first | (with_reducible first | exact HB.out | apply below_alloc | apply pw_below_drewN | apply below_drew1) | exact HB.out))); (case aF => exact (fun k_ hk => Kd.fresh' (Kd.R_lt (by (with_reducible repeat (first | apply Kd.R_alloc | apply Kd.R_drewN | apply Kd.R_drew)); exact HO_5.out)) k_ hk)); (case aO => exact (by (with_reducible repeat (first | apply Kd.Q_alloc | apply Kd.Q_drewN | apply Kd.Q_drew)); exact Kd.Q_mono HO_7.out (fun _ hk => hk.2))); (case aS => exact (below_size (by repeat (first | (with_reducible first | exact HB.out | apply below_alloc | apply pw_below_drewN | apply below_drew1) | exact HB.out)))); (case aL => have := LMc36.out; omega); intro v1145 w40 ho hb hg hat; rw [← Ny1144.out] at ho; have n0_ := Aside0.mk (Kd.R_after (ok := (fun _ => True)) (by (with_reducible repeat (first | apply Kd.R_alloc | apply Kd.R_drewN | apply Kd.R_drew)); exact Kd.R_mono HO_5.out (fun _ hk => ⟨trivial, hk⟩)) hg hat); have n1_ := Aside0.mk (hb); have n2_ := Aside0.mk (ho); clear HO_5; clear HB; clear HO_7; have HO_5 := n0_; have HB := n1_; have HO1146 := n2_; clear n0_ n1_ n2_; clear ho hb hg hat))
                          (try simp only [← hl5_3])
                          go_roundg k3
                          case measure => have := HK1.out; have := HK2.out; have := HK3.out; omega
                          case rel => exact ⟨(y1143), (y1144), (wrap64 (x39_3 + 1)), (by first | rfl | (simp; done) | (simp [*]; done)), H', ⟨by have := HK1.out; have := HK2.out; have := HK3.out; omega⟩, ⟨by (try simp only [hl5_1]); (try simp only [hl5_2]); (try simp only [hl5_3]); (with_reducible repeat (first | apply Kd.R_alloc | apply Kd.R_drewN | apply Kd.R_drew)); exact Kd.R_mono HO_5.out (fun _ hk => hk.2)⟩, ⟨by (try simp only [hl5_1]); (try simp only [hl5_2]); (try simp only [hl5_3]); (with_reducible repeat (first | apply Kd.Q_alloc | apply Kd.Q_drewN | apply Kd.Q_drew)); exact HO1146.out⟩, ⟨by repeat (first | (with_reducible first | exact HB.out | apply below_alloc | apply pw_below_drewN | apply below_drew1) | exact HB.out)⟩⟩
                         ·rw [if_neg c36] at H
                          exact absurd H (by simp)
                        ·rw [if_neg c34] at H
                         exact absurd H (by simp)
                       ·rw [if_neg c33] at H
                        exact absurd H (by simp)
                      ·rw [if_neg c32] at H
                       exact absurd H (by simp)
                     ·rw [if_neg c31] at H
                      have c31b0 : decide ((rd x5_3 (rd (rd_L1 l0 (rd x7_2 0)) x39_3)) < 0) = false := decide_eq_false c31
                      clear c31
                      have H' := Aside0.mk H
                      clear H
                      have p1139 : 0 ≤ (x39_3 : Int) := of_decide_eq_true (by first | (with_reducible assumption) | assumption)
                      have q1139 : x39_3 < ((rd_L1 l0 (rd x7_2 0)).length : Int) := of_decide_eq_true (by first | (with_reducible assumption) | assumption)
                      obtain ⟨ad1139, e1139, hx1139_0⟩ := Kd.at_int HR1138_0.out x39_3 p1139 q1139
                      cases e1139
                      (first | replace hx1139_0 := (HB.out.cell (World.block_lt_of_cell? w _ hx1139_0)).trans hx1139_0 | skip)
                      replace p1139 := eq_true p1139
                      replace q1139 := eq_true q1139
                      have p1140 : 0 ≤ ((rd (rd_L1 l0 (rd x7_2 0)) x39_3) : Int) := of_decide_eq_true (by first | (with_reducible assumption) | assumption)
                      have q1140 : (rd (rd_L1 l0 (rd x7_2 0)) x39_3) < (x5_3.length : Int) := of_decide_eq_true (by first | (with_reducible assumption) | assumption)
                      obtain ⟨ad1140, e1140, hx1140_0⟩ := Kd.at_int (Kd.R_reads' HO_5.out).2.2 (rd (rd_L1 l0 (rd x7_2 0)) x39_3) p1140 q1140
                      obtain rfl : (⟨go16, 0, none⟩ : Addr) = ad1140 := (by injection e1140)
                      (first | simp only [add_plain] at hx1140_0 | simp only [add_at] at hx1140_0 | simp only [Addr.add, Nat.zero_add] at hx1140_0 | skip)
                      replace p1140 := eq_true p1140
                      replace q1140 := eq_true q1140
                      go_wp2
                      (try simp only [← hl5_3])
                      go_roundg k3
                      case measure => have := HK1.out; have := HK2.out; have := HK3.out; omega
                      case rel => exact ⟨(x5_3), (x7_3), (wrap64 (x39_3 + 1)), (by first | rfl | (simp; done) | (simp [*]; done)), H', ⟨by have := HK1.out; have := HK2.out; have := HK3.out; omega⟩, ⟨by (try simp only [hl5_1]); (try simp only [hl5_2]); (try simp only [hl5_3]); (with_reducible repeat (first | apply Kd.R_alloc | apply Kd.R_drewN | apply Kd.R_drew)); exact HO_5.out⟩, ⟨by (try simp only [hl5_1]); (try simp only [hl5_2]); (try simp only [hl5_3]); (with_reducible repeat (first | apply Kd.Q_alloc | apply Kd.Q_drewN | apply Kd.Q_drew)); exact HO_7.out⟩, ⟨by repeat (first | (with_reducible first | exact HB.out | apply below_alloc | apply pw_below_drewN | apply below_drew1) | exact HB.out)⟩⟩
                    ·rw [if_neg c30] at H
                     exact absurd H (by simp)
                   ·rw [if_neg c29] at H
                    exact absurd H (by simp)
                  ·rw [if_neg c28] at H
                   exact absurd H (by simp)
                 ·rw [if_neg c27] at H
                  exact absurd H (by simp)
                ·rw [if_neg c26] at H
                 have c26b0 : decide (x39_3 < ((rd_L1 l0 (rd x7_2 0)).length : Int)) = false := decide_eq_false c26
                 have c26b8 := c26b0
                 (try simp only [hl5_1, hl5_2, hl5_3] at c26b8)
                 clear c26
                 by_cases c41 : 1 ≤ (x7_3.length : Int)
                 ·rw [if_pos c41] at H
                  have c41b0 := eq_true c41
                  have c41b1 : decide (1 ≤ (x7_3.length : Int)) = true := decide_eq_true c41
                  clear c41
                  obtain ⟨y1147, hy1147⟩ : ∃ y_ : List Int, y_ = (x7_3.drop (1 : Int).toNat) := ⟨_, rfl⟩
                  replace H : (impl_farAround.l1 k3 l0 x5_3 y1147) = some r := by first | (rw [hy1147]; with_reducible exact H) | (have H2_ := (Option.bind_some _ _).symm.trans H; rw [hy1147]; with_reducible exact H2_) | (have H2_ := (Option.bind_some _ _).symm.trans H; with_reducible exact H2_) | with_reducible exact H | (rw [hy1147]; exact H) | exact H
                  have Ny1147 := Aside0.mk hy1147
                  clear hy1147
                  have H' := Aside0.mk H
                  clear H
                  obtain ⟨Ao42, co42, eo42, _⟩ := Kd.Q_slice HO_7.out
                  subst eo42
                  have q43 : (1 : Int) ≤ ((x7_3.length : Int) : Int) := of_decide_eq_true (by first | (with_reducible assumption) | assumption)
                  obtain ⟨i043, hi043, _, hsz43, _⟩ := info_parts info3
                  have hcut43 := cut_from (P := Try.prog) 22 3 .i64 Try.underlying22 hi043 1 hsz43 Ao42 x7_3.length co42 1 (by omega) q43
                  have hr43 := Kd.Q_drop (k := (1 : Int).toNat) HO_7.out (by omega)
                  obtain ⟨A43, hA43⟩ : ∃ A1, A1 = (if co42 = (1 : Int).toNat then Ao42 else (Ao42 : Option Addr).map (·.add ((1 : Int).toNat * 1))) := ⟨_, rfl⟩
                  obtain ⟨c43, hc43⟩ : ∃ c1, c1 = co42 - (1 : Int).toNat := ⟨_, rfl⟩
                  have hy43 : y1147.length = x7_3.length - (1 : Int).toNat := (by rw [Ny1147.out, List.length_drop])
                  rw [← Ny1147.out] at hr43
                  rw [← hy43, ← hA43, ← hc43] at hcut43
                  replace hr43 : Kd.Q (Kd.int .i64) 3 wr w.heap.size (fun k_ => some k_ ≠ (.slice (some ⟨go16, 0, none⟩) x5_3.length co7 : Value).ownBlock) (.slice A43 y1147.length c43) y1147 := (by rw [hA43, hc43, hy43]; exact hr43)
                  have HE43 : Aside0 ((Value.slice A43 y1147.length c43).ownBlock = (.slice Ao42 x7_3.length co42 : Value).ownBlock) := ⟨by rw [hA43]; split <;> (cases (Ao42 : Option Addr) <;> rfl)⟩
                  clear hy43 hi043 hsz43 HO_7 hA43 hc43
                  have HO1149 := Aside0.mk hr43
                  clear hr43
                  replace q43 := eq_true q43
                  have n_ := Aside0.mk (Kd.R_mono (ok' := fun k_ => some k_ ≠ (.slice A43 y1147.length c43 : Value).ownBlock) HO_5.out (fun k_ hk => (by rw [HE43.out]; exact hk)))
                  clear HO_5
                  have HO_5 := n_
                  clear n_
                  go_wp2
                  (try simp only [← hl5_2, ← hl5_3])
                  go_roundg k3
                  case measure => have := HK1.out; have := HK2.out; have := HK3.out; omega
                  case rel => exact ⟨(x5_3), (y1147), H', ⟨by have := HK1.out; have := HK2.out; have := HK3.out; omega⟩, ⟨by (try simp only [hl5_1]); (try simp only [hl5_2]); (try simp only [hl5_3]); (with_reducible repeat (first | apply Kd.R_alloc | apply Kd.R_drewN | apply Kd.R_drew)); exact HO_5.out⟩, ⟨by (try simp only [hl5_1]); (try simp only [hl5_2]); (try simp only [hl5_3]); (with_reducible repeat (first | apply Kd.Q_alloc | apply Kd.Q_drewN | apply Kd.Q_drew)); exact HO1149.out⟩, ⟨by repeat (first | (with_reducible first | exact HB.out | apply below_alloc | apply pw_below_drewN | apply below_drew1) | exact HB.out)⟩⟩
                 ·rw [if_neg c41] at H
                  exact absurd H (by simp)
             ·rw [if_neg c24] at H
              exact absurd H (by simp)
            ·rw [if_neg c23] at H
             exact absurd H (by simp)
           ·rw [if_neg c22] at H
            exact absurd H (by simp)
          ·rw [if_neg c21] at H
           have c21b0 : decide (0 < (x7_2.length : Int)) = false := decide_eq_false c21
           have c21b8 := c21b0
           (try simp only [hl5_1, hl5_2] at c21b8)
           have c21b1 : decide (0 < x7_2.length) = false := decide_eq_false (by omega)
           have c21b9 := c21b1
           (try simp only [hl5_1, hl5_2] at c21b9)
           clear c21
           obtain rfl := Option.some.inj H
           obtain ⟨Ao44, co44, eo44, _⟩ := Kd.Q_slice HO_7.out
           subst eo44
           go_wp2
           go_ret
           exact ⟨_, by first | rfl | (simp [errW_none, errW_some] <;> rfl) | (simp [*, errW_none, errW_some] <;> rfl), by (with_reducible repeat (first | apply Kd.R_alloc | apply Kd.R_drewN | apply Kd.R_drew)); exact Kd.R_mono HO_5.out (fun _ hk => trivial), by repeat (first | (with_reducible first | exact HB.out | apply below_alloc | apply pw_below_drewN | apply below_drew1) | exact HB.out)⟩
       ·rw [if_neg c15] at H
        exact absurd H (by simp)
      ·rw [if_neg c14] at H
       exact absurd H (by simp)
  ·rw [if_neg c4] at H
   exact absurd H (by simp)
 ·rw [if_neg c3] at H
  exact absurd H (by simp)

end Go.Proofs.Ytekajjhjjnfdpaa.Q

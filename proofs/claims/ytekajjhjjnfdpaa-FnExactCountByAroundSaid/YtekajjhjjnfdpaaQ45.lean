/- Written by a program of this session: functions of the translation as plain Lean functions, each with a proof that the call does what the plain function says; the conditions stand in each theorem. -/
import Derived.Test.YtekajjhjjnfdpaaQ0
import Derived.Test.YtekajjhjjnfdpaaQ44
namespace Go.Proofs.Ytekajjhjjnfdpaa.Q
open Go.RowKit Go.Proofs.YtekajjhjjnfdpaaW.PrintWords Go.Proofs.YtekajjhjjnfdpaaW.PrintLast Go.Proofs.YtekajjhjjnfdpaaW.PrintMore
attribute [local go_sem] max2_int min2_int max_two min_two max_three min_three max_four min_four   -- for this text's walks alone
set_option linter.unusedVariables false
set_option linter.unusedSimpArgs false

/-! ### impl_CountByAround: function 42 -/
def impl_CountByAround.j0 : Nat → Int → List (List Int) → Bool → Option (List Int × Bool)
 | 0, _, _, _ => none
 | k + 1, x2, x8, x23 => if x23 = true then (some (([] : List Int), false)) else ((impl_farAround.f k x8 x2).bind fun t1157 => ((impl_byDistance.f k t1157).bind fun t1160 => (some (t1160, true))))
def impl_CountByAround.f (k : Nat) (a0_0 : Int) (a0_1 : Int) (a0_2 : Bool) (a0_3 : Bool) (a1_0 : Int) (a1_1 : Int) (a2 : Int) : Option (List Int × Bool) := (impl_nearAround.f k a0_0 a0_1 a0_2 a0_3 a1_0 a1_1).bind fun bt1152 => (if bt1152.2 = true then ((impl_Around_has.f a0_0 a0_1 a0_2 a0_3 a2).bind fun t1156 => (impl_CountByAround.j0 k a2 bt1152.1 (!t1156))) else (impl_CountByAround.j0 k a2 bt1152.1 true))
set_option maxHeartbeats 8000000 in
set_option maxRecDepth 100000 in
theorem impl_CountByAround.calls (k : Nat) (a0_0 : Int) (a0_1 : Int) (a0_2 : Bool) (a0_3 : Bool) (a1_0 : Int) (a1_1 : Int) (a2 : Int) (r1 : List Int) (r2 : Bool) (w : World) (h : impl_CountByAround.f k a0_0 a0_1 a0_2 a0_3 a1_0 a1_1 a2 = some (r1, r2)) :
  Calls Try.prog 42 #[.agg #[.int .i64 a0_0, .int .i64 a0_1, .bool a0_2, .bool a0_3], .agg #[.int .i64 a1_0, .int .i64 a1_1], .int .i64 a2] w fun e w' => ∃ v0_ : Value, e = .returned (.tuple #[v0_, .bool r2]) ∧ Kd.R (Kd.int .i64) 3 w' w.heap.size (fun _ => True) v0_ r1 ∧ Below w.heap.size w w' := by
 have hu51 := Try.underlying51
 have hu32 := Try.underlying32
 have HB := Aside0.mk (Below.refl w.heap.size w)
 have H : ((impl_nearAround.f k a0_0 a0_1 a0_2 a0_3 a1_0 a1_1).bind fun bt1152 => (if bt1152.2 = true then ((impl_Around_has.f a0_0 a0_1 a0_2 a0_3 a2).bind fun t1156 => (impl_CountByAround.j0 k a2 bt1152.1 (!t1156))) else (impl_CountByAround.j0 k a2 bt1152.1 true))) = some (r1, r2) := h
 clear h
 replace H := Option.bind_eq_some_iff.mp H
 obtain ⟨⟨t1152, t1155⟩, A40, H⟩ := H
 replace H : (if t1155 = true then ((impl_Around_has.f a0_0 a0_1 a0_2 a0_3 a2).bind fun t1156 => (impl_CountByAround.j0 k a2 t1152 (!t1156))) else (impl_CountByAround.j0 k a2 t1152 true)) = some (r1, r2) := H
 have A4 := Aside0.mk A40
 clear A40
 have HC5 := Aside0.mk H
 clear H
 go_enter Try.func42, Try.ntmps42
 go_upto_region 2 with (first | ((with_reducible refine gate_dst (N := 3) rfl ?_); refine box_event ?hg (N := 3) ?hd (cs := #[.int .i64 a0_0, .int .i64 a0_1, .bool a0_2, .bool a0_3]) (t := 51) ?hr ?_; (case hd => rfl); (case hg => rfl); (case hr => first | (go_simp; done) | (go_simp; rfl)); intro gb1150 hg w6 hbox hb; have n0_ := Aside0.mk (below_step (by repeat (first | (with_reducible first | exact HB.out | apply below_alloc | apply pw_below_drewN | apply below_drew1) | exact HB.out)) hb); have n1_ := Aside0.mk (hbox); have n2_ := Aside0.mk ((by rw [hg]; exact (below_size (by repeat (first | (with_reducible first | exact HB.out | apply below_alloc | apply pw_below_drewN | apply below_drew1) | exact HB.out))) : w.heap.size ≤ gb1150)); have n3_ := Aside0.mk ((by rw [hg]; exact (below_size (by repeat (first | (with_reducible first | exact HB.out | apply below_alloc | apply pw_below_drewN | apply below_drew1) | exact HB.out))) : w.heap.size ≤ gb1150)); clear HB; have HB := n0_; have BK1150 := n1_; have GW1150 := n2_; have GE1150 := n3_; clear n0_ n1_ n2_ n3_; clear hb hbox hg) | ((with_reducible refine gate_dst (N := 4) rfl ?_); refine box_event ?hg (N := 4) ?hd (cs := #[.int .i64 a1_0, .int .i64 a1_1]) (t := 32) ?hr ?_; (case hd => rfl); (case hg => rfl); (case hr => first | (go_simp; done) | (go_simp; rfl)); intro gb1151 hg w7 hbox hb; have n0_ := Aside0.mk (blk_below (g := gb1150) (o := .cells #[.int .i64 a0_0, .int .i64 a0_1, .bool a0_2, .bool a0_3] 51 (0, 0)) (by (with_reducible repeat (first | refine blk_drewN ?_ _ | refine blk_drew ?_ | refine blk_alloc ?_ _)); exact BK1150.out) hb); have n1_ := Aside0.mk (below_step (by repeat (first | (with_reducible first | exact HB.out | apply below_alloc | apply pw_below_drewN | apply below_drew1 | refine below_set ?_ GE1150.out) | exact HB.out)) hb); have n2_ := Aside0.mk (hbox); have n3_ := Aside0.mk ((by rw [hg]; exact (below_size (by repeat (first | (with_reducible first | exact HB.out | apply below_alloc | apply pw_below_drewN | apply below_drew1 | refine below_set ?_ GE1150.out) | exact HB.out))) : w.heap.size ≤ gb1151)); have n4_ := Aside0.mk ((by rw [hg]; exact (below_size (by repeat (first | (with_reducible first | exact HB.out | apply below_alloc | apply pw_below_drewN | apply below_drew1 | refine below_set ?_ GE1150.out) | exact HB.out))) : w.heap.size ≤ gb1151)); have n5_ := Aside0.mk ((by rw [hg]; exact Nat.ne_of_lt (blk_lt (g := gb1150) (o := .cells #[.int .i64 a0_0, .int .i64 a0_1, .bool a0_2, .bool a0_3] 51 (0, 0)) (by (with_reducible repeat (first | refine blk_drewN ?_ _ | refine blk_drew ?_ | refine blk_alloc ?_ _)); exact BK1150.out)) : gb1150 ≠ gb1151)); have n6_ := Aside0.mk ((by rw [hg]; exact Nat.ne_of_gt (blk_lt (g := gb1150) (o := .cells #[.int .i64 a0_0, .int .i64 a0_1, .bool a0_2, .bool a0_3] 51 (0, 0)) (by (with_reducible repeat (first | refine blk_drewN ?_ _ | refine blk_drew ?_ | refine blk_alloc ?_ _)); exact BK1150.out)) : gb1151 ≠ gb1150)); clear BK1150; clear HB; have BK1150 := n0_; have HB := n1_; have BK1151 := n2_; have GW1151 := n3_; have GE1151 := n4_; have NB1150_1151 := n5_; have NB1151_1150 := n6_; clear n0_ n1_ n2_ n3_ n4_ n5_ n6_; clear hb hbox hg; have hnb8 := NB1150_1151.out; have hnc8 := NB1151_1150.out; have hcz9_0 : w7.cell? ⟨gb1150, 0, none⟩ = some (.int .i64 a0_0) := (blk_cell BK1150.out 0).trans rfl; have hcz9_1 : w7.cell? ⟨gb1150, 1, none⟩ = some (.int .i64 a0_1) := (blk_cell BK1150.out 1).trans rfl; have hcz9_2 : w7.cell? ⟨gb1150, 2, none⟩ = some (.bool a0_2) := (blk_cell BK1150.out 2).trans rfl; have hcz9_3 : w7.cell? ⟨gb1150, 3, none⟩ = some (.bool a0_3) := (blk_cell BK1150.out 3).trans rfl; have hfz9_0 := blk_frozen BK1150.out 0; have hfz9_1 := blk_frozen BK1150.out 1; have hfz9_2 := blk_frozen BK1150.out 2; have hfz9_3 := blk_frozen BK1150.out 3; have hcz10_0 : w7.cell? ⟨gb1151, 0, none⟩ = some (.int .i64 a1_0) := (blk_cell BK1151.out 0).trans rfl; have hcz10_1 : w7.cell? ⟨gb1151, 1, none⟩ = some (.int .i64 a1_1) := (blk_cell BK1151.out 1).trans rfl; have hfz10_0 := blk_frozen BK1151.out 0; have hfz10_1 := blk_frozen BK1151.out 1) | ((with_reducible refine gate_callee (f := 79) rfl ?_); refine goesL_ (some 13) rfl rfl Try.func79 (by kernel_rfl) rfl #[.agg #[.int .i64 a0_0, .int .i64 a0_1, .bool a0_2, .bool a0_3], .agg #[.int .i64 a1_0, .int .i64 a1_1]] rfl (by (try simp only [List.map_toArray, List.map_cons, List.map_nil]); first | done | rfl | (simp only [List.length_drop, List.length_take]; rfl)) ?_; (with_reducible refine (impl_nearAround.calls k a0_0 a0_1 a0_2 a0_3 a1_0 a1_1 t1152 t1155 _ A4.out).mono ?_); rintro e w11 ⟨v1153, rfl, ho0, hb⟩; refine ⟨_, rfl, ?_⟩; have n0_ := Aside0.mk (Kd.S_lower ho0 (below_size (by repeat (first | (with_reducible first | exact HB.out | apply below_alloc | apply pw_below_drewN | apply below_drew1 | refine below_set ?_ GE1150.out | refine below_set ?_ GE1151.out) | exact HB.out)))); have n1_ := Aside0.mk (blk_below (g := gb1150) (o := .cells #[.int .i64 a0_0, .int .i64 a0_1, .bool a0_2, .bool a0_3] 51 (0, 0)) (by (with_reducible repeat (first | refine blk_drewN ?_ _ | refine blk_drew ?_ | refine blk_alloc ?_ _)); exact BK1150.out) hb); have n2_ := Aside0.mk (blk_below (g := gb1151) (o := .cells #[.int .i64 a1_0, .int .i64 a1_1] 32 (0, 0)) (by (with_reducible repeat (first | refine blk_drewN ?_ _ | refine blk_drew ?_ | refine blk_alloc ?_ _)); exact BK1151.out) hb); have n3_ := Aside0.mk (below_step (by repeat (first | (with_reducible first | exact HB.out | apply below_alloc | apply pw_below_drewN | apply below_drew1 | refine below_set ?_ GE1150.out | refine below_set ?_ GE1151.out) | exact HB.out)) hb); clear BK1150; clear BK1151; clear HB; have HO1154 := n0_; have BK1150 := n1_; have BK1151 := n2_; have HB := n3_; clear n0_ n1_ n2_ n3_; (try clear hb); (try clear hb2); (try clear hk); (try clear hi); (try clear ho0); (try clear hna_); (try clear hnb_)))
 (try simp only [Act.put, List.setIfInBounds_toArray, List.set_cons_zero, List.set_cons_succ])
 go_cut [23] (fun v23 wc => ∃ (kq : Nat) (x23_4 : Bool), v23 = .bool x23_4 ∧ Aside0 (impl_CountByAround.j0 kq a2 t1152 x23_4 = some (r1, r2)) ∧ Aside0 (kq ≤ k) ∧ Aside0 (Kd.S (Kd.slice 3 (Kd.int .i64)) 22 wc w.heap.size (fun _ => True) v1153 t1152) ∧ Aside0 (wc.heap[gb1150]? = some (.cells #[.int .i64 a0_0, .int .i64 a0_1, .bool a0_2, .bool a0_3] 51 (0, 0))) ∧ Aside0 (wc.heap[gb1151]? = some (.cells #[.int .i64 a1_0, .int .i64 a1_1] 32 (0, 0))) ∧ Aside0 (Below w.heap.size w wc))
 case first =>
  have H := HC5.out
  clear HC5
  by_cases c12 : t1155 = true
  ·subst c12
   have H1 : ((impl_Around_has.f a0_0 a0_1 a0_2 a0_3 a2).bind fun t1156 => (impl_CountByAround.j0 k a2 t1152 (!t1156))) = some (r1, r2) := by rw [if_pos rfl] at H; exact H
   clear H
   have H := H1
   clear H1
   replace H := Option.bind_eq_some_iff.mp H
   obtain ⟨t1156, A130, H⟩ := H
   replace H : (impl_CountByAround.j0 k a2 t1152 (!t1156)) = some (r1, r2) := H
   have A13 := Aside0.mk A130
   clear A130
   have H' := Aside0.mk H
   clear H
   have hnb14 := NB1150_1151.out
   have hnc14 := NB1151_1150.out
   have hcz15_0 : w11.cell? ⟨gb1150, 0, none⟩ = some (.int .i64 a0_0) := (blk_cell BK1150.out 0).trans rfl
   have hcz15_1 : w11.cell? ⟨gb1150, 1, none⟩ = some (.int .i64 a0_1) := (blk_cell BK1150.out 1).trans rfl
   have hcz15_2 : w11.cell? ⟨gb1150, 2, none⟩ = some (.bool a0_2) := (blk_cell BK1150.out 2).trans rfl
   have hcz15_3 : w11.cell? ⟨gb1150, 3, none⟩ = some (.bool a0_3) := (blk_cell BK1150.out 3).trans rfl
   have hfz15_0 := blk_frozen BK1150.out 0
   have hfz15_1 := blk_frozen BK1150.out 1
   have hfz15_2 := blk_frozen BK1150.out 2
   have hfz15_3 := blk_frozen BK1150.out 3
   go_wp2_with (first | (go_at_call 80; (with_reducible refine (impl_Around_has.calls a0_0 a0_1 a0_2 a0_3 a2 t1156 _ A13.out).mono ?_); rintro e w16 ⟨rfl, hb⟩; have n0_ := Aside0.mk (Kd.S_below (by (with_reducible repeat (first | apply Kd.S_alloc | apply Kd.S_drewN | apply Kd.S_drew)); exact HO1154.out) hb); have n1_ := Aside0.mk (blk_below (g := gb1150) (o := .cells #[.int .i64 a0_0, .int .i64 a0_1, .bool a0_2, .bool a0_3] 51 (0, 0)) (by (with_reducible repeat (first | refine blk_drewN ?_ _ | refine blk_drew ?_ | refine blk_alloc ?_ _)); exact BK1150.out) hb); have n2_ := Aside0.mk (blk_below (g := gb1151) (o := .cells #[.int .i64 a1_0, .int .i64 a1_1] 32 (0, 0)) (by (with_reducible repeat (first | refine blk_drewN ?_ _ | refine blk_drew ?_ | refine blk_alloc ?_ _)); exact BK1151.out) hb); have n3_ := Aside0.mk (below_step (by repeat (first | (with_reducible first | exact HB.out | apply below_alloc | apply pw_below_drewN | apply below_drew1 | refine below_set ?_ GE1150.out | refine below_set ?_ GE1151.out) | exact HB.out)) hb); clear HO1154; clear BK1150; clear BK1151; clear HB; have HO1154 := n0_; have BK1150 := n1_; have BK1151 := n2_; have HB := n3_; clear n0_ n1_ n2_ n3_; (try clear hb); (try clear hb2); (try clear hk); (try clear hi); (try clear hna_); (try clear hnb_)))
   go_meet
   case rel => exact ⟨_, (!t1156), (by first | rfl | (simp; done) | (simp [*]; done)), H', ⟨by first | omega | exact Nat.le_refl _⟩, ⟨by (with_reducible repeat (first | apply Kd.S_alloc | apply Kd.S_drewN | apply Kd.S_drew)); exact HO1154.out⟩, ⟨by (with_reducible repeat (first | refine blk_drewN ?_ _ | refine blk_drew ?_ | refine blk_alloc ?_ _)); exact BK1150.out⟩, ⟨by (with_reducible repeat (first | refine blk_drewN ?_ _ | refine blk_drew ?_ | refine blk_alloc ?_ _)); exact BK1151.out⟩, ⟨by repeat (first | (with_reducible first | exact HB.out | apply below_alloc | apply pw_below_drewN | apply below_drew1 | refine below_set ?_ GE1150.out | refine below_set ?_ GE1151.out) | exact HB.out)⟩⟩
  ·replace c12 := Bool.eq_false_iff.mpr c12
   subst c12
   have H1 : (impl_CountByAround.j0 k a2 t1152 true) = some (r1, r2) := by rw [if_neg (show ¬ (false = true) by decide)] at H; exact H
   clear H
   have H := H1
   clear H1
   have H' := Aside0.mk H
   clear H
   go_wp2
   go_meet
   case rel => exact ⟨_, (true), (by first | rfl | (simp; done) | (simp [*]; done)), H', ⟨by first | omega | exact Nat.le_refl _⟩, ⟨by (with_reducible repeat (first | apply Kd.S_alloc | apply Kd.S_drewN | apply Kd.S_drew)); exact HO1154.out⟩, ⟨by (with_reducible repeat (first | refine blk_drewN ?_ _ | refine blk_drew ?_ | refine blk_alloc ?_ _)); exact BK1150.out⟩, ⟨by (with_reducible repeat (first | refine blk_drewN ?_ _ | refine blk_drew ?_ | refine blk_alloc ?_ _)); exact BK1151.out⟩, ⟨by repeat (first | (with_reducible first | exact HB.out | apply below_alloc | apply pw_below_drewN | apply below_drew1 | refine below_set ?_ GE1150.out | refine below_set ?_ GE1151.out) | exact HB.out)⟩⟩
 case rest =>
  clear HC5
  try clear c1; try clear p2; try clear c4; try clear c7; try clear c8; try clear c12; try clear c14; try clear hcz10_0; try clear hcz10_1; try clear hcz15_0; try clear hcz15_1; try clear hcz15_2; try clear hcz15_3; try clear hcz9_0; try clear hcz9_1; try clear hcz9_2; try clear hcz9_3; try clear hfz10_0; try clear hfz10_1; try clear hfz15_0; try clear hfz15_1; try clear hfz15_2; try clear hfz15_3; try clear hfz9_0; try clear hfz9_1; try clear hfz9_2; try clear hfz9_3
  obtain ⟨kq, x23_4, rfl, HA, HJ4, HO_8, BK1150, BK1151, HB⟩ := hcut
  cases kq with
  | zero => exact absurd HA.out (by simp [impl_CountByAround.j0])
  | succ kj4 =>
   have H := HA.out
   clear HA
   simp only [impl_CountByAround.j0] at H
   by_cases c17 : x23_4 = true
   ·subst c17
    have H1 : (some (([] : List Int), false)) = some (r1, r2) := by rw [if_pos rfl] at H; exact H
    clear H
    have H := H1
    clear H1
    simp only [Option.some.injEq, Prod.mk.injEq] at H
    obtain ⟨rfl, rfl⟩ := H
    go_wp2
    go_ret2
    exact ⟨_, by first | rfl | (simp [errW_none, errW_some] <;> rfl) | (simp [*, errW_none, errW_some] <;> rfl), by first | exact Kd.R_nil _ _ _ _ _ | exact Kd.N_nil _ _ _ _ _ | exact Kd.V_nil _ _ _ _ _ | exact Kd.Q_nil _ _ _ _ _ | exact Kd.S_nil _ _ _ _ _, by repeat (first | (with_reducible first | exact HB.out | apply below_alloc | apply pw_below_drewN | apply below_drew1 | refine below_set ?_ GE1150.out | refine below_set ?_ GE1151.out) | exact HB.out)⟩
   ·replace c17 := Bool.eq_false_iff.mpr c17
    subst c17
    have H1 : ((impl_farAround.f kj4 t1152 a2).bind fun t1157 => ((impl_byDistance.f kj4 t1157).bind fun t1160 => (some (t1160, true)))) = some (r1, r2) := by rw [if_neg (show ¬ (false = true) by decide)] at H; exact H
    clear H
    have H := H1
    clear H1
    replace H := Option.bind_eq_some_iff.mp H
    obtain ⟨t1157, A180, H⟩ := H
    replace H : ((impl_byDistance.f kj4 t1157).bind fun t1160 => (some (t1160, true))) = some (r1, r2) := H
    have A18 := Aside0.mk A180
    clear A180
    replace H := Option.bind_eq_some_iff.mp H
    obtain ⟨t1160, A190, H⟩ := H
    replace H : (some (t1160, true)) = some (r1, r2) := H
    have A19 := Aside0.mk A190
    clear A190
    simp only [Option.some.injEq, Prod.mk.injEq] at H
    obtain ⟨rfl, rfl⟩ := H
    obtain ⟨Ao20, co20, eo20⟩ := Kd.S_slice HO_8.out
    subst eo20
    go_wp2_with (first | ((with_reducible refine gate_callee (f := 82) rfl ?_); refine goesL_ (some 26) rfl rfl Try.func82 (by kernel_rfl) rfl #[.slice Ao20 t1152.length co20, .int .i64 a2] rfl (by (try simp only [List.map_toArray, List.map_cons, List.map_nil]); first | done | rfl | (simp only [List.length_drop, List.length_take]; rfl)) ?_; (with_reducible refine (impl_farAround.calls kj4 _ _ t1152 a2 t1157 _ ?side1 ?side2 A18.out).mono ?_); (case side1 => repeat (first | exact (Kd.S_reads' HO_8.out).2.2 | (with_reducible refine Kd.C_alloc ?_ _) | (with_reducible refine Kd.C_drewN ?_ _) | (with_reducible refine Kd.C_drew ?_))); (case side2 => exact (Kd.S_reads' HO_8.out).2.1); rintro e w21 ⟨v1158, rfl, ho0, hb⟩; refine ⟨_, rfl, ?_⟩; have n0_ := Aside0.mk (Kd.S_elder' (by (with_reducible repeat (first | apply Kd.S_alloc | apply Kd.S_drewN | apply Kd.S_drew)); exact HO_8.out) (Kd.R_base ho0) hb); have n1_ := Aside0.mk (Kd.R_lower ho0 (below_size (by repeat (first | (with_reducible first | exact HB.out | apply below_alloc | apply pw_below_drewN | apply below_drew1 | refine below_set ?_ GE1150.out | refine below_set ?_ GE1151.out) | exact HB.out)))); have n2_ := Aside0.mk (blk_below (g := gb1150) (o := .cells #[.int .i64 a0_0, .int .i64 a0_1, .bool a0_2, .bool a0_3] 51 (0, 0)) (by (with_reducible repeat (first | refine blk_drewN ?_ _ | refine blk_drew ?_ | refine blk_alloc ?_ _)); exact BK1150.out) hb); have n3_ := Aside0.mk (blk_below (g := gb1151) (o := .cells #[.int .i64 a1_0, .int .i64 a1_1] 32 (0, 0)) (by (with_reducible repeat (first | refine blk_drewN ?_ _ | refine blk_drew ?_ | refine blk_alloc ?_ _)); exact BK1151.out) hb); have n4_ := Aside0.mk (below_step (by repeat (first | (with_reducible first | exact HB.out | apply below_alloc | apply pw_below_drewN | apply below_drew1 | refine below_set ?_ GE1150.out | refine below_set ?_ GE1151.out) | exact HB.out)) hb); clear HO_8; clear BK1150; clear BK1151; clear HB; have HO_8 := n0_; have HO1159 := n1_; have BK1150 := n2_; have BK1151 := n3_; have HB := n4_; clear n0_ n1_ n2_ n3_ n4_; (try clear hb); (try clear hb2); (try clear hk); (try clear hi); (try clear ho0); (try clear hna_); (try clear hnb_); obtain ⟨Ao22, co22, eo22⟩ := Kd.R_slice HO1159.out; subst eo22) | ((with_reducible refine gate_callee (f := 81) rfl ?_); refine goesL_ (some 27) rfl rfl Try.func81 (by kernel_rfl) rfl #[.slice Ao22 t1157.length co22] rfl (by (try simp only [List.map_toArray, List.map_cons, List.map_nil]); first | done | rfl | (simp only [List.length_drop, List.length_take]; rfl)) ?_; (with_reducible refine (impl_byDistance.calls kj4 _ _ t1157 t1160 _ ?side1 ?side2 A19.out).mono ?_); (case side1 => repeat (first | exact (Kd.R_reads' HO1159.out).2.2 | (with_reducible refine Kd.C_alloc ?_ _) | (with_reducible refine Kd.C_drewN ?_ _) | (with_reducible refine Kd.C_drew ?_))); (case side2 => exact (Kd.R_reads' HO1159.out).2.1); rintro e w23 ⟨v1161, rfl, ho0, hb⟩; refine ⟨_, rfl, ?_⟩; have n0_ := Aside0.mk (Kd.S_elder' (by (with_reducible repeat (first | apply Kd.S_alloc | apply Kd.S_drewN | apply Kd.S_drew)); exact HO_8.out) (Kd.R_base ho0) hb); have n1_ := Aside0.mk (Kd.R_elder' (by (with_reducible repeat (first | apply Kd.R_alloc | apply Kd.R_drewN | apply Kd.R_drew)); exact HO1159.out) (Kd.R_base ho0) hb); have n2_ := Aside0.mk (Kd.R_lower (Kd.R_new' ho0 (Kd.R_lt (by (with_reducible repeat (first | apply Kd.R_alloc | apply Kd.R_drewN | apply Kd.R_drew)); exact HO1159.out))) (below_size (by repeat (first | (with_reducible first | exact HB.out | apply below_alloc | apply pw_below_drewN | apply below_drew1 | refine below_set ?_ GE1150.out | refine below_set ?_ GE1151.out) | exact HB.out)))); have n3_ := Aside0.mk (blk_below (g := gb1150) (o := .cells #[.int .i64 a0_0, .int .i64 a0_1, .bool a0_2, .bool a0_3] 51 (0, 0)) (by (with_reducible repeat (first | refine blk_drewN ?_ _ | refine blk_drew ?_ | refine blk_alloc ?_ _)); exact BK1150.out) hb); have n4_ := Aside0.mk (blk_below (g := gb1151) (o := .cells #[.int .i64 a1_0, .int .i64 a1_1] 32 (0, 0)) (by (with_reducible repeat (first | refine blk_drewN ?_ _ | refine blk_drew ?_ | refine blk_alloc ?_ _)); exact BK1151.out) hb); have n5_ := Aside0.mk (below_step (by repeat (first | (with_reducible first | exact HB.out | apply below_alloc | apply pw_below_drewN | apply below_drew1 | refine below_set ?_ GE1150.out | refine below_set ?_ GE1151.out) | exact HB.out)) hb); clear HO_8; clear HO1159; clear BK1150; clear BK1151; clear HB; have HO_8 := n0_; have HO1159 := n1_; have HO1162 := n2_; have BK1150 := n3_; have BK1151 := n4_; have HB := n5_; clear n0_ n1_ n2_ n3_ n4_ n5_; (try clear hb); (try clear hb2); (try clear hk); (try clear hi); (try clear ho0); (try clear hna_); (try clear hnb_)))
    go_ret2
    exact ⟨_, by first | rfl | (simp [errW_none, errW_some] <;> rfl) | (simp [*, errW_none, errW_some] <;> rfl), by (with_reducible repeat (first | apply Kd.R_alloc | apply Kd.R_drewN | apply Kd.R_drew)); exact Kd.R_mono HO1162.out (fun _ hk => trivial), by repeat (first | (with_reducible first | exact HB.out | apply below_alloc | apply pw_below_drewN | apply below_drew1 | refine below_set ?_ GE1150.out | refine below_set ?_ GE1151.out) | exact HB.out)⟩

end Go.Proofs.Ytekajjhjjnfdpaa.Q

/- Written by a program of this session: functions of the translation as plain Lean functions, each with a proof that the call does what the plain function says; the conditions stand in each theorem. -/
import Derived.Test.YtekajjhjjnfdpaaQ0
import Derived.Test.YtekajjhjjnfdpaaQ38
import Derived.Test.YtekajjhjjnfdpaaQ41
namespace Go.Proofs.Ytekajjhjjnfdpaa.Q
open Go.RowKit Go.Proofs.YtekajjhjjnfdpaaW.PrintWords Go.Proofs.YtekajjhjjnfdpaaW.PrintLast Go.Proofs.YtekajjhjjnfdpaaW.PrintMore
attribute [local go_sem] max2_int min2_int max_two min_two max_three min_three max_four min_four   -- for this text's walks alone
set_option linter.unusedVariables false
set_option linter.unusedSimpArgs false

/-! ### spec_CountByAround: function 40 -/
mutual
def spec_CountByAround.j0 : Nat → Int → Bool → Int → Int → Bool → Bool → Int → Int → Option (List Int × Bool)
 | 0, _, _, _, _, _, _, _, _ => none
 | k + 1, x2, x20, x1068000, x1068001, x1068002, x1068003, x1069000, x1069001 => if x20 = true then (some (([] : List Int), false)) else ((spec_arFrom.f k x1068000 x1068001 x1068002 x1068003 x1069000 x1069001 x2).bind fun t1071 => (spec_CountByAround.l0 k ([] : List Int) t1071 (t1071.length : Int) 0))
def spec_CountByAround.l0 : Nat → List Int → List Int → Int → Int → Option (List Int × Bool)
 | 0, _, _, _, _ => none
 | k + 1, x8, x24, x25, x26 => if x26 < x25 then (if 0 ≤ x26 then (if x26 < (x24.length : Int) then (if (rd x24 x26) < 0 then (spec_CountByAround.l0 k x8 x24 x25 (wrap64 (x26 + 1))) else (spec_CountByAround.l1 k x8 (rd x24 x26) x24 x25 x26)) else (none)) else (none)) else (some (x8, true))
def spec_CountByAround.l1 : Nat → List Int → Int → List Int → Int → Int → Option (List Int × Bool)
 | 0, _, _, _, _, _ => none
 | k + 1, x8, x10, x24, x25, x26 => if (x8.length : Int) ≤ x10 then (if x8.length < 17592186044416 then (spec_CountByAround.l1 k (x8 ++ [0]) x10 x24 x25 x26) else (none)) else (if 0 ≤ x10 then (if x10 < (x8.length : Int) then (spec_CountByAround.l0 k (x8.set (x10 : Int).toNat (wrap64 ((rd x8 x10) + 1))) x24 x25 (wrap64 (x26 + 1))) else (none)) else (none))
end
def spec_CountByAround.f (k : Nat) (a0_0 : Int) (a0_1 : Int) (a0_2 : Bool) (a0_3 : Bool) (a1_0 : Int) (a1_1 : Int) (a2 : Int) : Option (List Int × Bool) := (spec_arTwo.f a0_0 a0_1 a0_2 a0_3 a1_0 a1_1).bind fun t1069 => (if t1069 = true then ((spec_arCell.f a0_0 a0_1 a0_2 a0_3 a2).bind fun t1070 => (spec_CountByAround.j0 k a2 (!t1070) a0_0 a0_1 a0_2 a0_3 a1_0 a1_1)) else (spec_CountByAround.j0 k a2 true a0_0 a0_1 a0_2 a0_3 a1_0 a1_1))
set_option maxHeartbeats 8000000 in
set_option maxRecDepth 100000 in
theorem spec_CountByAround.calls (k : Nat) (a0_0 : Int) (a0_1 : Int) (a0_2 : Bool) (a0_3 : Bool) (a1_0 : Int) (a1_1 : Int) (a2 : Int) (r1 : List Int) (r2 : Bool) (w : World) (h : spec_CountByAround.f k a0_0 a0_1 a0_2 a0_3 a1_0 a1_1 a2 = some (r1, r2)) :
  Calls Try.prog 40 #[.agg #[.int .i64 a0_0, .int .i64 a0_1, .bool a0_2, .bool a0_3], .agg #[.int .i64 a1_0, .int .i64 a1_1], .int .i64 a2] w fun e w' => ∃ v0_ : Value, e = .returned (.tuple #[v0_, .bool r2]) ∧ Kd.R (Kd.int .i64) 3 w' w.heap.size (fun _ => True) v0_ r1 ∧ Below w.heap.size w w' := by
 have hu51 := Try.underlying51
 have hu32 := Try.underlying32
 have HB := Aside0.mk (Below.refl w.heap.size w)
 have H : ((spec_arTwo.f a0_0 a0_1 a0_2 a0_3 a1_0 a1_1).bind fun t1069 => (if t1069 = true then ((spec_arCell.f a0_0 a0_1 a0_2 a0_3 a2).bind fun t1070 => (spec_CountByAround.j0 k a2 (!t1070) a0_0 a0_1 a0_2 a0_3 a1_0 a1_1)) else (spec_CountByAround.j0 k a2 true a0_0 a0_1 a0_2 a0_3 a1_0 a1_1))) = some (r1, r2) := h
 clear h
 have HC4 := Aside0.mk H
 clear H
 go_enter Try.func40, Try.ntmps40
 go_upto_region 1 with (first | ((with_reducible refine gate_dst (N := 3) rfl ?_); refine box_event ?hg (N := 3) ?hd (cs := #[.int .i64 a0_0, .int .i64 a0_1, .bool a0_2, .bool a0_3]) (t := 51) ?hr ?_; (case hd => rfl); (case hg => rfl); (case hr => first | (go_simp; done) | (go_simp; rfl)); intro gb1067 hg w5 hbox hb; have n0_ := Aside0.mk (below_step (by repeat (first | (with_reducible first | exact HB.out | apply below_alloc | apply pw_below_drewN | apply below_drew1) | exact HB.out)) hb); have n1_ := Aside0.mk (hbox); have n2_ := Aside0.mk ((by rw [hg]; exact (below_size (by repeat (first | (with_reducible first | exact HB.out | apply below_alloc | apply pw_below_drewN | apply below_drew1) | exact HB.out))) : w.heap.size ≤ gb1067)); have n3_ := Aside0.mk ((by rw [hg]; exact (below_size (by repeat (first | (with_reducible first | exact HB.out | apply below_alloc | apply pw_below_drewN | apply below_drew1) | exact HB.out))) : w.heap.size ≤ gb1067)); clear HB; have HB := n0_; have BK1067 := n1_; have GW1067 := n2_; have GE1067 := n3_; clear n0_ n1_ n2_ n3_; clear hb hbox hg) | ((with_reducible refine gate_dst (N := 4) rfl ?_); refine box_event ?hg (N := 4) ?hd (cs := #[.int .i64 a1_0, .int .i64 a1_1]) (t := 32) ?hr ?_; (case hd => rfl); (case hg => rfl); (case hr => first | (go_simp; done) | (go_simp; rfl)); intro gb1068 hg w6 hbox hb; have n0_ := Aside0.mk (blk_below (g := gb1067) (o := .cells #[.int .i64 a0_0, .int .i64 a0_1, .bool a0_2, .bool a0_3] 51 (0, 0)) (by (with_reducible repeat (first | refine blk_drewN ?_ _ | refine blk_drew ?_ | refine blk_alloc ?_ _)); exact BK1067.out) hb); have n1_ := Aside0.mk (below_step (by repeat (first | (with_reducible first | exact HB.out | apply below_alloc | apply pw_below_drewN | apply below_drew1 | refine below_set ?_ GE1067.out) | exact HB.out)) hb); have n2_ := Aside0.mk (hbox); have n3_ := Aside0.mk ((by rw [hg]; exact (below_size (by repeat (first | (with_reducible first | exact HB.out | apply below_alloc | apply pw_below_drewN | apply below_drew1 | refine below_set ?_ GE1067.out) | exact HB.out))) : w.heap.size ≤ gb1068)); have n4_ := Aside0.mk ((by rw [hg]; exact (below_size (by repeat (first | (with_reducible first | exact HB.out | apply below_alloc | apply pw_below_drewN | apply below_drew1 | refine below_set ?_ GE1067.out) | exact HB.out))) : w.heap.size ≤ gb1068)); have n5_ := Aside0.mk ((by rw [hg]; exact Nat.ne_of_lt (blk_lt (g := gb1067) (o := .cells #[.int .i64 a0_0, .int .i64 a0_1, .bool a0_2, .bool a0_3] 51 (0, 0)) (by (with_reducible repeat (first | refine blk_drewN ?_ _ | refine blk_drew ?_ | refine blk_alloc ?_ _)); exact BK1067.out)) : gb1067 ≠ gb1068)); have n6_ := Aside0.mk ((by rw [hg]; exact Nat.ne_of_gt (blk_lt (g := gb1067) (o := .cells #[.int .i64 a0_0, .int .i64 a0_1, .bool a0_2, .bool a0_3] 51 (0, 0)) (by (with_reducible repeat (first | refine blk_drewN ?_ _ | refine blk_drew ?_ | refine blk_alloc ?_ _)); exact BK1067.out)) : gb1068 ≠ gb1067)); clear BK1067; clear HB; have BK1067 := n0_; have HB := n1_; have BK1068 := n2_; have GW1068 := n3_; have GE1068 := n4_; have NB1067_1068 := n5_; have NB1068_1067 := n6_; clear n0_ n1_ n2_ n3_ n4_ n5_ n6_; clear hb hbox hg))
 (try simp only [Act.put, List.setIfInBounds_toArray, List.set_cons_zero, List.set_cons_succ])
 go_cut [20] (fun v20 wc => ∃ (kq : Nat) (x20_3 : Bool), v20 = .bool x20_3 ∧ Aside0 (spec_CountByAround.j0 kq a2 x20_3 a0_0 a0_1 a0_2 a0_3 a1_0 a1_1 = some (r1, r2)) ∧ Aside0 (kq ≤ k) ∧ Aside0 (wc.heap[gb1067]? = some (.cells #[.int .i64 a0_0, .int .i64 a0_1, .bool a0_2, .bool a0_3] 51 (0, 0))) ∧ Aside0 (wc.heap[gb1068]? = some (.cells #[.int .i64 a1_0, .int .i64 a1_1] 32 (0, 0))) ∧ Aside0 (Below w.heap.size w wc))
 case first =>
  have H := HC4.out
  clear HC4
  replace H := Option.bind_eq_some_iff.mp H
  obtain ⟨t1069, A70, H⟩ := H
  replace H : (if t1069 = true then ((spec_arCell.f a0_0 a0_1 a0_2 a0_3 a2).bind fun t1070 => (spec_CountByAround.j0 k a2 (!t1070) a0_0 a0_1 a0_2 a0_3 a1_0 a1_1)) else (spec_CountByAround.j0 k a2 true a0_0 a0_1 a0_2 a0_3 a1_0 a1_1)) = some (r1, r2) := H
  have A7 := Aside0.mk A70
  clear A70
  by_cases c8 : t1069 = true
  ·subst c8
   have H1 : ((spec_arCell.f a0_0 a0_1 a0_2 a0_3 a2).bind fun t1070 => (spec_CountByAround.j0 k a2 (!t1070) a0_0 a0_1 a0_2 a0_3 a1_0 a1_1)) = some (r1, r2) := by rw [if_pos rfl] at H; exact H
   clear H
   have H := H1
   clear H1
   replace H := Option.bind_eq_some_iff.mp H
   obtain ⟨t1070, A90, H⟩ := H
   replace H : (spec_CountByAround.j0 k a2 (!t1070) a0_0 a0_1 a0_2 a0_3 a1_0 a1_1) = some (r1, r2) := H
   have A9 := Aside0.mk A90
   clear A90
   have H' := Aside0.mk H
   clear H
   have hnb10 := NB1067_1068.out
   have hnc10 := NB1068_1067.out
   have hcz11_0 : w6.cell? ⟨gb1067, 0, none⟩ = some (.int .i64 a0_0) := (blk_cell BK1067.out 0).trans rfl
   have hcz11_1 : w6.cell? ⟨gb1067, 1, none⟩ = some (.int .i64 a0_1) := (blk_cell BK1067.out 1).trans rfl
   have hcz11_2 : w6.cell? ⟨gb1067, 2, none⟩ = some (.bool a0_2) := (blk_cell BK1067.out 2).trans rfl
   have hcz11_3 : w6.cell? ⟨gb1067, 3, none⟩ = some (.bool a0_3) := (blk_cell BK1067.out 3).trans rfl
   have hfz11_0 := blk_frozen BK1067.out 0
   have hfz11_1 := blk_frozen BK1067.out 1
   have hfz11_2 := blk_frozen BK1067.out 2
   have hfz11_3 := blk_frozen BK1067.out 3
   have hcz12_0 : w6.cell? ⟨gb1068, 0, none⟩ = some (.int .i64 a1_0) := (blk_cell BK1068.out 0).trans rfl
   have hcz12_1 : w6.cell? ⟨gb1068, 1, none⟩ = some (.int .i64 a1_1) := (blk_cell BK1068.out 1).trans rfl
   have hfz12_0 := blk_frozen BK1068.out 0
   have hfz12_1 := blk_frozen BK1068.out 1
   go_wp2_with (first | ((with_reducible refine gate_callee (f := 76) rfl ?_); refine goesL_ (some 13) rfl rfl Try.func76 (by kernel_rfl) rfl #[.agg #[.int .i64 a0_0, .int .i64 a0_1, .bool a0_2, .bool a0_3], .agg #[.int .i64 a1_0, .int .i64 a1_1]] rfl (by (try simp only [List.map_toArray, List.map_cons, List.map_nil]); first | done | rfl | (simp only [List.length_drop, List.length_take]; rfl)) ?_; (with_reducible refine (spec_arTwo.calls a0_0 a0_1 a0_2 a0_3 a1_0 a1_1 true _ A7.out).mono ?_); rintro e w13 ⟨rfl, hb⟩; refine ⟨_, rfl, ?_⟩; have n0_ := Aside0.mk (blk_below (g := gb1067) (o := .cells #[.int .i64 a0_0, .int .i64 a0_1, .bool a0_2, .bool a0_3] 51 (0, 0)) (by (with_reducible repeat (first | refine blk_drewN ?_ _ | refine blk_drew ?_ | refine blk_alloc ?_ _)); exact BK1067.out) hb); have n1_ := Aside0.mk (blk_below (g := gb1068) (o := .cells #[.int .i64 a1_0, .int .i64 a1_1] 32 (0, 0)) (by (with_reducible repeat (first | refine blk_drewN ?_ _ | refine blk_drew ?_ | refine blk_alloc ?_ _)); exact BK1068.out) hb); have n2_ := Aside0.mk (below_step (by repeat (first | (with_reducible first | exact HB.out | apply below_alloc | apply pw_below_drewN | apply below_drew1 | refine below_set ?_ GE1067.out | refine below_set ?_ GE1068.out) | exact HB.out)) hb); clear BK1067; clear BK1068; clear HB; have BK1067 := n0_; have BK1068 := n1_; have HB := n2_; clear n0_ n1_ n2_; (try clear hb); (try clear hb2); (try clear hk); (try clear hi); (try clear hna_); (try clear hnb_); have hcz14_0 : w13.cell? ⟨gb1067, 0, none⟩ = some (.int .i64 a0_0) := (blk_cell BK1067.out 0).trans rfl; have hcz14_1 : w13.cell? ⟨gb1067, 1, none⟩ = some (.int .i64 a0_1) := (blk_cell BK1067.out 1).trans rfl; have hcz14_2 : w13.cell? ⟨gb1067, 2, none⟩ = some (.bool a0_2) := (blk_cell BK1067.out 2).trans rfl; have hcz14_3 : w13.cell? ⟨gb1067, 3, none⟩ = some (.bool a0_3) := (blk_cell BK1067.out 3).trans rfl; have hfz14_0 := blk_frozen BK1067.out 0; have hfz14_1 := blk_frozen BK1067.out 1; have hfz14_2 := blk_frozen BK1067.out 2; have hfz14_3 := blk_frozen BK1067.out 3) | (go_at_call 77; (with_reducible refine (spec_arCell.calls a0_0 a0_1 a0_2 a0_3 a2 t1070 _ A9.out).mono ?_); rintro e w15 ⟨rfl, hb⟩; have n0_ := Aside0.mk (blk_below (g := gb1067) (o := .cells #[.int .i64 a0_0, .int .i64 a0_1, .bool a0_2, .bool a0_3] 51 (0, 0)) (by (with_reducible repeat (first | refine blk_drewN ?_ _ | refine blk_drew ?_ | refine blk_alloc ?_ _)); exact BK1067.out) hb); have n1_ := Aside0.mk (blk_below (g := gb1068) (o := .cells #[.int .i64 a1_0, .int .i64 a1_1] 32 (0, 0)) (by (with_reducible repeat (first | refine blk_drewN ?_ _ | refine blk_drew ?_ | refine blk_alloc ?_ _)); exact BK1068.out) hb); have n2_ := Aside0.mk (below_step (by repeat (first | (with_reducible first | exact HB.out | apply below_alloc | apply pw_below_drewN | apply below_drew1 | refine below_set ?_ GE1067.out | refine below_set ?_ GE1068.out) | exact HB.out)) hb); clear BK1067; clear BK1068; clear HB; have BK1067 := n0_; have BK1068 := n1_; have HB := n2_; clear n0_ n1_ n2_; (try clear hb); (try clear hb2); (try clear hk); (try clear hi); (try clear hna_); (try clear hnb_)))
   go_meet
   case rel => exact ⟨_, (!t1070), (by first | rfl | (simp; done) | (simp [*]; done)), H', ⟨by first | omega | exact Nat.le_refl _⟩, ⟨by (with_reducible repeat (first | refine blk_drewN ?_ _ | refine blk_drew ?_ | refine blk_alloc ?_ _)); exact BK1067.out⟩, ⟨by (with_reducible repeat (first | refine blk_drewN ?_ _ | refine blk_drew ?_ | refine blk_alloc ?_ _)); exact BK1068.out⟩, ⟨by repeat (first | (with_reducible first | exact HB.out | apply below_alloc | apply pw_below_drewN | apply below_drew1 | refine below_set ?_ GE1067.out | refine below_set ?_ GE1068.out) | exact HB.out)⟩⟩
  ·replace c8 := Bool.eq_false_iff.mpr c8
   subst c8
   have H1 : (spec_CountByAround.j0 k a2 true a0_0 a0_1 a0_2 a0_3 a1_0 a1_1) = some (r1, r2) := by rw [if_neg (show ¬ (false = true) by decide)] at H; exact H
   clear H
   have H := H1
   clear H1
   have H' := Aside0.mk H
   clear H
   have hnb16 := NB1067_1068.out
   have hnc16 := NB1068_1067.out
   have hcz17_0 : w6.cell? ⟨gb1067, 0, none⟩ = some (.int .i64 a0_0) := (blk_cell BK1067.out 0).trans rfl
   have hcz17_1 : w6.cell? ⟨gb1067, 1, none⟩ = some (.int .i64 a0_1) := (blk_cell BK1067.out 1).trans rfl
   have hcz17_2 : w6.cell? ⟨gb1067, 2, none⟩ = some (.bool a0_2) := (blk_cell BK1067.out 2).trans rfl
   have hcz17_3 : w6.cell? ⟨gb1067, 3, none⟩ = some (.bool a0_3) := (blk_cell BK1067.out 3).trans rfl
   have hfz17_0 := blk_frozen BK1067.out 0
   have hfz17_1 := blk_frozen BK1067.out 1
   have hfz17_2 := blk_frozen BK1067.out 2
   have hfz17_3 := blk_frozen BK1067.out 3
   have hcz18_0 : w6.cell? ⟨gb1068, 0, none⟩ = some (.int .i64 a1_0) := (blk_cell BK1068.out 0).trans rfl
   have hcz18_1 : w6.cell? ⟨gb1068, 1, none⟩ = some (.int .i64 a1_1) := (blk_cell BK1068.out 1).trans rfl
   have hfz18_0 := blk_frozen BK1068.out 0
   have hfz18_1 := blk_frozen BK1068.out 1
   go_wp2_with (first | ((with_reducible refine gate_callee (f := 76) rfl ?_); refine goesL_ (some 13) rfl rfl Try.func76 (by kernel_rfl) rfl #[.agg #[.int .i64 a0_0, .int .i64 a0_1, .bool a0_2, .bool a0_3], .agg #[.int .i64 a1_0, .int .i64 a1_1]] rfl (by (try simp only [List.map_toArray, List.map_cons, List.map_nil]); first | done | rfl | (simp only [List.length_drop, List.length_take]; rfl)) ?_; (with_reducible refine (spec_arTwo.calls a0_0 a0_1 a0_2 a0_3 a1_0 a1_1 false _ A7.out).mono ?_); rintro e w19 ⟨rfl, hb⟩; refine ⟨_, rfl, ?_⟩; have n0_ := Aside0.mk (blk_below (g := gb1067) (o := .cells #[.int .i64 a0_0, .int .i64 a0_1, .bool a0_2, .bool a0_3] 51 (0, 0)) (by (with_reducible repeat (first | refine blk_drewN ?_ _ | refine blk_drew ?_ | refine blk_alloc ?_ _)); exact BK1067.out) hb); have n1_ := Aside0.mk (blk_below (g := gb1068) (o := .cells #[.int .i64 a1_0, .int .i64 a1_1] 32 (0, 0)) (by (with_reducible repeat (first | refine blk_drewN ?_ _ | refine blk_drew ?_ | refine blk_alloc ?_ _)); exact BK1068.out) hb); have n2_ := Aside0.mk (below_step (by repeat (first | (with_reducible first | exact HB.out | apply below_alloc | apply pw_below_drewN | apply below_drew1 | refine below_set ?_ GE1067.out | refine below_set ?_ GE1068.out) | exact HB.out)) hb); clear BK1067; clear BK1068; clear HB; have BK1067 := n0_; have BK1068 := n1_; have HB := n2_; clear n0_ n1_ n2_; (try clear hb); (try clear hb2); (try clear hk); (try clear hi); (try clear hna_); (try clear hnb_)))
   go_meet
   case rel => exact ⟨_, (true), (by first | rfl | (simp; done) | (simp [*]; done)), H', ⟨by first | omega | exact Nat.le_refl _⟩, ⟨by (with_reducible repeat (first | refine blk_drewN ?_ _ | refine blk_drew ?_ | refine blk_alloc ?_ _)); exact BK1067.out⟩, ⟨by (with_reducible repeat (first | refine blk_drewN ?_ _ | refine blk_drew ?_ | refine blk_alloc ?_ _)); exact BK1068.out⟩, ⟨by repeat (first | (with_reducible first | exact HB.out | apply below_alloc | apply pw_below_drewN | apply below_drew1 | refine below_set ?_ GE1067.out | refine below_set ?_ GE1068.out) | exact HB.out)⟩⟩
 case rest =>
  clear HC4
  try clear c1; try clear p2; try clear c4; try clear c7; try clear c8; try clear c10; try clear c16; try clear hcz11_0; try clear hcz11_1; try clear hcz11_2; try clear hcz11_3; try clear hcz12_0; try clear hcz12_1; try clear hcz14_0; try clear hcz14_1; try clear hcz14_2; try clear hcz14_3; try clear hcz17_0; try clear hcz17_1; try clear hcz17_2; try clear hcz17_3; try clear hcz18_0; try clear hcz18_1; try clear hfz11_0; try clear hfz11_1; try clear hfz11_2; try clear hfz11_3; try clear hfz12_0; try clear hfz12_1; try clear hfz14_0; try clear hfz14_1; try clear hfz14_2; try clear hfz14_3; try clear hfz17_0
  try clear hfz17_1; try clear hfz17_2; try clear hfz17_3; try clear hfz18_0; try clear hfz18_1
  obtain ⟨kq, x20_3, rfl, HA, HJ3, BK1067, BK1068, HB⟩ := hcut
  cases kq with
  | zero => exact absurd HA.out (by simp [spec_CountByAround.j0])
  | succ kj3 =>
   have H := HA.out
   clear HA
   simp only [spec_CountByAround.j0] at H
   by_cases c20 : x20_3 = true
   ·subst c20
    have H1 : (some (([] : List Int), false)) = some (r1, r2) := by rw [if_pos rfl] at H; exact H
    clear H
    have H := H1
    clear H1
    simp only [Option.some.injEq, Prod.mk.injEq] at H
    obtain ⟨rfl, rfl⟩ := H
    go_wp2
    go_ret2
    exact ⟨_, by first | rfl | (simp [errW_none, errW_some] <;> rfl) | (simp [*, errW_none, errW_some] <;> rfl), by first | exact Kd.R_nil _ _ _ _ _ | exact Kd.N_nil _ _ _ _ _ | exact Kd.V_nil _ _ _ _ _ | exact Kd.Q_nil _ _ _ _ _ | exact Kd.S_nil _ _ _ _ _, by repeat (first | (with_reducible first | exact HB.out | apply below_alloc | apply pw_below_drewN | apply below_drew1 | refine below_set ?_ GE1067.out | refine below_set ?_ GE1068.out) | exact HB.out)⟩
   ·replace c20 := Bool.eq_false_iff.mpr c20
    subst c20
    have H1 : ((spec_arFrom.f kj3 a0_0 a0_1 a0_2 a0_3 a1_0 a1_1 a2).bind fun t1071 => (spec_CountByAround.l0 kj3 ([] : List Int) t1071 (t1071.length : Int) 0)) = some (r1, r2) := by rw [if_neg (show ¬ (false = true) by decide)] at H; exact H
    clear H
    have H := H1
    clear H1
    replace H := Option.bind_eq_some_iff.mp H
    obtain ⟨t1071, A210, H⟩ := H
    replace H : (spec_CountByAround.l0 kj3 ([] : List Int) t1071 (t1071.length : Int) 0) = some (r1, r2) := H
    have A21 := Aside0.mk A210
    clear A210
    have H' := Aside0.mk H
    clear H
    have hnb22 := NB1067_1068.out
    have hnc22 := NB1068_1067.out
    have hcz23_0 : wc.cell? ⟨gb1067, 0, none⟩ = some (.int .i64 a0_0) := (blk_cell BK1067.out 0).trans rfl
    have hcz23_1 : wc.cell? ⟨gb1067, 1, none⟩ = some (.int .i64 a0_1) := (blk_cell BK1067.out 1).trans rfl
    have hcz23_2 : wc.cell? ⟨gb1067, 2, none⟩ = some (.bool a0_2) := (blk_cell BK1067.out 2).trans rfl
    have hcz23_3 : wc.cell? ⟨gb1067, 3, none⟩ = some (.bool a0_3) := (blk_cell BK1067.out 3).trans rfl
    have hfz23_0 := blk_frozen BK1067.out 0
    have hfz23_1 := blk_frozen BK1067.out 1
    have hfz23_2 := blk_frozen BK1067.out 2
    have hfz23_3 := blk_frozen BK1067.out 3
    have hcz24_0 : wc.cell? ⟨gb1068, 0, none⟩ = some (.int .i64 a1_0) := (blk_cell BK1068.out 0).trans rfl
    have hcz24_1 : wc.cell? ⟨gb1068, 1, none⟩ = some (.int .i64 a1_1) := (blk_cell BK1068.out 1).trans rfl
    have hfz24_0 := blk_frozen BK1068.out 0
    have hfz24_1 := blk_frozen BK1068.out 1
    go_wp2_with (first | ((with_reducible refine gate_callee (f := 78) rfl ?_); refine goesL_ (some 24) rfl rfl Try.func78 (by kernel_rfl) rfl #[.agg #[.int .i64 a0_0, .int .i64 a0_1, .bool a0_2, .bool a0_3], .agg #[.int .i64 a1_0, .int .i64 a1_1], .int .i64 a2] rfl (by (try simp only [List.map_toArray, List.map_cons, List.map_nil]); first | done | rfl | (simp only [List.length_drop, List.length_take]; rfl)) ?_; (with_reducible refine (spec_arFrom.calls kj3 a0_0 a0_1 a0_2 a0_3 a1_0 a1_1 a2 t1071 _ A21.out).mono ?_); rintro e w25 ⟨v1072, rfl, ho0, hb⟩; refine ⟨_, rfl, ?_⟩; have n0_ := Aside0.mk (Kd.R_lower ho0 (below_size (by repeat (first | (with_reducible first | exact HB.out | apply below_alloc | apply pw_below_drewN | apply below_drew1 | refine below_set ?_ GE1067.out | refine below_set ?_ GE1068.out) | exact HB.out)))); have n1_ := Aside0.mk (blk_below (g := gb1067) (o := .cells #[.int .i64 a0_0, .int .i64 a0_1, .bool a0_2, .bool a0_3] 51 (0, 0)) (by (with_reducible repeat (first | refine blk_drewN ?_ _ | refine blk_drew ?_ | refine blk_alloc ?_ _)); exact BK1067.out) hb); have n2_ := Aside0.mk (blk_below (g := gb1068) (o := .cells #[.int .i64 a1_0, .int .i64 a1_1] 32 (0, 0)) (by (with_reducible repeat (first | refine blk_drewN ?_ _ | refine blk_drew ?_ | refine blk_alloc ?_ _)); exact BK1068.out) hb); have n3_ := Aside0.mk (below_step (by repeat (first | (with_reducible first | exact HB.out | apply below_alloc | apply pw_below_drewN | apply below_drew1 | refine below_set ?_ GE1067.out | refine below_set ?_ GE1068.out) | exact HB.out)) hb); clear BK1067; clear BK1068; clear HB; have HO1073 := n0_; have BK1067 := n1_; have BK1068 := n2_; have HB := n3_; clear n0_ n1_ n2_ n3_; (try clear hb); (try clear hb2); (try clear hk); (try clear hi); (try clear ho0); (try clear hna_); (try clear hnb_); obtain ⟨Ao26, co26, eo26⟩ := Kd.R_slice HO1073.out; subst eo26))
    go_loopg [8, 26] kj3 (fun kq v8 v26 w' => ∃ (x8_2 : List Int) (x24_2 : List Int) (x26_2 : Int), v26 = .int .i64 x26_2 ∧ Aside0 (spec_CountByAround.l0 kq x8_2 x24_2 (t1071.length : Int) x26_2 = some (r1, r2)) ∧ Aside0 (kq ≤ kj3) ∧ Aside0 (Kd.R (Kd.int .i64) 3 w' w.heap.size (fun k_ => some k_ ≠ ((.slice Ao26 t1071.length co26) : Value).ownBlock) v8 x8_2) ∧ Aside0 (Kd.R (Kd.int .i64) 3 w' w.heap.size (fun k_ => some k_ ≠ (v8 : Value).ownBlock) (.slice Ao26 t1071.length co26) x24_2) ∧ Aside0 (w'.heap[gb1067]? = some (.cells #[.int .i64 a0_0, .int .i64 a0_1, .bool a0_2, .bool a0_3] 51 (0, 0))) ∧ Aside0 (w'.heap[gb1068]? = some (.cells #[.int .i64 a1_0, .int .i64 a1_1] 32 (0, 0))) ∧ Aside0 (Below w.heap.size w w'))
    case atStart => exact ⟨(([] : List Int)), (t1071), (0), (by first | rfl | (simp; done) | (simp [*]; done)), H', ⟨Nat.le_refl _⟩, ⟨by first | exact Kd.R_nil _ _ _ _ _ | exact Kd.N_nil _ _ _ _ _ | exact Kd.V_nil _ _ _ _ _ | exact Kd.Q_nil _ _ _ _ _ | exact Kd.S_nil _ _ _ _ _⟩, ⟨by (with_reducible repeat (first | apply Kd.R_alloc | apply Kd.R_drewN | apply Kd.R_drew)); exact Kd.R_mono HO1073.out (fun _ hk => (by simp [Value.ownBlock]))⟩, ⟨by (with_reducible repeat (first | refine blk_drewN ?_ _ | refine blk_drew ?_ | refine blk_alloc ?_ _)); exact BK1067.out⟩, ⟨by (with_reducible repeat (first | refine blk_drewN ?_ _ | refine blk_drew ?_ | refine blk_alloc ?_ _)); exact BK1068.out⟩, ⟨by repeat (first | (with_reducible first | exact HB.out | apply below_alloc | apply pw_below_drewN | apply below_drew1 | refine below_set ?_ GE1067.out | refine below_set ?_ GE1068.out) | exact HB.out)⟩⟩
    case round =>
     clear H'
     try clear c1; try clear c2; try clear p2; try clear c4; try clear c7; try clear c8; try clear c10; try clear c16; try clear c20; try clear c22; try clear hcz11_0; try clear hcz11_1; try clear hcz11_2; try clear hcz11_3; try clear hcz12_0; try clear hcz12_1; try clear hcz14_0; try clear hcz14_1; try clear hcz14_2; try clear hcz14_3; try clear hcz17_0; try clear hcz17_1; try clear hcz17_2; try clear hcz17_3; try clear hcz18_0; try clear hcz18_1; try clear hcz23_0; try clear hcz23_1; try clear hcz23_2; try clear hcz23_3; try clear hcz24_0; try clear hcz24_1; try clear hfz11_0; try clear hfz11_1; try clear hfz11_2
     try clear hfz11_3; try clear hfz12_0; try clear hfz12_1; try clear hfz14_0; try clear hfz14_1; try clear hfz14_2; try clear hfz14_3; try clear hfz17_0; try clear hfz17_1; try clear hfz17_2; try clear hfz17_3; try clear hfz18_0; try clear hfz18_1; try clear hfz23_0; try clear hfz23_1; try clear hfz23_2; try clear hfz23_3; try clear hfz24_0; try clear hfz24_1; try clear p2
     obtain ⟨x8_2, x24_2, x26_2, rfl, HA, HK2, HO_8, HO_24, BK1067, BK1068, HB⟩ := hrel
     have hl24_2 := (Kd.R_reads' HO_24.out).1
     rw [hl24_2] at HO_24
     (try simp only [hl24_2])
     (try simp only [hl24_2] at BK1067)
     (try simp only [hl24_2] at BK1068)
     (try simp only [hl24_2] at HO_8)
     cases gk with
     | zero => exact absurd HA.out (by simp [spec_CountByAround.l0])
     | succ k2 =>
      have H := HA.out
      clear HA
      simp only [spec_CountByAround.l0] at H
      by_cases c27 : x26_2 < (t1071.length : Int)
      ·rw [if_pos c27] at H
       have c27b0 : decide (x26_2 < (t1071.length : Int)) = true := decide_eq_true c27
       have c27b8 := c27b0
       (try simp only [hl24_2] at c27b8)
       clear c27
       by_cases c28 : 0 ≤ x26_2
       ·rw [if_pos c28] at H
        have c28b0 : decide (0 ≤ x26_2) = true := decide_eq_true c28
        clear c28
        by_cases c29 : x26_2 < (x24_2.length : Int)
        ·rw [if_pos c29] at H
         have c29b0 : decide (x26_2 < (x24_2.length : Int)) = true := decide_eq_true c29
         have c29b8 := c29b0
         (try simp only [hl24_2] at c29b8)
         clear c29
         by_cases c30 : (rd x24_2 x26_2) < 0
         ·rw [if_pos c30] at H
          have c30b0 : decide ((rd x24_2 x26_2) < 0) = true := decide_eq_true c30
          clear c30
          have H' := Aside0.mk H
          clear H
          have p1074 : 0 ≤ (x26_2 : Int) := of_decide_eq_true (by first | (with_reducible assumption) | assumption)
          have q1074 : x26_2 < (x24_2.length : Int) := of_decide_eq_true (by first | (with_reducible assumption) | assumption)
          obtain ⟨ad1074, e1074, hx1074_0⟩ := Kd.at_int (Kd.R_reads' HO_24.out).2.2 x26_2 p1074 q1074
          cases e1074
          replace p1074 := eq_true p1074
          replace q1074 := eq_true q1074
          go_wp2
          (try simp only [← hl24_2])
          go_roundg k2
          case measure => have := HJ3.out; have := HK2.out; omega
          case rel => exact ⟨(x8_2), (x24_2), (wrap64 (x26_2 + 1)), (by first | rfl | (simp; done) | (simp [*]; done)), H', ⟨by have := HJ3.out; have := HK2.out; omega⟩, ⟨by (try simp only [hl24_2]); (with_reducible repeat (first | apply Kd.R_alloc | apply Kd.R_drewN | apply Kd.R_drew)); exact HO_8.out⟩, ⟨by (try simp only [hl24_2]); (with_reducible repeat (first | apply Kd.R_alloc | apply Kd.R_drewN | apply Kd.R_drew)); exact HO_24.out⟩, ⟨by (try simp only [hl24_2]); (with_reducible repeat (first | refine blk_drewN ?_ _ | refine blk_drew ?_ | refine blk_alloc ?_ _)); exact BK1067.out⟩, ⟨by (try simp only [hl24_2]); (with_reducible repeat (first | refine blk_drewN ?_ _ | refine blk_drew ?_ | refine blk_alloc ?_ _)); exact BK1068.out⟩, ⟨by repeat (first | (with_reducible first | exact HB.out | apply below_alloc | apply pw_below_drewN | apply below_drew1 | refine below_set ?_ GE1067.out | refine below_set ?_ GE1068.out) | exact HB.out)⟩⟩
         ·rw [if_neg c30] at H
          have c30b0 : decide ((rd x24_2 x26_2) < 0) = false := decide_eq_false c30
          clear c30
          have H' := Aside0.mk H
          clear H
          have p1074 : 0 ≤ (x26_2 : Int) := of_decide_eq_true (by first | (with_reducible assumption) | assumption)
          have q1074 : x26_2 < (x24_2.length : Int) := of_decide_eq_true (by first | (with_reducible assumption) | assumption)
          obtain ⟨ad1074, e1074, hx1074_0⟩ := Kd.at_int (Kd.R_reads' HO_24.out).2.2 x26_2 p1074 q1074
          cases e1074
          replace p1074 := eq_true p1074
          replace q1074 := eq_true q1074
          go_wp2
          go_loopg [8] k2 (fun kq v8 w' => ∃ (x8_3 : List Int), Aside0 (spec_CountByAround.l1 kq x8_3 (rd x24_2 x26_2) x24_2 (t1071.length : Int) x26_2 = some (r1, r2)) ∧ Aside0 (kq ≤ k2) ∧ Aside0 (Kd.R (Kd.int .i64) 3 w' w.heap.size (fun k_ => some k_ ≠ ((.slice (some ad1074) x24_2.length co26) : Value).ownBlock) v8 x8_3) ∧ Aside0 (Kd.R (Kd.int .i64) 3 w' w.heap.size (fun k_ => some k_ ≠ (v8 : Value).ownBlock) (.slice (some ad1074) x24_2.length co26) x24_2) ∧ Aside0 (w'.heap[gb1067]? = some (.cells #[.int .i64 a0_0, .int .i64 a0_1, .bool a0_2, .bool a0_3] 51 (0, 0))) ∧ Aside0 (w'.heap[gb1068]? = some (.cells #[.int .i64 a1_0, .int .i64 a1_1] 32 (0, 0))) ∧ Aside0 (Below w.heap.size w w'))
          case atStart => exact ⟨(x8_2), H', ⟨Nat.le_refl _⟩, ⟨by (try simp only [hl24_2]); (with_reducible repeat (first | apply Kd.R_alloc | apply Kd.R_drewN | apply Kd.R_drew)); exact HO_8.out⟩, ⟨by (try simp only [hl24_2]); (with_reducible repeat (first | apply Kd.R_alloc | apply Kd.R_drewN | apply Kd.R_drew)); exact HO_24.out⟩, ⟨by (try simp only [hl24_2]); (with_reducible repeat (first | refine blk_drewN ?_ _ | refine blk_drew ?_ | refine blk_alloc ?_ _)); exact BK1067.out⟩, ⟨by (try simp only [hl24_2]); (with_reducible repeat (first | refine blk_drewN ?_ _ | refine blk_drew ?_ | refine blk_alloc ?_ _)); exact BK1068.out⟩, ⟨by repeat (first | (with_reducible first | exact HB.out | apply below_alloc | apply pw_below_drewN | apply below_drew1 | refine below_set ?_ GE1067.out | refine below_set ?_ GE1068.out) | exact HB.out)⟩⟩
          case round =>
           clear H'
           try clear c1; try clear p1; try clear q1; try clear hx1; try clear c2; try clear p2; try clear c3; try clear c4; try clear p6; try clear c7; try clear c8; try clear c10; try clear p10; try clear q10; try clear hx10; try clear c16; try clear c20; try clear c22; try clear c27; try clear c27b0; try clear c27b8; try clear c28; try clear c28b0; try clear c29; try clear c29b0; try clear c29b8; try clear c30; try clear c30b0; try clear hcz11_0; try clear hcz11_1; try clear hcz11_2; try clear hcz11_3; try clear hcz12_0; try clear hcz12_1; try clear hcz14_0; try clear hcz14_1; try clear hcz14_2; try clear hcz14_3
           try clear hcz17_0; try clear hcz17_1; try clear hcz17_2; try clear hcz17_3; try clear hcz18_0; try clear hcz18_1; try clear hcz23_0; try clear hcz23_1; try clear hcz23_2; try clear hcz23_3; try clear hcz24_0; try clear hcz24_1; try clear hfz11_0; try clear hfz11_1; try clear hfz11_2; try clear hfz11_3; try clear hfz12_0; try clear hfz12_1; try clear hfz14_0; try clear hfz14_1; try clear hfz14_2; try clear hfz14_3; try clear hfz17_0; try clear hfz17_1; try clear hfz17_2; try clear hfz17_3; try clear hfz18_0; try clear hfz18_1; try clear hfz23_0; try clear hfz23_1; try clear hfz23_2; try clear hfz23_3
           try clear hfz24_0; try clear hfz24_1; try clear hx1074_0; try clear p1074; try clear p2; try clear q1074
           obtain ⟨x8_3, HA, HK3, HO_8, HO_24, BK1067, BK1068, HB⟩ := hrel
           cases gk with
           | zero => exact absurd HA.out (by simp [spec_CountByAround.l1])
           | succ k3 =>
            have H := HA.out
            clear HA
            simp only [spec_CountByAround.l1] at H
            by_cases c31 : (x8_3.length : Int) ≤ (rd x24_2 x26_2)
            ·rw [if_pos c31] at H
             have c31b0 : decide ((x8_3.length : Int) ≤ (rd x24_2 x26_2)) = true := decide_eq_true c31
             have c31b8 := c31b0
             (try simp only [hl24_2] at c31b8)
             clear c31
             by_cases c32 : x8_3.length < 17592186044416
             ·rw [if_pos c32] at H
              have LMc32 := Aside0.mk c32
              clear c32
              obtain ⟨y1075, hy1075⟩ : ∃ y_ : List Int, y_ = (x8_3 ++ [0]) := ⟨_, rfl⟩
              replace H : (spec_CountByAround.l1 k3 y1075 (rd x24_2 x26_2) x24_2 (t1071.length : Int) x26_2) = some (r1, r2) := by first | (rw [hy1075]; with_reducible exact H) | (have H2_ := (Option.bind_some _ _).symm.trans H; rw [hy1075]; with_reducible exact H2_) | (have H2_ := (Option.bind_some _ _).symm.trans H; with_reducible exact H2_) | with_reducible exact H | (rw [hy1075]; exact H) | exact H
              have Ny1075 := Aside0.mk hy1075
              clear hy1075
              have H' := Aside0.mk H
              clear H
              obtain ⟨Ao33, co33, eo33⟩ := Kd.R_slice HO_8.out
              subst eo33
              go_wp2_with (first | ((with_reducible refine gate_builtin (b := .append) (xs := #[.tmp 36, .tmp 37]) rfl ?_); at_builtin; refine Kd.R_append (Kd.int .i64) (w0 := w) w.heap.size rfl (.tmp 36) (.tmp 37) 22 3 (.int .i64 0) 8 rfl Try.underlying22 info3 rfl (by decide) (by omega) (.slice Ao33 x8_3.length co33) x8_3 0 [.int .i64 0] (fun k_ => some k_ ≠ (.slice (some ad1074) x24_2.length co26 : Value).ownBlock) (fun _ => False) rfl rfl ?aP (fun _ hk => hk.elim) ?aF ?aO ?aB ?aS ?aL ?_; (case aP => exact rfl); (case aB => exact (by repeat (first | (with_reducible first | exact HB.out | apply below_alloc | apply pw_below_drewN | apply below_drew1 | refine below_set ?_ GE1067.out | refine below_set ?_ GE1068.out) | exact HB.out))); (case aF => exact (fun k_ hk => Kd.fresh' (Kd.R_lt (by (with_reducible repeat (first | apply Kd.R_alloc | apply Kd.R_drewN | apply Kd.R_drew)); exact HO_24.out)) k_ hk)); (case aO => exact (by (with_reducible repeat (first | apply Kd.R_alloc | apply Kd.R_drewN | apply Kd.R_drew)); exact HO_8.out)); (case aS => exact (below_size (by repeat (first | (with_reducible first | exact HB.out | apply below_alloc | apply pw_below_drewN | apply below_drew1 | refine below_set ?_ GE1067.out | refine below_set ?_ GE1068.out) | exact HB.out)))); (case aL => have := LMc32.out; omega); intro v1076 w34 ho hb hg hat; rw [← Ny1075.out] at ho; have n0_ := Aside0.mk (Kd.R_after (ok := (fun _ => True)) (by (with_reducible repeat (first | apply Kd.R_alloc | apply Kd.R_drewN | apply Kd.R_drew)); exact Kd.R_mono HO_24.out (fun _ hk => ⟨trivial, hk⟩)) hg hat); have n1_ := Aside0.mk (blk_grown (g := gb1067) (o := .cells #[.int .i64 a0_0, .int .i64 a0_1, .bool a0_2, .bool a0_3] 51 (0, 0)) (by (with_reducible repeat (first | refine blk_drewN ?_ _ | refine blk_drew ?_ | refine blk_alloc ?_ _)); exact BK1067.out) hg (Kd.R_ne HO_8.out BK1067.out (by decide))); have n2_ := Aside0.mk (blk_grown (g := gb1068) (o := .cells #[.int .i64 a1_0, .int .i64 a1_1] 32 (0, 0)) (by (with_reducible repeat (first | refine blk_drewN ?_ _ | refine blk_drew ?_ | refine blk_alloc ?_ _)); exact BK1068.out) hg (Kd.R_ne HO_8.out BK1068.out (by decide))); have n3_ := Aside0.mk (hb); have n4_ := Aside0.mk (ho); clear HO_24; clear BK1067; clear BK1068; clear HB; clear HO_8; have HO_24 := n0_; have BK1067 := n1_; have BK1068 := n2_; have HB := n3_; have HO1077 := n4_; clear n0_ n1_ n2_ n3_ n4_; clear ho hb hg hat))
              go_roundg k3
              case measure => have := HJ3.out; have := HK2.out; have := HK3.out; omega
              case rel => exact ⟨(y1075), H', ⟨by have := HJ3.out; have := HK2.out; have := HK3.out; omega⟩, ⟨by (try simp only [hl24_2]); (with_reducible repeat (first | apply Kd.R_alloc | apply Kd.R_drewN | apply Kd.R_drew)); exact HO1077.out⟩, ⟨by (try simp only [hl24_2]); (with_reducible repeat (first | apply Kd.R_alloc | apply Kd.R_drewN | apply Kd.R_drew)); exact Kd.R_mono HO_24.out (fun _ hk => hk.2)⟩, ⟨by (try simp only [hl24_2]); (with_reducible repeat (first | refine blk_drewN ?_ _ | refine blk_drew ?_ | refine blk_alloc ?_ _)); exact BK1067.out⟩, ⟨by (try simp only [hl24_2]); (with_reducible repeat (first | refine blk_drewN ?_ _ | refine blk_drew ?_ | refine blk_alloc ?_ _)); exact BK1068.out⟩, ⟨by repeat (first | (with_reducible first | exact HB.out | apply below_alloc | apply pw_below_drewN | apply below_drew1 | refine below_set ?_ GE1067.out | refine below_set ?_ GE1068.out) | exact HB.out)⟩⟩
             ·rw [if_neg c32] at H
              exact absurd H (by simp)
            ·rw [if_neg c31] at H
             have c31b0 : decide ((x8_3.length : Int) ≤ (rd x24_2 x26_2)) = false := decide_eq_false c31
             have c31b8 := c31b0
             (try simp only [hl24_2] at c31b8)
             clear c31
             by_cases c35 : 0 ≤ (rd x24_2 x26_2)
             ·rw [if_pos c35] at H
              have c35b0 : decide (0 ≤ (rd x24_2 x26_2)) = true := decide_eq_true c35
              clear c35
              by_cases c36 : (rd x24_2 x26_2) < (x8_3.length : Int)
              ·rw [if_pos c36] at H
               have c36b0 : decide ((rd x24_2 x26_2) < (x8_3.length : Int)) = true := decide_eq_true c36
               have c36b8 := c36b0
               (try simp only [hl24_2] at c36b8)
               clear c36
               obtain ⟨y1079, hy1079⟩ : ∃ y_ : List Int, y_ = (x8_3.set ((rd x24_2 x26_2) : Int).toNat (wrap64 ((rd x8_3 (rd x24_2 x26_2)) + 1))) := ⟨_, rfl⟩
               replace H : (spec_CountByAround.l0 k3 y1079 x24_2 (t1071.length : Int) (wrap64 (x26_2 + 1))) = some (r1, r2) := by first | (rw [hy1079]; with_reducible exact H) | (have H2_ := (Option.bind_some _ _).symm.trans H; rw [hy1079]; with_reducible exact H2_) | (have H2_ := (Option.bind_some _ _).symm.trans H; with_reducible exact H2_) | with_reducible exact H | (rw [hy1079]; exact H) | exact H
               have Ny1079 := Aside0.mk hy1079
               clear hy1079
               have H' := Aside0.mk H
               clear H
               obtain ⟨Ao38, co38, eo38⟩ := Kd.R_slice HO_8.out
               subst eo38
               have p1078 : 0 ≤ ((rd x24_2 x26_2) : Int) := of_decide_eq_true (by first | (with_reducible assumption) | assumption)
               have q1078 : (rd x24_2 x26_2) < (x8_3.length : Int) := of_decide_eq_true (by first | (with_reducible assumption) | assumption)
               obtain ⟨ad1078, e1078, hx1078_0⟩ := Kd.at_int (Kd.R_reads' HO_8.out).2.2 (rd x24_2 x26_2) p1078 q1078
               cases e1078
               replace p1078 := eq_true p1078
               replace q1078 := eq_true q1078
               have p37 : 0 ≤ ((rd x24_2 x26_2) : Int) := of_decide_eq_true (by first | (with_reducible assumption) | assumption)
               have q37 : ((rd x24_2 x26_2) : Int) < ((x8_3.length : Int) : Int) := of_decide_eq_true (by first | (with_reducible assumption) | assumption)
               obtain ⟨go37, co37, eo37, gb37, gl37, cl37, HG37⟩ := Kd.R_form HO_8.out (by omega)
               (first | cases eo37 | (injection eo37 with ea_ en_ ec_; (first | subst ea_ | (injection ea_ with ea_; subst ea_)); subst ec_; clear en_))
               have GB37 := Aside0.mk gb37
               have GG37 := Aside0.mk HG37
               clear gb37 gl37 HG37
               (try simp only [add_plain] at *)
               (first | simp only [add_plain] at hx1078_0 | skip)
               obtain ⟨hx37_0, hf37_0⟩ := Kd.R_celln 0 HO_8.out ((rd x24_2 x26_2) : Int) p37 q37
               replace p37 := eq_true p37
               replace q37 := eq_true q37
               have HP39 := Kd.R_putg HO_8.out ((rd x24_2 x26_2) : Int) (wrap64 ((rd x8_3 (rd x24_2 x26_2)) + 1))
               go_wp2_with (first | ((with_reducible refine gate_store (t := 3) (p := 44) rfl ?_); refine store_event (t := 3) (p := 44) (v := ?vo_w40) (w1 := (wr.setCell ⟨go37, ((rd x24_2 x26_2) : Int).toNat, none⟩ (.int .i64 (wrap64 ((rd x8_3 (rd x24_2 x26_2)) + 1))))) ?hg ?ho ?hn ?hr ?_; (case ho => rfl); (case hg => rfl); (case hn => rfl); (case hr => first | (go_simp; done) | (go_simp; rfl)); intro w40 hw; have hg : wr.grownBy w40 (some go37) := (by rw [hw]; exact HP39.2); have hp_ : Kd.R (Kd.int .i64) 3 w40 w.heap.size (fun k_ => some k_ ≠ (.slice (some ad1074) x24_2.length co26 : Value).ownBlock) (.slice (some ⟨go37, 0, none⟩) x8_3.length co38) y1079 := (by rw [hw, Ny1079.out]; exact HP39.1); clear HP39; have n0_ := Aside0.mk (hp_); have n1_ := Aside0.mk (Kd.R_after (v := (.slice (some ⟨go37, 0, none⟩) x8_3.length co38)) (v1 := (.slice (some ⟨go37, 0, none⟩) x8_3.length co38)) (ok := (fun _ => True)) (by (with_reducible repeat (first | apply Kd.R_alloc | apply Kd.R_drewN | apply Kd.R_drew)); exact Kd.R_mono HO_24.out (fun _ hk => ⟨trivial, hk⟩)) hg (.inl rfl)); have n2_ := Aside0.mk (blk_grown (g := gb1067) (o := .cells #[.int .i64 a0_0, .int .i64 a0_1, .bool a0_2, .bool a0_3] 51 (0, 0)) (by (with_reducible repeat (first | refine blk_drewN ?_ _ | refine blk_drew ?_ | refine blk_alloc ?_ _)); exact BK1067.out) hg (Kd.R_ne HO_8.out BK1067.out (by decide))); have n3_ := Aside0.mk (blk_grown (g := gb1068) (o := .cells #[.int .i64 a1_0, .int .i64 a1_1] 32 (0, 0)) (by (with_reducible repeat (first | refine blk_drewN ?_ _ | refine blk_drew ?_ | refine blk_alloc ?_ _)); exact BK1068.out) hg (Kd.R_ne HO_8.out BK1068.out (by decide))); have n4_ := Aside0.mk ((by rw [hw]; exact below_set (HB.out) GB37.out : Below w.heap.size w w40)); clear HO_8; clear HO_24; clear BK1067; clear BK1068; clear HB; have HO_8 := n0_; have HO_24 := n1_; have BK1067 := n2_; have BK1068 := n3_; have HB := n4_; clear n0_ n1_ n2_ n3_ n4_; clear hg hw hp_))
               (try simp only [← hl24_2])
               go_roundg k3
               case measure => have := HJ3.out; have := HK2.out; have := HK3.out; omega
               case rel => exact ⟨(y1079), (x24_2), (wrap64 (x26_2 + 1)), (by first | rfl | (simp; done) | (simp [*]; done)), H', ⟨by have := HJ3.out; have := HK2.out; have := HK3.out; omega⟩, ⟨by (try simp only [hl24_2]); (with_reducible repeat (first | apply Kd.R_alloc | apply Kd.R_drewN | apply Kd.R_drew)); exact HO_8.out⟩, ⟨by (try simp only [hl24_2]); (with_reducible repeat (first | apply Kd.R_alloc | apply Kd.R_drewN | apply Kd.R_drew)); exact Kd.R_mono HO_24.out (fun _ hk => hk.2)⟩, ⟨by (try simp only [hl24_2]); (with_reducible repeat (first | refine blk_drewN ?_ _ | refine blk_drew ?_ | refine blk_alloc ?_ _)); exact BK1067.out⟩, ⟨by (try simp only [hl24_2]); (with_reducible repeat (first | refine blk_drewN ?_ _ | refine blk_drew ?_ | refine blk_alloc ?_ _)); exact BK1068.out⟩, ⟨by repeat (first | (with_reducible first | exact HB.out | apply below_alloc | apply pw_below_drewN | apply below_drew1 | refine below_set ?_ GE1067.out | refine below_set ?_ GE1068.out) | exact HB.out)⟩⟩
              ·rw [if_neg c36] at H
               exact absurd H (by simp)
             ·rw [if_neg c35] at H
              exact absurd H (by simp)
        ·rw [if_neg c29] at H
         exact absurd H (by simp)
       ·rw [if_neg c28] at H
        exact absurd H (by simp)
      ·rw [if_neg c27] at H
       have c27b0 : decide (x26_2 < (t1071.length : Int)) = false := decide_eq_false c27
       have c27b8 := c27b0
       (try simp only [hl24_2] at c27b8)
       clear c27
       simp only [Option.some.injEq, Prod.mk.injEq] at H
       obtain ⟨rfl, rfl⟩ := H
       go_wp2
       go_ret2
       exact ⟨_, by first | rfl | (simp [errW_none, errW_some] <;> rfl) | (simp [*, errW_none, errW_some] <;> rfl), by (with_reducible repeat (first | apply Kd.R_alloc | apply Kd.R_drewN | apply Kd.R_drew)); exact Kd.R_mono HO_8.out (fun _ hk => trivial), by repeat (first | (with_reducible first | exact HB.out | apply below_alloc | apply pw_below_drewN | apply below_drew1 | refine below_set ?_ GE1067.out | refine below_set ?_ GE1068.out) | exact HB.out)⟩

/-! ### laws_toAround: function 41 -/
def laws_toAround.f (a0_0 : Int) (a0_1 : Int) (a0_2 : Bool) (a0_3 : Bool) : Option (Int × Int × Bool × Bool) := some (a0_0, a0_1, a0_2, a0_3)
set_option maxHeartbeats 8000000 in
set_option maxRecDepth 100000 in
theorem laws_toAround.calls (a0_0 : Int) (a0_1 : Int) (a0_2 : Bool) (a0_3 : Bool) (r1 : Int) (r2 : Int) (r3 : Bool) (r4 : Bool) (w : World) (h : laws_toAround.f a0_0 a0_1 a0_2 a0_3 = some (r1, r2, r3, r4)) :
  Calls Try.prog 41 #[.agg #[.int .i64 a0_0, .int .i64 a0_1, .bool a0_2, .bool a0_3]] w fun e w' => e = .returned (.agg #[.int .i64 r1, .int .i64 r2, .bool r3, .bool r4]) ∧ Below w.heap.size w w' := by
 have hu49 := Try.underlying49
 have hu51 := Try.underlying51
 have HB := Aside0.mk (Below.refl w.heap.size w)
 have H : (some (a0_0, a0_1, a0_2, a0_3)) = some (r1, r2, r3, r4) := h
 clear h
 simp only [Option.some.injEq, Prod.mk.injEq] at H
 obtain ⟨rfl, rfl, rfl, rfl⟩ := H
 go_enter Try.func41, Try.ntmps41
 go_wp2_with (first | ((with_reducible refine gate_dst (N := 1) rfl ?_); refine box_event ?hg (N := 1) ?hd (cs := #[.int .i64 a0_0, .int .i64 a0_1, .bool a0_2, .bool a0_3]) (t := 49) ?hr ?_; (case hd => rfl); (case hg => rfl); (case hr => first | (go_simp; done) | (go_simp; rfl)); intro gb1080 hg w2 hbox hb; have n0_ := Aside0.mk (below_step (by repeat (first | (with_reducible first | exact HB.out | apply below_alloc | apply pw_below_drewN | apply below_drew1) | exact HB.out)) hb); have n1_ := Aside0.mk (hbox); have n2_ := Aside0.mk ((by rw [hg]; exact (below_size (by repeat (first | (with_reducible first | exact HB.out | apply below_alloc | apply pw_below_drewN | apply below_drew1) | exact HB.out))) : w.heap.size ≤ gb1080)); have n3_ := Aside0.mk ((by rw [hg]; exact (below_size (by repeat (first | (with_reducible first | exact HB.out | apply below_alloc | apply pw_below_drewN | apply below_drew1) | exact HB.out))) : w.heap.size ≤ gb1080)); clear HB; have HB := n0_; have BK1080 := n1_; have GW1080 := n2_; have GE1080 := n3_; clear n0_ n1_ n2_ n3_; clear hb hbox hg) | ((with_reducible refine gate_dst (N := 2) rfl ?_); refine box_event ?hg (N := 2) ?hd (cs := #[.int .i64 0, .int .i64 0, .bool false, .bool false]) (t := 51) ?hr ?_; (case hd => rfl); (case hg => rfl); (case hr => first | (go_simp; done) | (go_simp; rfl)); intro gb1081 hg w3 hbox hb; have n0_ := Aside0.mk (blk_below (g := gb1080) (o := .cells #[.int .i64 a0_0, .int .i64 a0_1, .bool a0_2, .bool a0_3] 49 (0, 0)) (by (with_reducible repeat (first | refine blk_drewN ?_ _ | refine blk_drew ?_ | refine blk_alloc ?_ _)); exact BK1080.out) hb); have n1_ := Aside0.mk (below_step (by repeat (first | (with_reducible first | exact HB.out | apply below_alloc | apply pw_below_drewN | apply below_drew1 | refine below_set ?_ GE1080.out) | exact HB.out)) hb); have n2_ := Aside0.mk (hbox); have n3_ := Aside0.mk ((by rw [hg]; exact (below_size (by repeat (first | (with_reducible first | exact HB.out | apply below_alloc | apply pw_below_drewN | apply below_drew1 | refine below_set ?_ GE1080.out) | exact HB.out))) : w.heap.size ≤ gb1081)); have n4_ := Aside0.mk ((by rw [hg]; exact (below_size (by repeat (first | (with_reducible first | exact HB.out | apply below_alloc | apply pw_below_drewN | apply below_drew1 | refine below_set ?_ GE1080.out) | exact HB.out))) : w.heap.size ≤ gb1081)); have n5_ := Aside0.mk ((by rw [hg]; exact Nat.ne_of_lt (blk_lt (g := gb1080) (o := .cells #[.int .i64 a0_0, .int .i64 a0_1, .bool a0_2, .bool a0_3] 49 (0, 0)) (by (with_reducible repeat (first | refine blk_drewN ?_ _ | refine blk_drew ?_ | refine blk_alloc ?_ _)); exact BK1080.out)) : gb1080 ≠ gb1081)); have n6_ := Aside0.mk ((by rw [hg]; exact Nat.ne_of_gt (blk_lt (g := gb1080) (o := .cells #[.int .i64 a0_0, .int .i64 a0_1, .bool a0_2, .bool a0_3] 49 (0, 0)) (by (with_reducible repeat (first | refine blk_drewN ?_ _ | refine blk_drew ?_ | refine blk_alloc ?_ _)); exact BK1080.out)) : gb1081 ≠ gb1080)); clear BK1080; clear HB; have BK1080 := n0_; have HB := n1_; have BK1081 := n2_; have GW1081 := n3_; have GE1081 := n4_; have NB1080_1081 := n5_; have NB1081_1080 := n6_; clear n0_ n1_ n2_ n3_ n4_ n5_ n6_; clear hb hbox hg) | ((with_reducible refine gate_dst (N := 3) rfl ?_); refine box_event ?hg (N := 3) ?hd (cs := #[.int .i64 0, .int .i64 0, .bool false, .bool false]) (t := 51) ?hr ?_; (case hd => rfl); (case hg => rfl); (case hr => first | (go_simp; done) | (go_simp; rfl)); intro gb1082 hg w4 hbox hb; have n0_ := Aside0.mk (blk_below (g := gb1080) (o := .cells #[.int .i64 a0_0, .int .i64 a0_1, .bool a0_2, .bool a0_3] 49 (0, 0)) (by (with_reducible repeat (first | refine blk_drewN ?_ _ | refine blk_drew ?_ | refine blk_alloc ?_ _)); exact BK1080.out) hb); have n1_ := Aside0.mk (blk_below (g := gb1081) (o := .cells #[.int .i64 0, .int .i64 0, .bool false, .bool false] 51 (0, 0)) (by (with_reducible repeat (first | refine blk_drewN ?_ _ | refine blk_drew ?_ | refine blk_alloc ?_ _)); exact BK1081.out) hb); have n2_ := Aside0.mk (below_step (by repeat (first | (with_reducible first | exact HB.out | apply below_alloc | apply pw_below_drewN | apply below_drew1 | refine below_set ?_ GE1080.out | refine below_set ?_ GE1081.out) | exact HB.out)) hb); have n3_ := Aside0.mk (hbox); have n4_ := Aside0.mk ((by rw [hg]; exact (below_size (by repeat (first | (with_reducible first | exact HB.out | apply below_alloc | apply pw_below_drewN | apply below_drew1 | refine below_set ?_ GE1080.out | refine below_set ?_ GE1081.out) | exact HB.out))) : w.heap.size ≤ gb1082)); have n5_ := Aside0.mk ((by rw [hg]; exact (below_size (by repeat (first | (with_reducible first | exact HB.out | apply below_alloc | apply pw_below_drewN | apply below_drew1 | refine below_set ?_ GE1080.out | refine below_set ?_ GE1081.out) | exact HB.out))) : w.heap.size ≤ gb1082)); have n6_ := Aside0.mk ((by rw [hg]; exact Nat.ne_of_lt (blk_lt (g := gb1080) (o := .cells #[.int .i64 a0_0, .int .i64 a0_1, .bool a0_2, .bool a0_3] 49 (0, 0)) (by (with_reducible repeat (first | refine blk_drewN ?_ _ | refine blk_drew ?_ | refine blk_alloc ?_ _)); exact BK1080.out)) : gb1080 ≠ gb1082)); have n7_ := Aside0.mk ((by rw [hg]; exact Nat.ne_of_gt (blk_lt (g := gb1080) (o := .cells #[.int .i64 a0_0, .int .i64 a0_1, .bool a0_2, .bool a0_3] 49 (0, 0)) (by (with_reducible repeat (first | refine blk_drewN ?_ _ | refine blk_drew ?_ | refine blk_alloc ?_ _)); exact BK1080.out)) : gb1082 ≠ gb1080)); have n8_ := Aside0.mk ((by rw [hg]; exact Nat.ne_of_lt (blk_lt (g := gb1081) (o := .cells #[.int .i64 0, .int .i64 0, .bool false, .bool false] 51 (0, 0)) (by (with_reducible repeat (first | refine blk_drewN ?_ _ | refine blk_drew ?_ | refine blk_alloc ?_ _)); exact BK1081.out)) : gb1081 ≠ gb1082)); have n9_ := Aside0.mk ((by rw [hg]; exact Nat.ne_of_gt (blk_lt (g := gb1081) (o := .cells #[.int .i64 0, .int .i64 0, .bool false, .bool false] 51 (0, 0)) (by (with_reducible repeat (first | refine blk_drewN ?_ _ | refine blk_drew ?_ | refine blk_alloc ?_ _)); exact BK1081.out)) : gb1082 ≠ gb1081)); clear BK1080; clear BK1081; clear HB; have BK1080 := n0_; have BK1081 := n1_; have HB := n2_; have BK1082 := n3_; have GW1082 := n4_; have GE1082 := n5_; have NB1080_1082 := n6_; have NB1082_1080 := n7_; have NB1081_1082 := n8_; have NB1082_1081 := n9_; clear n0_ n1_ n2_ n3_ n4_ n5_ n6_ n7_ n8_ n9_; clear hb hbox hg; have hnb5 := NB1080_1081.out; have hnc5 := NB1081_1080.out; have hnb6 := NB1080_1082.out; have hnc6 := NB1082_1080.out; have hcz7_0 : w4.cell? ⟨gb1080, 0, none⟩ = some (.int .i64 a0_0) := (blk_cell BK1080.out 0).trans rfl; have hcz7_1 : w4.cell? ⟨gb1080, 1, none⟩ = some (.int .i64 a0_1) := (blk_cell BK1080.out 1).trans rfl; have hcz7_2 : w4.cell? ⟨gb1080, 2, none⟩ = some (.bool a0_2) := (blk_cell BK1080.out 2).trans rfl; have hcz7_3 : w4.cell? ⟨gb1080, 3, none⟩ = some (.bool a0_3) := (blk_cell BK1080.out 3).trans rfl; have hfz7_0 := blk_frozen BK1080.out 0; have hfz7_1 := blk_frozen BK1080.out 1; have hfz7_2 := blk_frozen BK1080.out 2; have hfz7_3 := blk_frozen BK1080.out 3; have hnb8 := NB1082_1081.out; have hnc8 := NB1081_1082.out; have hcz9_0 : w4.cell? ⟨gb1082, 0, none⟩ = some (.int .i64 0) := (blk_cell BK1082.out 0).trans rfl; have hcz9_1 : w4.cell? ⟨gb1082, 1, none⟩ = some (.int .i64 0) := (blk_cell BK1082.out 1).trans rfl; have hcz9_2 : w4.cell? ⟨gb1082, 2, none⟩ = some (.bool false) := (blk_cell BK1082.out 2).trans rfl; have hcz9_3 : w4.cell? ⟨gb1082, 3, none⟩ = some (.bool false) := (blk_cell BK1082.out 3).trans rfl; have hfz9_0 := blk_frozen BK1082.out 0; have hfz9_1 := blk_frozen BK1082.out 1; have hfz9_2 := blk_frozen BK1082.out 2; have hfz9_3 := blk_frozen BK1082.out 3; have hcz10_0 : w4.cell? ⟨gb1081, 0, none⟩ = some (.int .i64 0) := (blk_cell BK1081.out 0).trans rfl; have hcz10_1 : w4.cell? ⟨gb1081, 1, none⟩ = some (.int .i64 0) := (blk_cell BK1081.out 1).trans rfl; have hcz10_2 : w4.cell? ⟨gb1081, 2, none⟩ = some (.bool false) := (blk_cell BK1081.out 2).trans rfl; have hcz10_3 : w4.cell? ⟨gb1081, 3, none⟩ = some (.bool false) := (blk_cell BK1081.out 3).trans rfl; have hfz10_0 := blk_frozen BK1081.out 0; have hfz10_1 := blk_frozen BK1081.out 1; have hfz10_2 := blk_frozen BK1081.out 2; have hfz10_3 := blk_frozen BK1081.out 3))
 refine bodyPost_ret (results_cell_row rfl _ _ gb1081 51 #[.int .i64 a0_0, .int .i64 a0_1, .bool a0_2, .bool a0_3] (0, 0) _ rfl (by (with_reducible repeat (first | refine blk_drewN ?_ _ | refine blk_drew ?_ | refine blk_alloc ?_ _)); refine blk_put (cs := #[.int .i64 a0_0, .int .i64 a0_1, .bool a0_2, .bool false]) ?_ 3 _ rfl; (with_reducible repeat (first | refine blk_drewN ?_ _ | refine blk_drew ?_ | refine blk_alloc ?_ _)); refine blk_put (cs := #[.int .i64 a0_0, .int .i64 a0_1, .bool false, .bool false]) ?_ 2 _ rfl; (with_reducible repeat (first | refine blk_drewN ?_ _ | refine blk_drew ?_ | refine blk_alloc ?_ _)); refine blk_put (cs := #[.int .i64 a0_0, .int .i64 0, .bool false, .bool false]) ?_ 1 _ rfl; (with_reducible repeat (first | refine blk_drewN ?_ _ | refine blk_drew ?_ | refine blk_alloc ?_ _)); refine blk_put (cs := #[.int .i64 0, .int .i64 0, .bool false, .bool false]) ?_ 0 _ rfl; (with_reducible repeat (first | refine blk_drewN ?_ _ | refine blk_drew ?_ | refine blk_alloc ?_ _)); refine blk_far ?_ NB1081_1082.out _; (with_reducible repeat (first | refine blk_drewN ?_ _ | refine blk_drew ?_ | refine blk_alloc ?_ _)); refine blk_far ?_ NB1081_1082.out _; (with_reducible repeat (first | refine blk_drewN ?_ _ | refine blk_drew ?_ | refine blk_alloc ?_ _)); refine blk_far ?_ NB1081_1082.out _; (with_reducible repeat (first | refine blk_drewN ?_ _ | refine blk_drew ?_ | refine blk_alloc ?_ _)); refine blk_far ?_ NB1081_1082.out _; (with_reducible repeat (first | refine blk_drewN ?_ _ | refine blk_drew ?_ | refine blk_alloc ?_ _)); exact BK1081.out) Try.underlying51 rfl (by kernel_rfl)) rfl ?_
 exact ⟨by first | rfl | (simp [errW_none, errW_some] <;> rfl) | (simp [*, errW_none, errW_some] <;> rfl), by repeat (first | (with_reducible first | exact HB.out | apply below_alloc | apply pw_below_drewN | apply below_drew1 | refine below_set ?_ GE1080.out | refine below_set ?_ GE1081.out | refine below_set ?_ GE1082.out) | exact HB.out)⟩

/-! ### impl_IsAround: function 110 -/
def impl_IsAround.f (a0_0 : Int) (a0_1 : Int) (a0_2 : Bool) (a0_3 : Bool) : Option (Bool) := if a0_0 ≥ 1 then (if a0_0 ≤ 12 then (if a0_1 ≥ 1 then (some (decide (a0_1 ≤ 12))) else (some false)) else (some false)) else (some false)
set_option maxHeartbeats 8000000 in
set_option maxRecDepth 100000 in
theorem impl_IsAround.calls (a0_0 : Int) (a0_1 : Int) (a0_2 : Bool) (a0_3 : Bool) (r : Bool) (w : World) (h : impl_IsAround.f a0_0 a0_1 a0_2 a0_3 = some r) :
  Calls Try.prog 110 #[.agg #[.int .i64 a0_0, .int .i64 a0_1, .bool a0_2, .bool a0_3]] w fun e w' => e = .returned (.bool r) ∧ Below w.heap.size w w' := by
 have hu51 := Try.underlying51
 have HB := Aside0.mk (Below.refl w.heap.size w)
 have H : (if a0_0 ≥ 1 then (if a0_0 ≤ 12 then (if a0_1 ≥ 1 then (some (decide (a0_1 ≤ 12))) else (some false)) else (some false)) else (some false)) = some r := h
 clear h
 by_cases c2 : a0_0 ≥ 1
 ·rw [if_pos c2] at H
  have c2b0 : decide (1 ≤ a0_0) = true := decide_eq_true c2
  clear c2
  by_cases c3 : a0_0 ≤ 12
  ·rw [if_pos c3] at H
   have c3b0 : decide (a0_0 ≤ 12) = true := decide_eq_true c3
   clear c3
   by_cases c4 : a0_1 ≥ 1
   ·rw [if_pos c4] at H
    have c4b0 : decide (1 ≤ a0_1) = true := decide_eq_true c4
    clear c4
    obtain rfl := Option.some.inj H
    go_enter Try.func110, Try.ntmps110
    go_wp2_with (first | ((with_reducible refine gate_dst (N := 1) rfl ?_); refine box_event ?hg (N := 1) ?hd (cs := #[.int .i64 a0_0, .int .i64 a0_1, .bool a0_2, .bool a0_3]) (t := 51) ?hr ?_; (case hd => rfl); (case hg => rfl); (case hr => first | (go_simp; done) | (go_simp; rfl)); intro gb1083 hg w5 hbox hb; have n0_ := Aside0.mk (below_step (by repeat (first | (with_reducible first | exact HB.out | apply below_alloc | apply pw_below_drewN | apply below_drew1) | exact HB.out)) hb); have n1_ := Aside0.mk (hbox); have n2_ := Aside0.mk ((by rw [hg]; exact (below_size (by repeat (first | (with_reducible first | exact HB.out | apply below_alloc | apply pw_below_drewN | apply below_drew1) | exact HB.out))) : w.heap.size ≤ gb1083)); have n3_ := Aside0.mk ((by rw [hg]; exact (below_size (by repeat (first | (with_reducible first | exact HB.out | apply below_alloc | apply pw_below_drewN | apply below_drew1) | exact HB.out))) : w.heap.size ≤ gb1083)); clear HB; have HB := n0_; have BK1083 := n1_; have GW1083 := n2_; have GE1083 := n3_; clear n0_ n1_ n2_ n3_; clear hb hbox hg; have hcz6_0 : w5.cell? ⟨gb1083, 0, none⟩ = some (.int .i64 a0_0) := (blk_cell BK1083.out 0).trans rfl; have hcz6_1 : w5.cell? ⟨gb1083, 1, none⟩ = some (.int .i64 a0_1) := (blk_cell BK1083.out 1).trans rfl; have hcz6_2 : w5.cell? ⟨gb1083, 2, none⟩ = some (.bool a0_2) := (blk_cell BK1083.out 2).trans rfl; have hcz6_3 : w5.cell? ⟨gb1083, 3, none⟩ = some (.bool a0_3) := (blk_cell BK1083.out 3).trans rfl; have hfz6_0 := blk_frozen BK1083.out 0; have hfz6_1 := blk_frozen BK1083.out 1; have hfz6_2 := blk_frozen BK1083.out 2; have hfz6_3 := blk_frozen BK1083.out 3))
    go_ret
    exact ⟨by first | rfl | (simp [errW_none, errW_some] <;> rfl) | (simp [*, errW_none, errW_some] <;> rfl), by repeat (first | (with_reducible first | exact HB.out | apply below_alloc | apply pw_below_drewN | apply below_drew1 | refine below_set ?_ GE1083.out) | exact HB.out)⟩
   ·rw [if_neg c4] at H
    have c4b0 : decide (1 ≤ a0_1) = false := decide_eq_false c4
    clear c4
    obtain rfl := Option.some.inj H
    go_enter Try.func110, Try.ntmps110
    go_wp2_with (first | ((with_reducible refine gate_dst (N := 1) rfl ?_); refine box_event ?hg (N := 1) ?hd (cs := #[.int .i64 a0_0, .int .i64 a0_1, .bool a0_2, .bool a0_3]) (t := 51) ?hr ?_; (case hd => rfl); (case hg => rfl); (case hr => first | (go_simp; done) | (go_simp; rfl)); intro gb1083 hg w7 hbox hb; have n0_ := Aside0.mk (below_step (by repeat (first | (with_reducible first | exact HB.out | apply below_alloc | apply pw_below_drewN | apply below_drew1) | exact HB.out)) hb); have n1_ := Aside0.mk (hbox); have n2_ := Aside0.mk ((by rw [hg]; exact (below_size (by repeat (first | (with_reducible first | exact HB.out | apply below_alloc | apply pw_below_drewN | apply below_drew1) | exact HB.out))) : w.heap.size ≤ gb1083)); have n3_ := Aside0.mk ((by rw [hg]; exact (below_size (by repeat (first | (with_reducible first | exact HB.out | apply below_alloc | apply pw_below_drewN | apply below_drew1) | exact HB.out))) : w.heap.size ≤ gb1083)); clear HB; have HB := n0_; have BK1083 := n1_; have GW1083 := n2_; have GE1083 := n3_; clear n0_ n1_ n2_ n3_; clear hb hbox hg; have hcz8_0 : w7.cell? ⟨gb1083, 0, none⟩ = some (.int .i64 a0_0) := (blk_cell BK1083.out 0).trans rfl; have hcz8_1 : w7.cell? ⟨gb1083, 1, none⟩ = some (.int .i64 a0_1) := (blk_cell BK1083.out 1).trans rfl; have hcz8_2 : w7.cell? ⟨gb1083, 2, none⟩ = some (.bool a0_2) := (blk_cell BK1083.out 2).trans rfl; have hcz8_3 : w7.cell? ⟨gb1083, 3, none⟩ = some (.bool a0_3) := (blk_cell BK1083.out 3).trans rfl; have hfz8_0 := blk_frozen BK1083.out 0; have hfz8_1 := blk_frozen BK1083.out 1; have hfz8_2 := blk_frozen BK1083.out 2; have hfz8_3 := blk_frozen BK1083.out 3))
    go_ret
    exact ⟨by first | rfl | (simp [errW_none, errW_some] <;> rfl) | (simp [*, errW_none, errW_some] <;> rfl), by repeat (first | (with_reducible first | exact HB.out | apply below_alloc | apply pw_below_drewN | apply below_drew1 | refine below_set ?_ GE1083.out) | exact HB.out)⟩
  ·rw [if_neg c3] at H
   have c3b0 : decide (a0_0 ≤ 12) = false := decide_eq_false c3
   clear c3
   obtain rfl := Option.some.inj H
   go_enter Try.func110, Try.ntmps110
   go_wp2_with (first | ((with_reducible refine gate_dst (N := 1) rfl ?_); refine box_event ?hg (N := 1) ?hd (cs := #[.int .i64 a0_0, .int .i64 a0_1, .bool a0_2, .bool a0_3]) (t := 51) ?hr ?_; (case hd => rfl); (case hg => rfl); (case hr => first | (go_simp; done) | (go_simp; rfl)); intro gb1083 hg w9 hbox hb; have n0_ := Aside0.mk (below_step (by repeat (first | (with_reducible first | exact HB.out | apply below_alloc | apply pw_below_drewN | apply below_drew1) | exact HB.out)) hb); have n1_ := Aside0.mk (hbox); have n2_ := Aside0.mk ((by rw [hg]; exact (below_size (by repeat (first | (with_reducible first | exact HB.out | apply below_alloc | apply pw_below_drewN | apply below_drew1) | exact HB.out))) : w.heap.size ≤ gb1083)); have n3_ := Aside0.mk ((by rw [hg]; exact (below_size (by repeat (first | (with_reducible first | exact HB.out | apply below_alloc | apply pw_below_drewN | apply below_drew1) | exact HB.out))) : w.heap.size ≤ gb1083)); clear HB; have HB := n0_; have BK1083 := n1_; have GW1083 := n2_; have GE1083 := n3_; clear n0_ n1_ n2_ n3_; clear hb hbox hg; have hcz10_0 : w9.cell? ⟨gb1083, 0, none⟩ = some (.int .i64 a0_0) := (blk_cell BK1083.out 0).trans rfl; have hcz10_1 : w9.cell? ⟨gb1083, 1, none⟩ = some (.int .i64 a0_1) := (blk_cell BK1083.out 1).trans rfl; have hcz10_2 : w9.cell? ⟨gb1083, 2, none⟩ = some (.bool a0_2) := (blk_cell BK1083.out 2).trans rfl; have hcz10_3 : w9.cell? ⟨gb1083, 3, none⟩ = some (.bool a0_3) := (blk_cell BK1083.out 3).trans rfl; have hfz10_0 := blk_frozen BK1083.out 0; have hfz10_1 := blk_frozen BK1083.out 1; have hfz10_2 := blk_frozen BK1083.out 2; have hfz10_3 := blk_frozen BK1083.out 3))
   go_ret
   exact ⟨by first | rfl | (simp [errW_none, errW_some] <;> rfl) | (simp [*, errW_none, errW_some] <;> rfl), by repeat (first | (with_reducible first | exact HB.out | apply below_alloc | apply pw_below_drewN | apply below_drew1 | refine below_set ?_ GE1083.out) | exact HB.out)⟩
 ·rw [if_neg c2] at H
  have c2b0 : decide (1 ≤ a0_0) = false := decide_eq_false c2
  clear c2
  obtain rfl := Option.some.inj H
  go_enter Try.func110, Try.ntmps110
  go_wp2_with (first | ((with_reducible refine gate_dst (N := 1) rfl ?_); refine box_event ?hg (N := 1) ?hd (cs := #[.int .i64 a0_0, .int .i64 a0_1, .bool a0_2, .bool a0_3]) (t := 51) ?hr ?_; (case hd => rfl); (case hg => rfl); (case hr => first | (go_simp; done) | (go_simp; rfl)); intro gb1083 hg w11 hbox hb; have n0_ := Aside0.mk (below_step (by repeat (first | (with_reducible first | exact HB.out | apply below_alloc | apply pw_below_drewN | apply below_drew1) | exact HB.out)) hb); have n1_ := Aside0.mk (hbox); have n2_ := Aside0.mk ((by rw [hg]; exact (below_size (by repeat (first | (with_reducible first | exact HB.out | apply below_alloc | apply pw_below_drewN | apply below_drew1) | exact HB.out))) : w.heap.size ≤ gb1083)); have n3_ := Aside0.mk ((by rw [hg]; exact (below_size (by repeat (first | (with_reducible first | exact HB.out | apply below_alloc | apply pw_below_drewN | apply below_drew1) | exact HB.out))) : w.heap.size ≤ gb1083)); clear HB; have HB := n0_; have BK1083 := n1_; have GW1083 := n2_; have GE1083 := n3_; clear n0_ n1_ n2_ n3_; clear hb hbox hg; have hcz12_0 : w11.cell? ⟨gb1083, 0, none⟩ = some (.int .i64 a0_0) := (blk_cell BK1083.out 0).trans rfl; have hcz12_1 : w11.cell? ⟨gb1083, 1, none⟩ = some (.int .i64 a0_1) := (blk_cell BK1083.out 1).trans rfl; have hcz12_2 : w11.cell? ⟨gb1083, 2, none⟩ = some (.bool a0_2) := (blk_cell BK1083.out 2).trans rfl; have hcz12_3 : w11.cell? ⟨gb1083, 3, none⟩ = some (.bool a0_3) := (blk_cell BK1083.out 3).trans rfl; have hfz12_0 := blk_frozen BK1083.out 0; have hfz12_1 := blk_frozen BK1083.out 1; have hfz12_2 := blk_frozen BK1083.out 2; have hfz12_3 := blk_frozen BK1083.out 3))
  go_ret
  exact ⟨by first | rfl | (simp [errW_none, errW_some] <;> rfl) | (simp [*, errW_none, errW_some] <;> rfl), by repeat (first | (with_reducible first | exact HB.out | apply below_alloc | apply pw_below_drewN | apply below_drew1 | refine below_set ?_ GE1083.out) | exact HB.out)⟩

/-! ### impl_place: function 139 -/
def impl_place.f (a0 : Int) (a1 : Int) (a2 : Bool) : Option (Int × Bool) := if a2 = true then (if a1 = 0 then (none) else (some (Int.tmod (wrap64 ((Int.tmod a0 a1) + a1)) a1, true))) else (if a0 ≥ 0 then (some (a0, decide (a0 < a1))) else (some (a0, false)))
set_option maxHeartbeats 8000000 in
set_option maxRecDepth 100000 in
theorem impl_place.calls (a0 : Int) (a1 : Int) (a2 : Bool) (r1 : Int) (r2 : Bool) (w : World) (h : impl_place.f a0 a1 a2 = some (r1, r2)) :
  Calls Try.prog 139 #[.int .i64 a0, .int .i64 a1, .bool a2] w fun e w' => e = .returned (.tuple #[.int .i64 r1, .bool r2]) ∧ Drawn0 w w' := by
 have H : (if a2 = true then (if a1 = 0 then (none) else (some (Int.tmod (wrap64 ((Int.tmod a0 a1) + a1)) a1, true))) else (if a0 ≥ 0 then (some (a0, decide (a0 < a1))) else (some (a0, false)))) = some (r1, r2) := h
 clear h
 by_cases c4 : a2 = true
 ·subst c4
  have H1 : (if a1 = 0 then (none) else (some (Int.tmod (wrap64 ((Int.tmod a0 a1) + a1)) a1, true))) = some (r1, r2) := by rw [if_pos rfl] at H; exact H
  clear H
  have H := H1
  clear H1
  by_cases c5 : a1 = 0
  ·rw [if_pos c5] at H
   exact absurd H (by simp)
  ·rw [if_neg c5] at H
   have c5b0 : (a1 == 0) = false := beq_eq_false_iff_ne.mpr c5
   have c5b1 : (a1 != 0) = true := bne_iff_ne.mpr c5
   simp only [Option.some.injEq, Prod.mk.injEq] at H
   obtain ⟨rfl, rfl⟩ := H
   go_enter Try.func139, Try.ntmps139
   go_wp2
   go_ret2
   exact ⟨by first | rfl | (simp; done) | (simp [*]; done), by repeat (first | exact Drawn0.refl _ | apply Drawn0.step)⟩
 ·replace c4 := Bool.eq_false_iff.mpr c4
  subst c4
  have H1 : (if a0 ≥ 0 then (some (a0, decide (a0 < a1))) else (some (a0, false))) = some (r1, r2) := by rw [if_neg (show ¬ (false = true) by decide)] at H; exact H
  clear H
  have H := H1
  clear H1
  by_cases c6 : a0 ≥ 0
  ·rw [if_pos c6] at H
   have c6b0 : decide (0 ≤ a0) = true := decide_eq_true c6
   clear c6
   simp only [Option.some.injEq, Prod.mk.injEq] at H
   obtain ⟨rfl, rfl⟩ := H
   go_enter Try.func139, Try.ntmps139
   go_wp2
   go_ret2
   exact ⟨by first | rfl | (simp; done) | (simp [*]; done), by repeat (first | exact Drawn0.refl _ | apply Drawn0.step)⟩
  ·rw [if_neg c6] at H
   have c6b0 : decide (0 ≤ a0) = false := decide_eq_false c6
   clear c6
   simp only [Option.some.injEq, Prod.mk.injEq] at H
   obtain ⟨rfl, rfl⟩ := H
   go_enter Try.func139, Try.ntmps139
   go_wp2
   go_ret2
   exact ⟨by first | rfl | (simp; done) | (simp [*]; done), by repeat (first | exact Drawn0.refl _ | apply Drawn0.step)⟩

/-! ### impl_Around_step: function 127 -/
def impl_Around_step.f (a0_0 : Int) (a0_1 : Int) (a0_2 : Bool) (a0_3 : Bool) (a1 : Int) (a2 : Int) (a3 : Int) : Option (Int × Bool) := if a0_0 = 0 then (none) else ((impl_place.f (wrap64 ((Int.tmod a1 a0_0) + a2)) a0_0 a0_2).bind fun bt1085 => ((impl_place.f (wrap64 ((wrap64 (Int.tdiv a1 a0_0)) + a3)) a0_1 a0_3).bind fun bt1087 => (if bt1085.2 = true then (some (wrap64 ((wrap64 (bt1087.1 * a0_0)) + bt1085.1), bt1087.2)) else (some (wrap64 ((wrap64 (bt1087.1 * a0_0)) + bt1085.1), false)))))
set_option maxHeartbeats 8000000 in
set_option maxRecDepth 100000 in
theorem impl_Around_step.calls (a0_0 : Int) (a0_1 : Int) (a0_2 : Bool) (a0_3 : Bool) (a1 : Int) (a2 : Int) (a3 : Int) (r1 : Int) (r2 : Bool) (w : World) (h : impl_Around_step.f a0_0 a0_1 a0_2 a0_3 a1 a2 a3 = some (r1, r2)) :
  Calls Try.prog 127 #[.agg #[.int .i64 a0_0, .int .i64 a0_1, .bool a0_2, .bool a0_3], .int .i64 a1, .int .i64 a2, .int .i64 a3] w fun e w' => e = .returned (.tuple #[.int .i64 r1, .bool r2]) ∧ Below w.heap.size w w' := by
 have hu51 := Try.underlying51
 have HB := Aside0.mk (Below.refl w.heap.size w)
 have H : (if a0_0 = 0 then (none) else ((impl_place.f (wrap64 ((Int.tmod a1 a0_0) + a2)) a0_0 a0_2).bind fun bt1085 => ((impl_place.f (wrap64 ((wrap64 (Int.tdiv a1 a0_0)) + a3)) a0_1 a0_3).bind fun bt1087 => (if bt1085.2 = true then (some (wrap64 ((wrap64 (bt1087.1 * a0_0)) + bt1085.1), bt1087.2)) else (some (wrap64 ((wrap64 (bt1087.1 * a0_0)) + bt1085.1), false)))))) = some (r1, r2) := h
 clear h
 by_cases c5 : a0_0 = 0
 ·rw [if_pos c5] at H
  exact absurd H (by simp)
 ·rw [if_neg c5] at H
  have c5b0 : (a0_0 == 0) = false := beq_eq_false_iff_ne.mpr c5
  have c5b1 : (a0_0 != 0) = true := bne_iff_ne.mpr c5
  replace H := Option.bind_eq_some_iff.mp H
  obtain ⟨⟨t1085, t1086⟩, A60, H⟩ := H
  replace H : ((impl_place.f (wrap64 ((wrap64 (Int.tdiv a1 a0_0)) + a3)) a0_1 a0_3).bind fun bt1087 => (if t1086 = true then (some (wrap64 ((wrap64 (bt1087.1 * a0_0)) + t1085), bt1087.2)) else (some (wrap64 ((wrap64 (bt1087.1 * a0_0)) + t1085), false)))) = some (r1, r2) := H
  have A6 := Aside0.mk A60
  clear A60
  replace H := Option.bind_eq_some_iff.mp H
  obtain ⟨⟨t1087, t1088⟩, A70, H⟩ := H
  replace H : (if t1086 = true then (some (wrap64 ((wrap64 (t1087 * a0_0)) + t1085), t1088)) else (some (wrap64 ((wrap64 (t1087 * a0_0)) + t1085), false))) = some (r1, r2) := H
  have A7 := Aside0.mk A70
  clear A70
  by_cases c8 : t1086 = true
  ·subst c8
   have H1 : (some (wrap64 ((wrap64 (t1087 * a0_0)) + t1085), t1088)) = some (r1, r2) := by rw [if_pos rfl] at H; exact H
   clear H
   have H := H1
   clear H1
   simp only [Option.some.injEq, Prod.mk.injEq] at H
   obtain ⟨rfl, rfl⟩ := H
   go_enter Try.func127, Try.ntmps127
   go_wp2_with (first | ((with_reducible refine gate_dst (N := 4) rfl ?_); refine box_event ?hg (N := 4) ?hd (cs := #[.int .i64 a0_0, .int .i64 a0_1, .bool a0_2, .bool a0_3]) (t := 51) ?hr ?_; (case hd => rfl); (case hg => rfl); (case hr => first | (go_simp; done) | (go_simp; rfl)); intro gb1084 hg w9 hbox hb; have n0_ := Aside0.mk (below_step (by repeat (first | (with_reducible first | exact HB.out | apply below_alloc | apply pw_below_drewN | apply below_drew1) | exact HB.out)) hb); have n1_ := Aside0.mk (hbox); have n2_ := Aside0.mk ((by rw [hg]; exact (below_size (by repeat (first | (with_reducible first | exact HB.out | apply below_alloc | apply pw_below_drewN | apply below_drew1) | exact HB.out))) : w.heap.size ≤ gb1084)); have n3_ := Aside0.mk ((by rw [hg]; exact (below_size (by repeat (first | (with_reducible first | exact HB.out | apply below_alloc | apply pw_below_drewN | apply below_drew1) | exact HB.out))) : w.heap.size ≤ gb1084)); clear HB; have HB := n0_; have BK1084 := n1_; have GW1084 := n2_; have GE1084 := n3_; clear n0_ n1_ n2_ n3_; clear hb hbox hg; have hcz10_0 : w9.cell? ⟨gb1084, 0, none⟩ = some (.int .i64 a0_0) := (blk_cell BK1084.out 0).trans rfl; have hcz10_1 : w9.cell? ⟨gb1084, 1, none⟩ = some (.int .i64 a0_1) := (blk_cell BK1084.out 1).trans rfl; have hcz10_2 : w9.cell? ⟨gb1084, 2, none⟩ = some (.bool a0_2) := (blk_cell BK1084.out 2).trans rfl; have hcz10_3 : w9.cell? ⟨gb1084, 3, none⟩ = some (.bool a0_3) := (blk_cell BK1084.out 3).trans rfl; have hfz10_0 := blk_frozen BK1084.out 0; have hfz10_1 := blk_frozen BK1084.out 1; have hfz10_2 := blk_frozen BK1084.out 2; have hfz10_3 := blk_frozen BK1084.out 3) | (go_at_call 139; (with_reducible refine (impl_place.calls (wrap64 ((Int.tmod a1 a0_0) + a2)) a0_0 a0_2 t1085 true _ A6.out).mono ?_); rintro e w' ⟨rfl, ⟨nd, rfl⟩⟩; (try first | exact ⟨rfl, _, World.drewN_drewN _ _ _⟩ | exact ⟨rfl, _, Eq.trans (World.drewN_drewN _ _ _) (congrArg (World.drewN _) (Nat.add_assoc _ _ _))⟩)) | (go_at_call 139; (with_reducible refine (impl_place.calls (wrap64 ((wrap64 (Int.tdiv a1 a0_0)) + a3)) a0_1 a0_3 t1087 t1088 _ A7.out).mono ?_); rintro e w' ⟨rfl, ⟨nd, rfl⟩⟩; (try first | exact ⟨rfl, _, World.drewN_drewN _ _ _⟩ | exact ⟨rfl, _, Eq.trans (World.drewN_drewN _ _ _) (congrArg (World.drewN _) (Nat.add_assoc _ _ _))⟩)))
   repeat ((first | go_quiet (first | ((with_reducible refine gate_dst (N := 4) rfl ?_); refine box_event ?hg (N := 4) ?hd (cs := #[.int .i64 a0_0, .int .i64 a0_1, .bool a0_2, .bool a0_3]) (t := 51) ?hr ?_; (case hd => rfl); (case hg => rfl); (case hr => first | (go_simp; done) | (go_simp; rfl)); intro gb1084 hg w9 hbox hb; have n0_ := Aside0.mk (below_step (by repeat (first | (with_reducible first | exact HB.out | apply below_alloc | apply pw_below_drewN | apply below_drew1) | exact HB.out)) hb); have n1_ := Aside0.mk (hbox); have n2_ := Aside0.mk ((by rw [hg]; exact (below_size (by repeat (first | (with_reducible first | exact HB.out | apply below_alloc | apply pw_below_drewN | apply below_drew1) | exact HB.out))) : w.heap.size ≤ gb1084)); have n3_ := Aside0.mk ((by rw [hg]; exact (below_size (by repeat (first | (with_reducible first | exact HB.out | apply below_alloc | apply pw_below_drewN | apply below_drew1) | exact HB.out))) : w.heap.size ≤ gb1084)); clear HB; have HB := n0_; have BK1084 := n1_; have GW1084 := n2_; have GE1084 := n3_; clear n0_ n1_ n2_ n3_; clear hb hbox hg; have hcz10_0 : w9.cell? ⟨gb1084, 0, none⟩ = some (.int .i64 a0_0) := (blk_cell BK1084.out 0).trans rfl; have hcz10_1 : w9.cell? ⟨gb1084, 1, none⟩ = some (.int .i64 a0_1) := (blk_cell BK1084.out 1).trans rfl; have hcz10_2 : w9.cell? ⟨gb1084, 2, none⟩ = some (.bool a0_2) := (blk_cell BK1084.out 2).trans rfl; have hcz10_3 : w9.cell? ⟨gb1084, 3, none⟩ = some (.bool a0_3) := (blk_cell BK1084.out 3).trans rfl; have hfz10_0 := blk_frozen BK1084.out 0; have hfz10_1 := blk_frozen BK1084.out 1; have hfz10_2 := blk_frozen BK1084.out 2; have hfz10_3 := blk_frozen BK1084.out 3) | (go_at_call 139; (with_reducible refine (impl_place.calls (wrap64 ((Int.tmod a1 a0_0) + a2)) a0_0 a0_2 t1085 true _ A6.out).mono ?_); rintro e w' ⟨rfl, ⟨nd, rfl⟩⟩; (try first | exact ⟨rfl, _, World.drewN_drewN _ _ _⟩ | exact ⟨rfl, _, Eq.trans (World.drewN_drewN _ _ _) (congrArg (World.drewN _) (Nat.add_assoc _ _ _))⟩)) | (go_at_call 139; (with_reducible refine (impl_place.calls (wrap64 ((wrap64 (Int.tdiv a1 a0_0)) + a3)) a0_1 a0_3 t1087 t1088 _ A7.out).mono ?_); rintro e w' ⟨rfl, ⟨nd, rfl⟩⟩; (try first | exact ⟨rfl, _, World.drewN_drewN _ _ _⟩ | exact ⟨rfl, _, Eq.trans (World.drewN_drewN _ _ _) (congrArg (World.drewN _) (Nat.add_assoc _ _ _))⟩))) | (refine wp_region_quiet_lit (by kernel_rfl) (by kernel_rfl) ?_; (repeat (any_goals (first | go_big_quiet_step (first | ((with_reducible refine gate_dst (N := 4) rfl ?_); refine box_event ?hg (N := 4) ?hd (cs := #[.int .i64 a0_0, .int .i64 a0_1, .bool a0_2, .bool a0_3]) (t := 51) ?hr ?_; (case hd => rfl); (case hg => rfl); (case hr => first | (go_simp; done) | (go_simp; rfl)); intro gb1084 hg w9 hbox hb; have n0_ := Aside0.mk (below_step (by repeat (first | (with_reducible first | exact HB.out | apply below_alloc | apply pw_below_drewN | apply below_drew1) | exact HB.out)) hb); have n1_ := Aside0.mk (hbox); have n2_ := Aside0.mk ((by rw [hg]; exact (below_size (by repeat (first | (with_reducible first | exact HB.out | apply below_alloc | apply pw_below_drewN | apply below_drew1) | exact HB.out))) : w.heap.size ≤ gb1084)); have n3_ := Aside0.mk ((by rw [hg]; exact (below_size (by repeat (first | (with_reducible first | exact HB.out | apply below_alloc | apply pw_below_drewN | apply below_drew1) | exact HB.out))) : w.heap.size ≤ gb1084)); clear HB; have HB := n0_; have BK1084 := n1_; have GW1084 := n2_; have GE1084 := n3_; clear n0_ n1_ n2_ n3_; clear hb hbox hg; have hcz10_0 : w9.cell? ⟨gb1084, 0, none⟩ = some (.int .i64 a0_0) := (blk_cell BK1084.out 0).trans rfl; have hcz10_1 : w9.cell? ⟨gb1084, 1, none⟩ = some (.int .i64 a0_1) := (blk_cell BK1084.out 1).trans rfl; have hcz10_2 : w9.cell? ⟨gb1084, 2, none⟩ = some (.bool a0_2) := (blk_cell BK1084.out 2).trans rfl; have hcz10_3 : w9.cell? ⟨gb1084, 3, none⟩ = some (.bool a0_3) := (blk_cell BK1084.out 3).trans rfl; have hfz10_0 := blk_frozen BK1084.out 0; have hfz10_1 := blk_frozen BK1084.out 1; have hfz10_2 := blk_frozen BK1084.out 2; have hfz10_3 := blk_frozen BK1084.out 3) | (go_at_call 139; (with_reducible refine (impl_place.calls (wrap64 ((Int.tmod a1 a0_0) + a2)) a0_0 a0_2 t1085 true _ A6.out).mono ?_); rintro e w' ⟨rfl, ⟨nd, rfl⟩⟩; (try first | exact ⟨rfl, _, World.drewN_drewN _ _ _⟩ | exact ⟨rfl, _, Eq.trans (World.drewN_drewN _ _ _) (congrArg (World.drewN _) (Nat.add_assoc _ _ _))⟩)) | (go_at_call 139; (with_reducible refine (impl_place.calls (wrap64 ((wrap64 (Int.tdiv a1 a0_0)) + a3)) a0_1 a0_3 t1087 t1088 _ A7.out).mono ?_); rintro e w' ⟨rfl, ⟨nd, rfl⟩⟩; (try first | exact ⟨rfl, _, World.drewN_drewN _ _ _⟩ | exact ⟨rfl, _, Eq.trans (World.drewN_drewN _ _ _) (congrArg (World.drewN _) (Nat.add_assoc _ _ _))⟩))) | quiet_step (first | ((with_reducible refine gate_dst (N := 4) rfl ?_); refine box_event ?hg (N := 4) ?hd (cs := #[.int .i64 a0_0, .int .i64 a0_1, .bool a0_2, .bool a0_3]) (t := 51) ?hr ?_; (case hd => rfl); (case hg => rfl); (case hr => first | (go_simp; done) | (go_simp; rfl)); intro gb1084 hg w9 hbox hb; have n0_ := Aside0.mk (below_step (by repeat (first | (with_reducible first | exact HB.out | apply below_alloc | apply pw_below_drewN | apply below_drew1) | exact HB.out)) hb); have n1_ := Aside0.mk (hbox); have n2_ := Aside0.mk ((by rw [hg]; exact (below_size (by repeat (first | (with_reducible first | exact HB.out | apply below_alloc | apply pw_below_drewN | apply below_drew1) | exact HB.out))) : w.heap.size ≤ gb1084)); have n3_ := Aside0.mk ((by rw [hg]; exact (below_size (by repeat (first | (with_reducible first | exact HB.out | apply below_alloc | apply pw_below_drewN | apply below_drew1) | exact HB.out))) : w.heap.size ≤ gb1084)); clear HB; have HB := n0_; have BK1084 := n1_; have GW1084 := n2_; have GE1084 := n3_; clear n0_ n1_ n2_ n3_; clear hb hbox hg; have hcz10_0 : w9.cell? ⟨gb1084, 0, none⟩ = some (.int .i64 a0_0) := (blk_cell BK1084.out 0).trans rfl; have hcz10_1 : w9.cell? ⟨gb1084, 1, none⟩ = some (.int .i64 a0_1) := (blk_cell BK1084.out 1).trans rfl; have hcz10_2 : w9.cell? ⟨gb1084, 2, none⟩ = some (.bool a0_2) := (blk_cell BK1084.out 2).trans rfl; have hcz10_3 : w9.cell? ⟨gb1084, 3, none⟩ = some (.bool a0_3) := (blk_cell BK1084.out 3).trans rfl; have hfz10_0 := blk_frozen BK1084.out 0; have hfz10_1 := blk_frozen BK1084.out 1; have hfz10_2 := blk_frozen BK1084.out 2; have hfz10_3 := blk_frozen BK1084.out 3) | (go_at_call 139; (with_reducible refine (impl_place.calls (wrap64 ((Int.tmod a1 a0_0) + a2)) a0_0 a0_2 t1085 true _ A6.out).mono ?_); rintro e w' ⟨rfl, ⟨nd, rfl⟩⟩; (try first | exact ⟨rfl, _, World.drewN_drewN _ _ _⟩ | exact ⟨rfl, _, Eq.trans (World.drewN_drewN _ _ _) (congrArg (World.drewN _) (Nat.add_assoc _ _ _))⟩)) | (go_at_call 139; (with_reducible refine (impl_place.calls (wrap64 ((wrap64 (Int.tdiv a1 a0_0)) + a3)) a0_1 a0_3 t1087 t1088 _ A7.out).mono ?_); rintro e w' ⟨rfl, ⟨nd, rfl⟩⟩; (try first | exact ⟨rfl, _, World.drewN_drewN _ _ _⟩ | exact ⟨rfl, _, Eq.trans (World.drewN_drewN _ _ _) (congrArg (World.drewN _) (Nat.add_assoc _ _ _))⟩)))))); all_goals (refine wpQuiet_nil ?_; intro _ hw2_; obtain ⟨nq, hw3_⟩ := hw2_; subst hw3_))); try go_wp2_with (first | ((with_reducible refine gate_dst (N := 4) rfl ?_); refine box_event ?hg (N := 4) ?hd (cs := #[.int .i64 a0_0, .int .i64 a0_1, .bool a0_2, .bool a0_3]) (t := 51) ?hr ?_; (case hd => rfl); (case hg => rfl); (case hr => first | (go_simp; done) | (go_simp; rfl)); intro gb1084 hg w9 hbox hb; have n0_ := Aside0.mk (below_step (by repeat (first | (with_reducible first | exact HB.out | apply below_alloc | apply pw_below_drewN | apply below_drew1) | exact HB.out)) hb); have n1_ := Aside0.mk (hbox); have n2_ := Aside0.mk ((by rw [hg]; exact (below_size (by repeat (first | (with_reducible first | exact HB.out | apply below_alloc | apply pw_below_drewN | apply below_drew1) | exact HB.out))) : w.heap.size ≤ gb1084)); have n3_ := Aside0.mk ((by rw [hg]; exact (below_size (by repeat (first | (with_reducible first | exact HB.out | apply below_alloc | apply pw_below_drewN | apply below_drew1) | exact HB.out))) : w.heap.size ≤ gb1084)); clear HB; have HB := n0_; have BK1084 := n1_; have GW1084 := n2_; have GE1084 := n3_; clear n0_ n1_ n2_ n3_; clear hb hbox hg; have hcz10_0 : w9.cell? ⟨gb1084, 0, none⟩ = some (.int .i64 a0_0) := (blk_cell BK1084.out 0).trans rfl; have hcz10_1 : w9.cell? ⟨gb1084, 1, none⟩ = some (.int .i64 a0_1) := (blk_cell BK1084.out 1).trans rfl; have hcz10_2 : w9.cell? ⟨gb1084, 2, none⟩ = some (.bool a0_2) := (blk_cell BK1084.out 2).trans rfl; have hcz10_3 : w9.cell? ⟨gb1084, 3, none⟩ = some (.bool a0_3) := (blk_cell BK1084.out 3).trans rfl; have hfz10_0 := blk_frozen BK1084.out 0; have hfz10_1 := blk_frozen BK1084.out 1; have hfz10_2 := blk_frozen BK1084.out 2; have hfz10_3 := blk_frozen BK1084.out 3) | (go_at_call 139; (with_reducible refine (impl_place.calls (wrap64 ((Int.tmod a1 a0_0) + a2)) a0_0 a0_2 t1085 true _ A6.out).mono ?_); rintro e w' ⟨rfl, ⟨nd, rfl⟩⟩; (try first | exact ⟨rfl, _, World.drewN_drewN _ _ _⟩ | exact ⟨rfl, _, Eq.trans (World.drewN_drewN _ _ _) (congrArg (World.drewN _) (Nat.add_assoc _ _ _))⟩)) | (go_at_call 139; (with_reducible refine (impl_place.calls (wrap64 ((wrap64 (Int.tdiv a1 a0_0)) + a3)) a0_1 a0_3 t1087 t1088 _ A7.out).mono ?_); rintro e w' ⟨rfl, ⟨nd, rfl⟩⟩; (try first | exact ⟨rfl, _, World.drewN_drewN _ _ _⟩ | exact ⟨rfl, _, Eq.trans (World.drewN_drewN _ _ _) (congrArg (World.drewN _) (Nat.add_assoc _ _ _))⟩))))
   go_ret2
   exact ⟨by first | rfl | (simp [errW_none, errW_some] <;> rfl) | (simp [*, errW_none, errW_some] <;> rfl), by repeat (first | (with_reducible first | exact HB.out | apply below_alloc | apply pw_below_drewN | apply below_drew1 | refine below_set ?_ GE1084.out) | exact HB.out)⟩
  ·replace c8 := Bool.eq_false_iff.mpr c8
   subst c8
   have H1 : (some (wrap64 ((wrap64 (t1087 * a0_0)) + t1085), false)) = some (r1, r2) := by rw [if_neg (show ¬ (false = true) by decide)] at H; exact H
   clear H
   have H := H1
   clear H1
   simp only [Option.some.injEq, Prod.mk.injEq] at H
   obtain ⟨rfl, rfl⟩ := H
   go_enter Try.func127, Try.ntmps127
   go_wp2_with (first | ((with_reducible refine gate_dst (N := 4) rfl ?_); refine box_event ?hg (N := 4) ?hd (cs := #[.int .i64 a0_0, .int .i64 a0_1, .bool a0_2, .bool a0_3]) (t := 51) ?hr ?_; (case hd => rfl); (case hg => rfl); (case hr => first | (go_simp; done) | (go_simp; rfl)); intro gb1084 hg w11 hbox hb; have n0_ := Aside0.mk (below_step (by repeat (first | (with_reducible first | exact HB.out | apply below_alloc | apply pw_below_drewN | apply below_drew1) | exact HB.out)) hb); have n1_ := Aside0.mk (hbox); have n2_ := Aside0.mk ((by rw [hg]; exact (below_size (by repeat (first | (with_reducible first | exact HB.out | apply below_alloc | apply pw_below_drewN | apply below_drew1) | exact HB.out))) : w.heap.size ≤ gb1084)); have n3_ := Aside0.mk ((by rw [hg]; exact (below_size (by repeat (first | (with_reducible first | exact HB.out | apply below_alloc | apply pw_below_drewN | apply below_drew1) | exact HB.out))) : w.heap.size ≤ gb1084)); clear HB; have HB := n0_; have BK1084 := n1_; have GW1084 := n2_; have GE1084 := n3_; clear n0_ n1_ n2_ n3_; clear hb hbox hg; have hcz12_0 : w11.cell? ⟨gb1084, 0, none⟩ = some (.int .i64 a0_0) := (blk_cell BK1084.out 0).trans rfl; have hcz12_1 : w11.cell? ⟨gb1084, 1, none⟩ = some (.int .i64 a0_1) := (blk_cell BK1084.out 1).trans rfl; have hcz12_2 : w11.cell? ⟨gb1084, 2, none⟩ = some (.bool a0_2) := (blk_cell BK1084.out 2).trans rfl; have hcz12_3 : w11.cell? ⟨gb1084, 3, none⟩ = some (.bool a0_3) := (blk_cell BK1084.out 3).trans rfl; have hfz12_0 := blk_frozen BK1084.out 0; have hfz12_1 := blk_frozen BK1084.out 1; have hfz12_2 := blk_frozen BK1084.out 2; have hfz12_3 := blk_frozen BK1084.out 3) | (go_at_call 139; (with_reducible refine (impl_place.calls (wrap64 ((Int.tmod a1 a0_0) + a2)) a0_0 a0_2 t1085 false _ A6.out).mono ?_); rintro e w' ⟨rfl, ⟨nd, rfl⟩⟩; (try first | exact ⟨rfl, _, World.drewN_drewN _ _ _⟩ | exact ⟨rfl, _, Eq.trans (World.drewN_drewN _ _ _) (congrArg (World.drewN _) (Nat.add_assoc _ _ _))⟩)) | (go_at_call 139; (with_reducible refine (impl_place.calls (wrap64 ((wrap64 (Int.tdiv a1 a0_0)) + a3)) a0_1 a0_3 t1087 t1088 _ A7.out).mono ?_); rintro e w' ⟨rfl, ⟨nd, rfl⟩⟩; (try first | exact ⟨rfl, _, World.drewN_drewN _ _ _⟩ | exact ⟨rfl, _, Eq.trans (World.drewN_drewN _ _ _) (congrArg (World.drewN _) (Nat.add_assoc _ _ _))⟩)))
   repeat ((first | go_quiet (first | ((with_reducible refine gate_dst (N := 4) rfl ?_); refine box_event ?hg (N := 4) ?hd (cs := #[.int .i64 a0_0, .int .i64 a0_1, .bool a0_2, .bool a0_3]) (t := 51) ?hr ?_; (case hd => rfl); (case hg => rfl); (case hr => first | (go_simp; done) | (go_simp; rfl)); intro gb1084 hg w11 hbox hb; have n0_ := Aside0.mk (below_step (by repeat (first | (with_reducible first | exact HB.out | apply below_alloc | apply pw_below_drewN | apply below_drew1) | exact HB.out)) hb); have n1_ := Aside0.mk (hbox); have n2_ := Aside0.mk ((by rw [hg]; exact (below_size (by repeat (first | (with_reducible first | exact HB.out | apply below_alloc | apply pw_below_drewN | apply below_drew1) | exact HB.out))) : w.heap.size ≤ gb1084)); have n3_ := Aside0.mk ((by rw [hg]; exact (below_size (by repeat (first | (with_reducible first | exact HB.out | apply below_alloc | apply pw_below_drewN | apply below_drew1) | exact HB.out))) : w.heap.size ≤ gb1084)); clear HB; have HB := n0_; have BK1084 := n1_; have GW1084 := n2_; have GE1084 := n3_; clear n0_ n1_ n2_ n3_; clear hb hbox hg; have hcz12_0 : w11.cell? ⟨gb1084, 0, none⟩ = some (.int .i64 a0_0) := (blk_cell BK1084.out 0).trans rfl; have hcz12_1 : w11.cell? ⟨gb1084, 1, none⟩ = some (.int .i64 a0_1) := (blk_cell BK1084.out 1).trans rfl; have hcz12_2 : w11.cell? ⟨gb1084, 2, none⟩ = some (.bool a0_2) := (blk_cell BK1084.out 2).trans rfl; have hcz12_3 : w11.cell? ⟨gb1084, 3, none⟩ = some (.bool a0_3) := (blk_cell BK1084.out 3).trans rfl; have hfz12_0 := blk_frozen BK1084.out 0; have hfz12_1 := blk_frozen BK1084.out 1; have hfz12_2 := blk_frozen BK1084.out 2; have hfz12_3 := blk_frozen BK1084.out 3) | (go_at_call 139; (with_reducible refine (impl_place.calls (wrap64 ((Int.tmod a1 a0_0) + a2)) a0_0 a0_2 t1085 false _ A6.out).mono ?_); rintro e w' ⟨rfl, ⟨nd, rfl⟩⟩; (try first | exact ⟨rfl, _, World.drewN_drewN _ _ _⟩ | exact ⟨rfl, _, Eq.trans (World.drewN_drewN _ _ _) (congrArg (World.drewN _) (Nat.add_assoc _ _ _))⟩)) | (go_at_call 139; (with_reducible refine (impl_place.calls (wrap64 ((wrap64 (Int.tdiv a1 a0_0)) + a3)) a0_1 a0_3 t1087 t1088 _ A7.out).mono ?_); rintro e w' ⟨rfl, ⟨nd, rfl⟩⟩; (try first | exact ⟨rfl, _, World.drewN_drewN _ _ _⟩ | exact ⟨rfl, _, Eq.trans (World.drewN_drewN _ _ _) (congrArg (World.drewN _) (Nat.add_assoc _ _ _))⟩))) | (refine wp_region_quiet_lit (by kernel_rfl) (by kernel_rfl) ?_; (repeat (any_goals (first | go_big_quiet_step (first | ((with_reducible refine gate_dst (N := 4) rfl ?_); refine box_event ?hg (N := 4) ?hd (cs := #[.int .i64 a0_0, .int .i64 a0_1, .bool a0_2, .bool a0_3]) (t := 51) ?hr ?_; (case hd => rfl); (case hg => rfl); (case hr => first | (go_simp; done) | (go_simp; rfl)); intro gb1084 hg w11 hbox hb; have n0_ := Aside0.mk (below_step (by repeat (first | (with_reducible first | exact HB.out | apply below_alloc | apply pw_below_drewN | apply below_drew1) | exact HB.out)) hb); have n1_ := Aside0.mk (hbox); have n2_ := Aside0.mk ((by rw [hg]; exact (below_size (by repeat (first | (with_reducible first | exact HB.out | apply below_alloc | apply pw_below_drewN | apply below_drew1) | exact HB.out))) : w.heap.size ≤ gb1084)); have n3_ := Aside0.mk ((by rw [hg]; exact (below_size (by repeat (first | (with_reducible first | exact HB.out | apply below_alloc | apply pw_below_drewN | apply below_drew1) | exact HB.out))) : w.heap.size ≤ gb1084)); clear HB; have HB := n0_; have BK1084 := n1_; have GW1084 := n2_; have GE1084 := n3_; clear n0_ n1_ n2_ n3_; clear hb hbox hg; have hcz12_0 : w11.cell? ⟨gb1084, 0, none⟩ = some (.int .i64 a0_0) := (blk_cell BK1084.out 0).trans rfl; have hcz12_1 : w11.cell? ⟨gb1084, 1, none⟩ = some (.int .i64 a0_1) := (blk_cell BK1084.out 1).trans rfl; have hcz12_2 : w11.cell? ⟨gb1084, 2, none⟩ = some (.bool a0_2) := (blk_cell BK1084.out 2).trans rfl; have hcz12_3 : w11.cell? ⟨gb1084, 3, none⟩ = some (.bool a0_3) := (blk_cell BK1084.out 3).trans rfl; have hfz12_0 := blk_frozen BK1084.out 0; have hfz12_1 := blk_frozen BK1084.out 1; have hfz12_2 := blk_frozen BK1084.out 2; have hfz12_3 := blk_frozen BK1084.out 3) | (go_at_call 139; (with_reducible refine (impl_place.calls (wrap64 ((Int.tmod a1 a0_0) + a2)) a0_0 a0_2 t1085 false _ A6.out).mono ?_); rintro e w' ⟨rfl, ⟨nd, rfl⟩⟩; (try first | exact ⟨rfl, _, World.drewN_drewN _ _ _⟩ | exact ⟨rfl, _, Eq.trans (World.drewN_drewN _ _ _) (congrArg (World.drewN _) (Nat.add_assoc _ _ _))⟩)) | (go_at_call 139; (with_reducible refine (impl_place.calls (wrap64 ((wrap64 (Int.tdiv a1 a0_0)) + a3)) a0_1 a0_3 t1087 t1088 _ A7.out).mono ?_); rintro e w' ⟨rfl, ⟨nd, rfl⟩⟩; (try first | exact ⟨rfl, _, World.drewN_drewN _ _ _⟩ | exact ⟨rfl, _, Eq.trans (World.drewN_drewN _ _ _) (congrArg (World.drewN _) (Nat.add_assoc _ _ _))⟩))) | quiet_step (first | ((with_reducible refine gate_dst (N := 4) rfl ?_); refine box_event ?hg (N := 4) ?hd (cs := #[.int .i64 a0_0, .int .i64 a0_1, .bool a0_2, .bool a0_3]) (t := 51) ?hr ?_; (case hd => rfl); (case hg => rfl); (case hr => first | (go_simp; done) | (go_simp; rfl)); intro gb1084 hg w11 hbox hb; have n0_ := Aside0.mk (below_step (by repeat (first | (with_reducible first | exact HB.out | apply below_alloc | apply pw_below_drewN | apply below_drew1) | exact HB.out)) hb); have n1_ := Aside0.mk (hbox); have n2_ := Aside0.mk ((by rw [hg]; exact (below_size (by repeat (first | (with_reducible first | exact HB.out | apply below_alloc | apply pw_below_drewN | apply below_drew1) | exact HB.out))) : w.heap.size ≤ gb1084)); have n3_ := Aside0.mk ((by rw [hg]; exact (below_size (by repeat (first | (with_reducible first | exact HB.out | apply below_alloc | apply pw_below_drewN | apply below_drew1) | exact HB.out))) : w.heap.size ≤ gb1084)); clear HB; have HB := n0_; have BK1084 := n1_; have GW1084 := n2_; have GE1084 := n3_; clear n0_ n1_ n2_ n3_; clear hb hbox hg; have hcz12_0 : w11.cell? ⟨gb1084, 0, none⟩ = some (.int .i64 a0_0) := (blk_cell BK1084.out 0).trans rfl; have hcz12_1 : w11.cell? ⟨gb1084, 1, none⟩ = some (.int .i64 a0_1) := (blk_cell BK1084.out 1).trans rfl; have hcz12_2 : w11.cell? ⟨gb1084, 2, none⟩ = some (.bool a0_2) := (blk_cell BK1084.out 2).trans rfl; have hcz12_3 : w11.cell? ⟨gb1084, 3, none⟩ = some (.bool a0_3) := (blk_cell BK1084.out 3).trans rfl; have hfz12_0 := blk_frozen BK1084.out 0; have hfz12_1 := blk_frozen BK1084.out 1; have hfz12_2 := blk_frozen BK1084.out 2; have hfz12_3 := blk_frozen BK1084.out 3) | (go_at_call 139; (with_reducible refine (impl_place.calls (wrap64 ((Int.tmod a1 a0_0) + a2)) a0_0 a0_2 t1085 false _ A6.out).mono ?_); rintro e w' ⟨rfl, ⟨nd, rfl⟩⟩; (try first | exact ⟨rfl, _, World.drewN_drewN _ _ _⟩ | exact ⟨rfl, _, Eq.trans (World.drewN_drewN _ _ _) (congrArg (World.drewN _) (Nat.add_assoc _ _ _))⟩)) | (go_at_call 139; (with_reducible refine (impl_place.calls (wrap64 ((wrap64 (Int.tdiv a1 a0_0)) + a3)) a0_1 a0_3 t1087 t1088 _ A7.out).mono ?_); rintro e w' ⟨rfl, ⟨nd, rfl⟩⟩; (try first | exact ⟨rfl, _, World.drewN_drewN _ _ _⟩ | exact ⟨rfl, _, Eq.trans (World.drewN_drewN _ _ _) (congrArg (World.drewN _) (Nat.add_assoc _ _ _))⟩)))))); all_goals (refine wpQuiet_nil ?_; intro _ hw2_; obtain ⟨nq, hw3_⟩ := hw2_; subst hw3_))); try go_wp2_with (first | ((with_reducible refine gate_dst (N := 4) rfl ?_); refine box_event ?hg (N := 4) ?hd (cs := #[.int .i64 a0_0, .int .i64 a0_1, .bool a0_2, .bool a0_3]) (t := 51) ?hr ?_; (case hd => rfl); (case hg => rfl); (case hr => first | (go_simp; done) | (go_simp; rfl)); intro gb1084 hg w11 hbox hb; have n0_ := Aside0.mk (below_step (by repeat (first | (with_reducible first | exact HB.out | apply below_alloc | apply pw_below_drewN | apply below_drew1) | exact HB.out)) hb); have n1_ := Aside0.mk (hbox); have n2_ := Aside0.mk ((by rw [hg]; exact (below_size (by repeat (first | (with_reducible first | exact HB.out | apply below_alloc | apply pw_below_drewN | apply below_drew1) | exact HB.out))) : w.heap.size ≤ gb1084)); have n3_ := Aside0.mk ((by rw [hg]; exact (below_size (by repeat (first | (with_reducible first | exact HB.out | apply below_alloc | apply pw_below_drewN | apply below_drew1) | exact HB.out))) : w.heap.size ≤ gb1084)); clear HB; have HB := n0_; have BK1084 := n1_; have GW1084 := n2_; have GE1084 := n3_; clear n0_ n1_ n2_ n3_; clear hb hbox hg; have hcz12_0 : w11.cell? ⟨gb1084, 0, none⟩ = some (.int .i64 a0_0) := (blk_cell BK1084.out 0).trans rfl; have hcz12_1 : w11.cell? ⟨gb1084, 1, none⟩ = some (.int .i64 a0_1) := (blk_cell BK1084.out 1).trans rfl; have hcz12_2 : w11.cell? ⟨gb1084, 2, none⟩ = some (.bool a0_2) := (blk_cell BK1084.out 2).trans rfl; have hcz12_3 : w11.cell? ⟨gb1084, 3, none⟩ = some (.bool a0_3) := (blk_cell BK1084.out 3).trans rfl; have hfz12_0 := blk_frozen BK1084.out 0; have hfz12_1 := blk_frozen BK1084.out 1; have hfz12_2 := blk_frozen BK1084.out 2; have hfz12_3 := blk_frozen BK1084.out 3) | (go_at_call 139; (with_reducible refine (impl_place.calls (wrap64 ((Int.tmod a1 a0_0) + a2)) a0_0 a0_2 t1085 false _ A6.out).mono ?_); rintro e w' ⟨rfl, ⟨nd, rfl⟩⟩; (try first | exact ⟨rfl, _, World.drewN_drewN _ _ _⟩ | exact ⟨rfl, _, Eq.trans (World.drewN_drewN _ _ _) (congrArg (World.drewN _) (Nat.add_assoc _ _ _))⟩)) | (go_at_call 139; (with_reducible refine (impl_place.calls (wrap64 ((wrap64 (Int.tdiv a1 a0_0)) + a3)) a0_1 a0_3 t1087 t1088 _ A7.out).mono ?_); rintro e w' ⟨rfl, ⟨nd, rfl⟩⟩; (try first | exact ⟨rfl, _, World.drewN_drewN _ _ _⟩ | exact ⟨rfl, _, Eq.trans (World.drewN_drewN _ _ _) (congrArg (World.drewN _) (Nat.add_assoc _ _ _))⟩))))
   go_ret2
   exact ⟨by first | rfl | (simp [errW_none, errW_some] <;> rfl) | (simp [*, errW_none, errW_some] <;> rfl), by repeat (first | (with_reducible first | exact HB.out | apply below_alloc | apply pw_below_drewN | apply below_drew1 | refine below_set ?_ GE1084.out) | exact HB.out)⟩

end Go.Proofs.Ytekajjhjjnfdpaa.Q

/- Written by a program of this session: functions of the translation as plain Lean functions, each with a proof that the call does what the plain function says; the conditions stand in each theorem. -/
import Derived.Test.YtjeongckkfkehaaQ0
import Derived.Test.YtjeongckkfkehaaQ17
import Derived.Test.YtjeongckkfkehaaQ22
import Derived.Test.YtjeongckkfkehaaQ23
import Derived.Test.YtjeongckkfkehaaQ24
import Derived.Test.YtjeongckkfkehaaHSort
namespace Go.Proofs.Ytjeongckkfkehaa.Q
open Go.RowKit Go.Proofs.YtjeongckkfkehaaW.PrintWords Go.Proofs.YtjeongckkfkehaaW.PrintLast Go.Proofs.YtjeongckkfkehaaW.PrintMore
attribute [local go_sem] max2_int min2_int max_two min_two max_three min_three max_four min_four   -- for this text's walks alone
set_option linter.unusedVariables false
set_option linter.unusedSimpArgs false

theorem zae1 {p : Prop} (h : p := by repeat (first | (with_reducible first | exact HB.out | apply below_alloc | apply pw_below_drewN | apply below_drew1 | refine below_set ?_ GE796.out | refine below_set ?_ GE797.out) | exact HB.out)) : p := h
theorem zae2 {p : Prop} (h : p := by repeat (first | (with_reducible first | exact HB.out | apply below_alloc | apply pw_below_drewN | apply below_drew1) | exact HB.out)) : p := h
theorem zae3 {p : Prop} (h : p := by repeat (first | (with_reducible first | exact HB.out | apply below_alloc | apply pw_below_drewN | apply below_drew1 | refine below_set ?_ GE815.out | refine below_set ?_ GE816.out) | exact HB.out)) : p := h
theorem zae4 {p : Prop} (h : p := by (with_reducible repeat (first | refine blk_drewN ?_ _ | refine blk_drew ?_ | refine blk_alloc ?_ _)); exact BK815.out) : p := h
theorem zae5 {p : Prop} (h : p := by (with_reducible repeat (first | refine blk_drewN ?_ _ | refine blk_drew ?_ | refine blk_alloc ?_ _)); exact BK796.out) : p := h
theorem zae6 {p : Prop} (h : p := by (try simp only [List.map_toArray, List.map_cons, List.map_nil]); first | done | rfl | (simp only [List.length_drop, List.length_take]; rfl)) : p := h
theorem zae7 {p : Prop} (h : p := by repeat (first | (with_reducible first | exact HB.out | apply below_alloc | apply pw_below_drewN | apply below_drew1 | refine below_set ?_ GE815.out | refine below_set ?_ GE816.out | refine below_set ?_ GE823.out) | exact HB.out)) : p := h
theorem zae8 {p : Prop} (h : p := by repeat (first | exact (Kd.C_below HR0_2.out HB.out) | (with_reducible refine Kd.C_alloc ?_ _) | (with_reducible refine Kd.C_drewN ?_ _) | (with_reducible refine Kd.C_drew ?_))) : p := h
theorem zae9 {p : Prop} (h : p := by repeat (first | (with_reducible first | exact HB.out | apply below_alloc | apply pw_below_drewN | apply below_drew1 | refine below_set ?_ GE815.out) | exact HB.out)) : p := h
theorem zae10 {p : Prop} (h : p := by repeat (first | (with_reducible first | exact HB.out | apply below_alloc | apply pw_below_drewN | apply below_drew1 | refine below_set ?_ GE796.out) | exact HB.out)) : p := h
theorem zae11 {p : Prop} (h : p := by first | (with_reducible assumption) | assumption) : p := h
theorem zae12 {p : Prop} (h : p := by (with_reducible repeat (first | refine blk_drewN ?_ _ | refine blk_drew ?_ | refine blk_alloc ?_ _)); exact BK816.out) : p := h
theorem zae13 {p : Prop} (h : p := by (with_reducible repeat (first | refine blk_drewN ?_ _ | refine blk_drew ?_ | refine blk_alloc ?_ _)); exact BK797.out) : p := h
theorem zae14 {p : Prop} (h : p := by (try simp only [hl20_1]); (with_reducible repeat (first | refine blk_drewN ?_ _ | refine blk_drew ?_ | refine blk_alloc ?_ _)); exact BK797.out) : p := h
theorem zae15 {p : Prop} (h : p := by (try simp only [hl20_1]); (with_reducible repeat (first | refine blk_drewN ?_ _ | refine blk_drew ?_ | refine blk_alloc ?_ _)); exact BK796.out) : p := h
theorem zae16 {p : Prop} (h : p := by (with_reducible repeat (first | apply Kd.R_alloc | apply Kd.R_drewN | apply Kd.R_drew)); exact HO819.out) : p := h
theorem zae17 {p : Prop} (h : p := by first | exact Kd.R_nil _ _ _ _ _ | exact Kd.N_nil _ _ _ _ _ | exact Kd.V_nil _ _ _ _ _ | exact Kd.Q_nil _ _ _ _ _ | exact Kd.S_nil _ _ _ _ _) : p := h
theorem zae18 {p : Prop} (h : p := by first | rfl | (simp [errW_none, errW_some] <;> rfl) | (simp [*, errW_none, errW_some] <;> rfl)) : p := h
theorem zae19 {p : Prop} (h : p := by (try simp only [hl20_1]); (with_reducible repeat (first | apply Kd.R_alloc | apply Kd.R_drewN | apply Kd.R_drew)); exact HO_8.out) : p := h
theorem zae20 {p : Prop} (h : p := by (with_reducible repeat (first | refine blk_drewN ?_ _ | refine blk_drew ?_ | refine blk_alloc ?_ _)); exact BK823.out) : p := h
theorem zae21 {p : Prop} (h : p := by first | rfl | (simp; done) | (simp [*]; done)) : p := h
theorem zae22 {p : Prop} (h : p := by (with_reducible repeat (first | apply Kd.R_alloc | apply Kd.R_drewN | apply Kd.R_drew)); exact HO_3.out) : p := h
theorem zae23 {p : Prop} (h : p := by (try simp only [hl20_1]); (with_reducible repeat (first | apply Kd.R_alloc | apply Kd.R_drewN | apply Kd.R_drew)); exact Kd.R_mono HO_20.out (fun _ hk => hk.2)) : p := h
theorem zae24 {p : Prop} (h : p := by (with_reducible repeat (first | apply Kd.R_alloc | apply Kd.R_drewN | apply Kd.R_drew)); exact Kd.R_mono HO_20.out (fun _ hk => ⟨trivial, hk⟩)) : p := h
theorem zae25 {p : Prop} (h : p := by (try simp only [hl20_1]); (with_reducible repeat (first | apply Kd.R_alloc | apply Kd.R_drewN | apply Kd.R_drew)); exact HO_20.out) : p := h
theorem zae26 {p : Prop} (h : p := by rw [hg]; exact (below_size zae2)) : p := h
theorem zae27 {p : Prop} (h : p := by rw [hg]; exact Nat.ne_of_lt (blk_lt (g := gb815) (o := .cells #[.int .i64 a0_0, .int .i64 a0_1, .slice A0_2 l0_2.length c0_2] 30 (0, 0)) zae4)) : p := h
theorem zae28 {p : Prop} (h : p := by rw [hg]; exact Nat.ne_of_lt (blk_lt (g := gb796) (o := .cells #[.int .i64 a0_0, .int .i64 a0_1, .slice A0_2 l0_2.length c0_2] 30 (0, 0)) zae5)) : p := h
theorem zae29 {p : Prop} (h : p := by rw [hg]; exact Nat.ne_of_gt (blk_lt (g := gb815) (o := .cells #[.int .i64 a0_0, .int .i64 a0_1, .slice A0_2 l0_2.length c0_2] 30 (0, 0)) zae4)) : p := h
theorem zae30 {p : Prop} (h : p := by rw [hg]; exact Nat.ne_of_gt (blk_lt (g := gb796) (o := .cells #[.int .i64 a0_0, .int .i64 a0_1, .slice A0_2 l0_2.length c0_2] 30 (0, 0)) zae5)) : p := h
/-! ### spec_CountByDistance: function 34 -/
mutual
def spec_CountByDistance.l0 : Nat → List Int → List Int → Int → Int → Option (List Int × Bool)
 | 0, _, _, _, _ => none
 | k + 1, x8, x20, x21, x22 => if x22 < x21 then (if 0 ≤ x22 then (if x22 < (x20.length : Int) then (if (rd x20 x22) < 0 then (spec_CountByDistance.l0 k x8 x20 x21 (wrap64 (x22 + 1))) else (spec_CountByDistance.l1 k x8 (rd x20 x22) x20 x21 x22)) else (none)) else (none)) else (some (x8, true))
def spec_CountByDistance.l1 : Nat → List Int → Int → List Int → Int → Int → Option (List Int × Bool)
 | 0, _, _, _, _, _ => none
 | k + 1, x8, x10, x20, x21, x22 => if (x8.length : Int) ≤ x10 then (if x8.length < 17592186044416 then (spec_CountByDistance.l1 k (x8 ++ [0]) x10 x20 x21 x22) else (none)) else (if 0 ≤ x10 then (if x10 < (x8.length : Int) then (spec_CountByDistance.l0 k (x8.set (x10 : Int).toNat (wrap64 ((rd x8 x10) + 1))) x20 x21 (wrap64 (x22 + 1))) else (none)) else (none))
end
def spec_CountByDistance.f (k : Nat) (a0_0 : Int) (a0_1 : Int) (l0_2 : List Int) (a1_0 : Int) (a1_1 : Int) (a2 : Int) : Option (List Int × Bool) := (spec_faAsked.f k a0_0 a0_1 l0_2 a1_0 a1_1 a2 a2).bind fun t798 => (if t798 = true then ((spec_faFrom.f k a0_0 a0_1 l0_2 a1_0 a1_1 a2).bind fun t799 => (spec_CountByDistance.l0 k ([] : List Int) t799 (t799.length : Int) 0)) else (some (([] : List Int), false)))
set_option maxHeartbeats 8000000 in
set_option maxRecDepth 100000 in
theorem spec_CountByDistance.calls (k : Nat) (a0_0 : Int) (a0_1 : Int) (A0_2 : Option Addr) (c0_2 : Nat) (l0_2 : List Int) (a1_0 : Int) (a1_1 : Int) (a2 : Int) (r1 : List Int) (r2 : Bool) (w : World) (hr0_2 : Kd.C (Kd.int .i64) w A0_2 l0_2.length l0_2) (hc0_2 : l0_2.length ≤ c0_2) (h : spec_CountByDistance.f k a0_0 a0_1 l0_2 a1_0 a1_1 a2 = some (r1, r2)) :
  Calls Try.prog 34 #[.agg #[.int .i64 a0_0, .int .i64 a0_1, .slice A0_2 l0_2.length c0_2], .agg #[.int .i64 a1_0, .int .i64 a1_1], .int .i64 a2] w fun e w' => ∃ v0_ : Value, e = .returned (.tuple #[v0_, .bool r2]) ∧ Kd.R (Kd.int .i64) 3 w' w.heap.size (fun _ => True) v0_ r1 ∧ Below w.heap.size w w' := by
 have hu30 := Try.underlying30
 have hu32 := Try.underlying32
 have HR0_2 := Aside0.mk hr0_2
 have HC0_2 := Aside0.mk hc0_2
 clear hr0_2 hc0_2
 have HB := Aside0.mk (Below.refl w.heap.size w)
 have H : ((spec_faAsked.f k a0_0 a0_1 l0_2 a1_0 a1_1 a2 a2).bind fun t798 => (if t798 = true then ((spec_faFrom.f k a0_0 a0_1 l0_2 a1_0 a1_1 a2).bind fun t799 => (spec_CountByDistance.l0 k ([] : List Int) t799 (t799.length : Int) 0)) else (some (([] : List Int), false)))) = some (r1, r2) := h
 clear h
 replace H := Option.bind_eq_some_iff.mp H
 obtain ⟨t798, A40, H⟩ := H
 replace H : (if t798 = true then ((spec_faFrom.f k a0_0 a0_1 l0_2 a1_0 a1_1 a2).bind fun t799 => (spec_CountByDistance.l0 k ([] : List Int) t799 (t799.length : Int) 0)) else (some (([] : List Int), false))) = some (r1, r2) := H
 have A4 := Aside0.mk A40
 clear A40
 by_cases c5 : t798 = true
 rotate_left
 ·replace c5 := Bool.eq_false_iff.mpr c5
  subst c5
  have H1 : (some (([] : List Int), false)) = some (r1, r2) := by rw [if_neg (show ¬ (false = true) by decide)] at H; exact H
  clear H
  have H := H1
  clear H1
  simp only [Option.some.injEq, Prod.mk.injEq] at H
  obtain ⟨rfl, rfl⟩ := H
  go_enter Try.func34, Try.ntmps34
  go_wp2_with (first | ((with_reducible refine gate_dst (N := 3) rfl ?_); refine box_event ?hg (N := 3) ?hd (cs := #[.int .i64 a0_0, .int .i64 a0_1, .slice A0_2 l0_2.length c0_2]) (t := 30) ?hr ?_; (case hd => rfl); (case hg => rfl); (case hr => first | (go_simp; done) | (go_simp; rfl)); intro gb796 hg w31 hbox hb; have n0_ := Aside0.mk (below_step zae2 hb); have n1_ := Aside0.mk (hbox); have n2_ := Aside0.mk ((zae26 : w.heap.size ≤ gb796)); have n3_ := Aside0.mk ((zae26 : w.heap.size ≤ gb796)); clear HB; have HB := n0_; have BK796 := n1_; have GW796 := n2_; have GE796 := n3_; clear n0_ n1_ n2_ n3_; clear hb hbox hg) | ((with_reducible refine gate_dst (N := 4) rfl ?_); refine box_event ?hg (N := 4) ?hd (cs := #[.int .i64 a1_0, .int .i64 a1_1]) (t := 32) ?hr ?_; (case hd => rfl); (case hg => rfl); (case hr => first | (go_simp; done) | (go_simp; rfl)); intro gb797 hg w32 hbox hb; have n0_ := Aside0.mk (blk_below (g := gb796) (o := .cells #[.int .i64 a0_0, .int .i64 a0_1, .slice A0_2 l0_2.length c0_2] 30 (0, 0)) zae5 hb); have n1_ := Aside0.mk (below_step zae10 hb); have n2_ := Aside0.mk (hbox); have n3_ := Aside0.mk ((by rw [hg]; exact (below_size zae10) : w.heap.size ≤ gb797)); have n4_ := Aside0.mk ((by rw [hg]; exact (below_size zae10) : w.heap.size ≤ gb797)); have n5_ := Aside0.mk ((zae28 : gb796 ≠ gb797)); have n6_ := Aside0.mk ((zae30 : gb797 ≠ gb796)); clear BK796; clear HB; have BK796 := n0_; have HB := n1_; have BK797 := n2_; have GW797 := n3_; have GE797 := n4_; have NB796_797 := n5_; have NB797_796 := n6_; clear n0_ n1_ n2_ n3_ n4_ n5_ n6_; clear hb hbox hg; have hnb33 := NB796_797.out; have hnc33 := NB797_796.out; have hcz34_0 : w32.cell? ⟨gb796, 0, none⟩ = some (.int .i64 a0_0) := (blk_cell BK796.out 0).trans rfl; have hcz34_1 : w32.cell? ⟨gb796, 1, none⟩ = some (.int .i64 a0_1) := (blk_cell BK796.out 1).trans rfl; have hcz34_2 : w32.cell? ⟨gb796, 2, none⟩ = some (.slice A0_2 l0_2.length c0_2) := (blk_cell BK796.out 2).trans rfl; have hfz34_0 := blk_frozen BK796.out 0; have hfz34_1 := blk_frozen BK796.out 1; have hfz34_2 := blk_frozen BK796.out 2; have hcz35_0 : w32.cell? ⟨gb797, 0, none⟩ = some (.int .i64 a1_0) := (blk_cell BK797.out 0).trans rfl; have hcz35_1 : w32.cell? ⟨gb797, 1, none⟩ = some (.int .i64 a1_1) := (blk_cell BK797.out 1).trans rfl; have hfz35_0 := blk_frozen BK797.out 0; have hfz35_1 := blk_frozen BK797.out 1) | ((with_reducible refine gate_callee (f := 64) rfl ?_); refine goesL_ (some 15) rfl rfl Try.func64 (by kernel_rfl) rfl #[.agg #[.int .i64 a0_0, .int .i64 a0_1, .slice A0_2 l0_2.length c0_2], .agg #[.int .i64 a1_0, .int .i64 a1_1], .int .i64 a2, .int .i64 a2] rfl zae6 ?_; (with_reducible refine (spec_faAsked.calls k a0_0 a0_1 _ _ l0_2 a1_0 a1_1 a2 a2 false _ ?side1 ?side2 A4.out).mono ?_); (case side1 => exact zae8); (case side2 => exact HC0_2.out); rintro e w36 ⟨rfl, hb⟩; refine ⟨_, rfl, ?_⟩; have n0_ := Aside0.mk (blk_below (g := gb796) (o := .cells #[.int .i64 a0_0, .int .i64 a0_1, .slice A0_2 l0_2.length c0_2] 30 (0, 0)) zae5 hb); have n1_ := Aside0.mk (blk_below (g := gb797) (o := .cells #[.int .i64 a1_0, .int .i64 a1_1] 32 (0, 0)) zae13 hb); have n2_ := Aside0.mk (below_step zae1 hb); clear BK796; clear BK797; clear HB; have BK796 := n0_; have BK797 := n1_; have HB := n2_; clear n0_ n1_ n2_; (try clear hb); (try clear hb2); (try clear hk); (try clear hi); (try clear hna_); (try clear hnb_)))
  go_ret2
  exact ⟨_, zae18, zae17, zae1⟩
 subst c5
 have H1 : ((spec_faFrom.f k a0_0 a0_1 l0_2 a1_0 a1_1 a2).bind fun t799 => (spec_CountByDistance.l0 k ([] : List Int) t799 (t799.length : Int) 0)) = some (r1, r2) := by rw [if_pos rfl] at H; exact H
 clear H
 have H := H1
 clear H1
 replace H := Option.bind_eq_some_iff.mp H
 obtain ⟨t799, A60, H⟩ := H
 replace H : (spec_CountByDistance.l0 k ([] : List Int) t799 (t799.length : Int) 0) = some (r1, r2) := H
 have A6 := Aside0.mk A60
 clear A60
 have H' := Aside0.mk H
 clear H
 go_enter Try.func34, Try.ntmps34
 go_wp2_with (first | ((with_reducible refine gate_dst (N := 3) rfl ?_); refine box_event ?hg (N := 3) ?hd (cs := #[.int .i64 a0_0, .int .i64 a0_1, .slice A0_2 l0_2.length c0_2]) (t := 30) ?hr ?_; (case hd => rfl); (case hg => rfl); (case hr => first | (go_simp; done) | (go_simp; rfl)); intro gb796 hg w7 hbox hb; have n0_ := Aside0.mk (below_step zae2 hb); have n1_ := Aside0.mk (hbox); have n2_ := Aside0.mk ((zae26 : w.heap.size ≤ gb796)); have n3_ := Aside0.mk ((zae26 : w.heap.size ≤ gb796)); clear HB; have HB := n0_; have BK796 := n1_; have GW796 := n2_; have GE796 := n3_; clear n0_ n1_ n2_ n3_; clear hb hbox hg) | ((with_reducible refine gate_dst (N := 4) rfl ?_); refine box_event ?hg (N := 4) ?hd (cs := #[.int .i64 a1_0, .int .i64 a1_1]) (t := 32) ?hr ?_; (case hd => rfl); (case hg => rfl); (case hr => first | (go_simp; done) | (go_simp; rfl)); intro gb797 hg w8 hbox hb; have n0_ := Aside0.mk (blk_below (g := gb796) (o := .cells #[.int .i64 a0_0, .int .i64 a0_1, .slice A0_2 l0_2.length c0_2] 30 (0, 0)) zae5 hb); have n1_ := Aside0.mk (below_step zae10 hb); have n2_ := Aside0.mk (hbox); have n3_ := Aside0.mk ((by rw [hg]; exact (below_size zae10) : w.heap.size ≤ gb797)); have n4_ := Aside0.mk ((by rw [hg]; exact (below_size zae10) : w.heap.size ≤ gb797)); have n5_ := Aside0.mk ((zae28 : gb796 ≠ gb797)); have n6_ := Aside0.mk ((zae30 : gb797 ≠ gb796)); clear BK796; clear HB; have BK796 := n0_; have HB := n1_; have BK797 := n2_; have GW797 := n3_; have GE797 := n4_; have NB796_797 := n5_; have NB797_796 := n6_; clear n0_ n1_ n2_ n3_ n4_ n5_ n6_; clear hb hbox hg; have hnb9 := NB796_797.out; have hnc9 := NB797_796.out; have hcz10_0 : w8.cell? ⟨gb796, 0, none⟩ = some (.int .i64 a0_0) := (blk_cell BK796.out 0).trans rfl; have hcz10_1 : w8.cell? ⟨gb796, 1, none⟩ = some (.int .i64 a0_1) := (blk_cell BK796.out 1).trans rfl; have hcz10_2 : w8.cell? ⟨gb796, 2, none⟩ = some (.slice A0_2 l0_2.length c0_2) := (blk_cell BK796.out 2).trans rfl; have hfz10_0 := blk_frozen BK796.out 0; have hfz10_1 := blk_frozen BK796.out 1; have hfz10_2 := blk_frozen BK796.out 2; have hcz11_0 : w8.cell? ⟨gb797, 0, none⟩ = some (.int .i64 a1_0) := (blk_cell BK797.out 0).trans rfl; have hcz11_1 : w8.cell? ⟨gb797, 1, none⟩ = some (.int .i64 a1_1) := (blk_cell BK797.out 1).trans rfl; have hfz11_0 := blk_frozen BK797.out 0; have hfz11_1 := blk_frozen BK797.out 1) | ((with_reducible refine gate_callee (f := 64) rfl ?_); refine goesL_ (some 15) rfl rfl Try.func64 (by kernel_rfl) rfl #[.agg #[.int .i64 a0_0, .int .i64 a0_1, .slice A0_2 l0_2.length c0_2], .agg #[.int .i64 a1_0, .int .i64 a1_1], .int .i64 a2, .int .i64 a2] rfl zae6 ?_; (with_reducible refine (spec_faAsked.calls k a0_0 a0_1 _ _ l0_2 a1_0 a1_1 a2 a2 true _ ?side1 ?side2 A4.out).mono ?_); (case side1 => exact zae8); (case side2 => exact HC0_2.out); rintro e w12 ⟨rfl, hb⟩; refine ⟨_, rfl, ?_⟩; have n0_ := Aside0.mk (blk_below (g := gb796) (o := .cells #[.int .i64 a0_0, .int .i64 a0_1, .slice A0_2 l0_2.length c0_2] 30 (0, 0)) zae5 hb); have n1_ := Aside0.mk (blk_below (g := gb797) (o := .cells #[.int .i64 a1_0, .int .i64 a1_1] 32 (0, 0)) zae13 hb); have n2_ := Aside0.mk (below_step zae1 hb); clear BK796; clear BK797; clear HB; have BK796 := n0_; have BK797 := n1_; have HB := n2_; clear n0_ n1_ n2_; (try clear hb); (try clear hb2); (try clear hk); (try clear hi); (try clear hna_); (try clear hnb_); have hcz13_0 : w12.cell? ⟨gb796, 0, none⟩ = some (.int .i64 a0_0) := (blk_cell BK796.out 0).trans rfl; have hcz13_1 : w12.cell? ⟨gb796, 1, none⟩ = some (.int .i64 a0_1) := (blk_cell BK796.out 1).trans rfl; have hcz13_2 : w12.cell? ⟨gb796, 2, none⟩ = some (.slice A0_2 l0_2.length c0_2) := (blk_cell BK796.out 2).trans rfl; have hfz13_0 := blk_frozen BK796.out 0; have hfz13_1 := blk_frozen BK796.out 1; have hfz13_2 := blk_frozen BK796.out 2; have hcz14_0 : w12.cell? ⟨gb797, 0, none⟩ = some (.int .i64 a1_0) := (blk_cell BK797.out 0).trans rfl; have hcz14_1 : w12.cell? ⟨gb797, 1, none⟩ = some (.int .i64 a1_1) := (blk_cell BK797.out 1).trans rfl; have hfz14_0 := blk_frozen BK797.out 0; have hfz14_1 := blk_frozen BK797.out 1) | ((with_reducible refine gate_callee (f := 65) rfl ?_); refine goesL_ (some 20) rfl rfl Try.func65 (by kernel_rfl) rfl #[.agg #[.int .i64 a0_0, .int .i64 a0_1, .slice A0_2 l0_2.length c0_2], .agg #[.int .i64 a1_0, .int .i64 a1_1], .int .i64 a2] rfl zae6 ?_; (with_reducible refine (spec_faFrom.calls k a0_0 a0_1 _ _ l0_2 a1_0 a1_1 a2 t799 _ ?side1 ?side2 A6.out).mono ?_); (case side1 => exact zae8); (case side2 => exact HC0_2.out); rintro e w15 ⟨v800, rfl, ho0, hb⟩; refine ⟨_, rfl, ?_⟩; have n0_ := Aside0.mk (Kd.R_lower ho0 (below_size zae1)); have n1_ := Aside0.mk (blk_below (g := gb796) (o := .cells #[.int .i64 a0_0, .int .i64 a0_1, .slice A0_2 l0_2.length c0_2] 30 (0, 0)) zae5 hb); have n2_ := Aside0.mk (blk_below (g := gb797) (o := .cells #[.int .i64 a1_0, .int .i64 a1_1] 32 (0, 0)) zae13 hb); have n3_ := Aside0.mk (below_step zae1 hb); clear BK796; clear BK797; clear HB; have HO801 := n0_; have BK796 := n1_; have BK797 := n2_; have HB := n3_; clear n0_ n1_ n2_ n3_; (try clear hb); (try clear hb2); (try clear hk); (try clear hi); (try clear ho0); (try clear hna_); (try clear hnb_); obtain ⟨Ao16, co16, eo16⟩ := Kd.R_slice HO801.out; subst eo16))
 go_loopg [8, 22] k (fun kq v8 v22 w' => ∃ (x8_1 : List Int) (x20_1 : List Int) (x22_1 : Int), v22 = .int .i64 x22_1 ∧ Aside0 (spec_CountByDistance.l0 kq x8_1 x20_1 (t799.length : Int) x22_1 = some (r1, r2)) ∧ Aside0 (kq ≤ k) ∧ Aside0 (Kd.R (Kd.int .i64) 3 w' w.heap.size (fun k_ => some k_ ≠ ((.slice Ao16 t799.length co16) : Value).ownBlock) v8 x8_1) ∧ Aside0 (Kd.R (Kd.int .i64) 3 w' w.heap.size (fun k_ => some k_ ≠ (v8 : Value).ownBlock) (.slice Ao16 t799.length co16) x20_1) ∧ Aside0 (w'.heap[gb796]? = some (.cells #[.int .i64 a0_0, .int .i64 a0_1, (.slice A0_2 l0_2.length c0_2)] 30 (0, 0))) ∧ Aside0 (w'.heap[gb797]? = some (.cells #[.int .i64 a1_0, .int .i64 a1_1] 32 (0, 0))) ∧ Aside0 (Below w.heap.size w w'))
 case atStart => exact ⟨(([] : List Int)), (t799), (0), zae21, H', ⟨Nat.le_refl _⟩, ⟨zae17⟩, ⟨by (with_reducible repeat (first | apply Kd.R_alloc | apply Kd.R_drewN | apply Kd.R_drew)); exact Kd.R_mono HO801.out (fun _ hk => (by simp [Value.ownBlock]))⟩, ⟨zae5⟩, ⟨zae13⟩, ⟨zae1⟩⟩
 case round =>
  clear H'
  try clear p2; try clear c3; try clear c5; try clear c6; try clear c9; try clear hcz10_0; try clear hcz10_1; try clear hcz10_2; try clear hcz11_0; try clear hcz11_1; try clear hcz13_0; try clear hcz13_1; try clear hcz13_2; try clear hcz14_0; try clear hcz14_1; try clear hfz10_0; try clear hfz10_1; try clear hfz10_2; try clear hfz11_0; try clear hfz11_1; try clear hfz13_0; try clear hfz13_1; try clear hfz13_2; try clear hfz14_0; try clear hfz14_1
  obtain ⟨x8_1, x20_1, x22_1, rfl, HA, HK1, HO_8, HO_20, BK796, BK797, HB⟩ := hrel
  have hl20_1 := (Kd.R_reads' HO_20.out).1
  rw [hl20_1] at HO_20
  (try simp only [hl20_1])
  (try simp only [hl20_1] at BK796)
  (try simp only [hl20_1] at BK797)
  (try simp only [hl20_1] at HO_8)
  cases gk with
  | zero => exact absurd HA.out (by simp [spec_CountByDistance.l0])
  | succ k1 =>
   have H := HA.out
   clear HA
   simp only [spec_CountByDistance.l0] at H
   by_cases c17 : x22_1 < (t799.length : Int)
   rotate_left
   ·rw [if_neg c17] at H
    have c17b0 : decide (x22_1 < (t799.length : Int)) = false := decide_eq_false c17
    have c17b8 := c17b0
    (try simp only [hl20_1] at c17b8)
    clear c17
    simp only [Option.some.injEq, Prod.mk.injEq] at H
    obtain ⟨rfl, rfl⟩ := H
    go_wp2
    go_ret2
    exact ⟨_, zae18, by (with_reducible repeat (first | apply Kd.R_alloc | apply Kd.R_drewN | apply Kd.R_drew)); exact Kd.R_mono HO_8.out (fun _ hk => trivial), zae1⟩
   rw [if_pos c17] at H
   have c17b0 : decide (x22_1 < (t799.length : Int)) = true := decide_eq_true c17
   have c17b8 := c17b0
   (try simp only [hl20_1] at c17b8)
   clear c17
   by_cases c18 : 0 ≤ x22_1
   rotate_left
   ·rw [if_neg c18] at H
    exact absurd H (by simp)
   rw [if_pos c18] at H
   have c18b0 : decide (0 ≤ x22_1) = true := decide_eq_true c18
   clear c18
   by_cases c19 : x22_1 < (x20_1.length : Int)
   rotate_left
   ·rw [if_neg c19] at H
    exact absurd H (by simp)
   rw [if_pos c19] at H
   have c19b0 : decide (x22_1 < (x20_1.length : Int)) = true := decide_eq_true c19
   have c19b8 := c19b0
   (try simp only [hl20_1] at c19b8)
   clear c19
   by_cases c20 : (rd x20_1 x22_1) < 0
   ·rw [if_pos c20] at H
    have c20b0 : decide ((rd x20_1 x22_1) < 0) = true := decide_eq_true c20
    clear c20
    have H' := Aside0.mk H
    clear H
    have p802 : 0 ≤ (x22_1 : Int) := of_decide_eq_true zae11
    have q802 : x22_1 < (x20_1.length : Int) := of_decide_eq_true zae11
    obtain ⟨ad802, e802, hx802_0⟩ := Kd.at_int (Kd.R_reads' HO_20.out).2.2 x22_1 p802 q802
    cases e802
    replace p802 := eq_true p802
    replace q802 := eq_true q802
    go_wp2
    (try simp only [← hl20_1])
    go_roundg k1
    case measure => have := HK1.out; omega
    case rel => exact ⟨(x8_1), (x20_1), (wrap64 (x22_1 + 1)), zae21, H', ⟨by have := HK1.out; omega⟩, ⟨zae19⟩, ⟨zae25⟩, ⟨zae15⟩, ⟨zae14⟩, ⟨zae1⟩⟩
   rw [if_neg c20] at H
   have c20b0 : decide ((rd x20_1 x22_1) < 0) = false := decide_eq_false c20
   clear c20
   have H' := Aside0.mk H
   clear H
   have p802 : 0 ≤ (x22_1 : Int) := of_decide_eq_true zae11
   have q802 : x22_1 < (x20_1.length : Int) := of_decide_eq_true zae11
   obtain ⟨ad802, e802, hx802_0⟩ := Kd.at_int (Kd.R_reads' HO_20.out).2.2 x22_1 p802 q802
   cases e802
   replace p802 := eq_true p802
   replace q802 := eq_true q802
   go_wp2
   go_loopg [8] k1 (fun kq v8 w' => ∃ (x8_2 : List Int), Aside0 (spec_CountByDistance.l1 kq x8_2 (rd x20_1 x22_1) x20_1 (t799.length : Int) x22_1 = some (r1, r2)) ∧ Aside0 (kq ≤ k1) ∧ Aside0 (Kd.R (Kd.int .i64) 3 w' w.heap.size (fun k_ => some k_ ≠ ((.slice (some ad802) x20_1.length co16) : Value).ownBlock) v8 x8_2) ∧ Aside0 (Kd.R (Kd.int .i64) 3 w' w.heap.size (fun k_ => some k_ ≠ (v8 : Value).ownBlock) (.slice (some ad802) x20_1.length co16) x20_1) ∧ Aside0 (w'.heap[gb796]? = some (.cells #[.int .i64 a0_0, .int .i64 a0_1, (.slice A0_2 l0_2.length c0_2)] 30 (0, 0))) ∧ Aside0 (w'.heap[gb797]? = some (.cells #[.int .i64 a1_0, .int .i64 a1_1] 32 (0, 0))) ∧ Aside0 (Below w.heap.size w w'))
   case atStart => exact ⟨(x8_1), H', ⟨Nat.le_refl _⟩, ⟨zae19⟩, ⟨zae25⟩, ⟨zae15⟩, ⟨zae14⟩, ⟨zae1⟩⟩
   case round =>
    clear H'
    try clear c1; try clear c2; try clear p2; try clear c3; try clear c5; try clear c6; try clear p6; try clear p8; try clear q8; try clear hx8; try clear c9; try clear c17; try clear c17b0; try clear c17b8; try clear c18; try clear c18b0; try clear c19; try clear c19b0; try clear c19b8; try clear c20; try clear c20b0; try clear hcz10_0; try clear hcz10_1; try clear hcz10_2; try clear hcz11_0; try clear hcz11_1; try clear hcz13_0; try clear hcz13_1; try clear hcz13_2; try clear hcz14_0; try clear hcz14_1; try clear hfz10_0; try clear hfz10_1; try clear hfz10_2; try clear hfz11_0; try clear hfz11_1
    try clear hfz13_0; try clear hfz13_1; try clear hfz13_2; try clear hfz14_0; try clear hfz14_1; try clear hx802_0; try clear p2; try clear p802; try clear q802
    obtain ⟨x8_2, HA, HK2, HO_8, HO_20, BK796, BK797, HB⟩ := hrel
    cases gk with
    | zero => exact absurd HA.out (by simp [spec_CountByDistance.l1])
    | succ k2 =>
     have H := HA.out
     clear HA
     simp only [spec_CountByDistance.l1] at H
     by_cases c21 : (x8_2.length : Int) ≤ (rd x20_1 x22_1)
     ·rw [if_pos c21] at H
      have c21b0 : decide ((x8_2.length : Int) ≤ (rd x20_1 x22_1)) = true := decide_eq_true c21
      have c21b8 := c21b0
      (try simp only [hl20_1] at c21b8)
      clear c21
      by_cases c22 : x8_2.length < 17592186044416
      rotate_left
      ·rw [if_neg c22] at H
       exact absurd H (by simp)
      rw [if_pos c22] at H
      have LMc22 := Aside0.mk c22
      clear c22
      obtain ⟨y803, hy803⟩ : ∃ y_ : List Int, y_ = (x8_2 ++ [0]) := ⟨_, rfl⟩
      replace H : (spec_CountByDistance.l1 k2 y803 (rd x20_1 x22_1) x20_1 (t799.length : Int) x22_1) = some (r1, r2) := by first | (rw [hy803]; with_reducible exact H) | (have H2_ := (Option.bind_some _ _).symm.trans H; rw [hy803]; with_reducible exact H2_) | (have H2_ := (Option.bind_some _ _).symm.trans H; with_reducible exact H2_) | with_reducible exact H | (rw [hy803]; exact H) | exact H
      have Ny803 := Aside0.mk hy803
      clear hy803
      have H' := Aside0.mk H
      clear H
      obtain ⟨Ao23, co23, eo23⟩ := Kd.R_slice HO_8.out
      subst eo23
      go_wp2_with (first | ((with_reducible refine gate_builtin (b := .append) (xs := #[.tmp 32, .tmp 33]) rfl ?_); at_builtin; refine Kd.R_append (Kd.int .i64) (w0 := w) w.heap.size rfl (.tmp 32) (.tmp 33) 22 3 (.int .i64 0) 8 rfl Try.underlying22 info3 rfl (by decide) (by omega) (.slice Ao23 x8_2.length co23) x8_2 0 [.int .i64 0] (fun k_ => some k_ ≠ (.slice (some ad802) x20_1.length co16 : Value).ownBlock) (fun _ => False) rfl rfl ?aP (fun _ hk => hk.elim) ?aF ?aO ?aB ?aS ?aL ?_; (case aP => exact rfl); (case aB => exact zae1); (case aF => exact (fun k_ hk => Kd.fresh' (Kd.R_lt (by (with_reducible repeat (first | apply Kd.R_alloc | apply Kd.R_drewN | apply Kd.R_drew)); exact HO_20.out)) k_ hk)); (case aO => exact (by (with_reducible repeat (first | apply Kd.R_alloc | apply Kd.R_drewN | apply Kd.R_drew)); exact HO_8.out)); (case aS => exact (below_size zae1)); (case aL => have := LMc22.out; omega); intro v804 w24 ho hb hg hat; rw [← Ny803.out] at ho; have n0_ := Aside0.mk (Kd.R_after (ok := (fun _ => True)) zae24 hg hat); have n1_ := Aside0.mk (blk_grown (g := gb796) (o := .cells #[.int .i64 a0_0, .int .i64 a0_1, .slice A0_2 l0_2.length c0_2] 30 (0, 0)) zae5 hg (Kd.R_ne HO_8.out BK796.out (by decide))); have n2_ := Aside0.mk (blk_grown (g := gb797) (o := .cells #[.int .i64 a1_0, .int .i64 a1_1] 32 (0, 0)) zae13 hg (Kd.R_ne HO_8.out BK797.out (by decide))); have n3_ := Aside0.mk (hb); have n4_ := Aside0.mk (ho); clear HO_20; clear BK796; clear BK797; clear HB; clear HO_8; have HO_20 := n0_; have BK796 := n1_; have BK797 := n2_; have HB := n3_; have HO805 := n4_; clear n0_ n1_ n2_ n3_ n4_; clear ho hb hg hat))
      go_roundg k2
      case measure => have := HK1.out; have := HK2.out; omega
      case rel => exact ⟨(y803), H', ⟨by have := HK1.out; have := HK2.out; omega⟩, ⟨by (try simp only [hl20_1]); (with_reducible repeat (first | apply Kd.R_alloc | apply Kd.R_drewN | apply Kd.R_drew)); exact HO805.out⟩, ⟨zae23⟩, ⟨zae15⟩, ⟨zae14⟩, ⟨zae1⟩⟩
     rw [if_neg c21] at H
     have c21b0 : decide ((x8_2.length : Int) ≤ (rd x20_1 x22_1)) = false := decide_eq_false c21
     have c21b8 := c21b0
     (try simp only [hl20_1] at c21b8)
     clear c21
     by_cases c25 : 0 ≤ (rd x20_1 x22_1)
     rotate_left
     ·rw [if_neg c25] at H
      exact absurd H (by simp)
     rw [if_pos c25] at H
     have c25b0 : decide (0 ≤ (rd x20_1 x22_1)) = true := decide_eq_true c25
     clear c25
     by_cases c26 : (rd x20_1 x22_1) < (x8_2.length : Int)
     rotate_left
     ·rw [if_neg c26] at H
      exact absurd H (by simp)
     rw [if_pos c26] at H
     have c26b0 : decide ((rd x20_1 x22_1) < (x8_2.length : Int)) = true := decide_eq_true c26
     have c26b8 := c26b0
     (try simp only [hl20_1] at c26b8)
     clear c26
     obtain ⟨y807, hy807⟩ : ∃ y_ : List Int, y_ = (x8_2.set ((rd x20_1 x22_1) : Int).toNat (wrap64 ((rd x8_2 (rd x20_1 x22_1)) + 1))) := ⟨_, rfl⟩
     replace H : (spec_CountByDistance.l0 k2 y807 x20_1 (t799.length : Int) (wrap64 (x22_1 + 1))) = some (r1, r2) := by first | (rw [hy807]; with_reducible exact H) | (have H2_ := (Option.bind_some _ _).symm.trans H; rw [hy807]; with_reducible exact H2_) | (have H2_ := (Option.bind_some _ _).symm.trans H; with_reducible exact H2_) | with_reducible exact H | (rw [hy807]; exact H) | exact H
     have Ny807 := Aside0.mk hy807
     clear hy807
     have H' := Aside0.mk H
     clear H
     obtain ⟨Ao28, co28, eo28⟩ := Kd.R_slice HO_8.out
     subst eo28
     have p806 : 0 ≤ ((rd x20_1 x22_1) : Int) := of_decide_eq_true zae11
     have q806 : (rd x20_1 x22_1) < (x8_2.length : Int) := of_decide_eq_true zae11
     obtain ⟨ad806, e806, hx806_0⟩ := Kd.at_int (Kd.R_reads' HO_8.out).2.2 (rd x20_1 x22_1) p806 q806
     cases e806
     replace p806 := eq_true p806
     replace q806 := eq_true q806
     have p27 : 0 ≤ ((rd x20_1 x22_1) : Int) := of_decide_eq_true zae11
     have q27 : ((rd x20_1 x22_1) : Int) < ((x8_2.length : Int) : Int) := of_decide_eq_true zae11
     obtain ⟨go27, co27, eo27, gb27, gl27, cl27, HG27⟩ := Kd.R_form HO_8.out (by omega)
     (first | cases eo27 | (injection eo27 with ea_ en_ ec_; (first | subst ea_ | (injection ea_ with ea_; subst ea_)); subst ec_; clear en_))
     have GB27 := Aside0.mk gb27
     have GG27 := Aside0.mk HG27
     clear gb27 gl27 HG27
     (try simp only [add_plain] at *)
     (first | simp only [add_plain] at hx806_0 | skip)
     obtain ⟨hx27_0, hf27_0⟩ := Kd.R_celln 0 HO_8.out ((rd x20_1 x22_1) : Int) p27 q27
     replace p27 := eq_true p27
     replace q27 := eq_true q27
     have HP29 := Kd.R_putg HO_8.out ((rd x20_1 x22_1) : Int) (wrap64 ((rd x8_2 (rd x20_1 x22_1)) + 1))
     go_wp2_with (first | ((with_reducible refine gate_store (t := 3) (p := 40) rfl ?_); refine store_event (t := 3) (p := 40) (v := ?vo_w30) (w1 := (wr.setCell ⟨go27, ((rd x20_1 x22_1) : Int).toNat, none⟩ (.int .i64 (wrap64 ((rd x8_2 (rd x20_1 x22_1)) + 1))))) ?hg ?ho ?hn ?hr ?_; (case ho => rfl); (case hg => rfl); (case hn => rfl); (case hr => first | (go_simp; done) | (go_simp; rfl)); intro w30 hw; have hg : wr.grownBy w30 (some go27) := (by rw [hw]; exact HP29.2); have hp_ : Kd.R (Kd.int .i64) 3 w30 w.heap.size (fun k_ => some k_ ≠ (.slice (some ad802) x20_1.length co16 : Value).ownBlock) (.slice (some ⟨go27, 0, none⟩) x8_2.length co28) y807 := (by rw [hw, Ny807.out]; exact HP29.1); clear HP29; have n0_ := Aside0.mk (hp_); have n1_ := Aside0.mk (Kd.R_after (v := (.slice (some ⟨go27, 0, none⟩) x8_2.length co28)) (v1 := (.slice (some ⟨go27, 0, none⟩) x8_2.length co28)) (ok := (fun _ => True)) zae24 hg (.inl rfl)); have n2_ := Aside0.mk (blk_grown (g := gb796) (o := .cells #[.int .i64 a0_0, .int .i64 a0_1, .slice A0_2 l0_2.length c0_2] 30 (0, 0)) zae5 hg (Kd.R_ne HO_8.out BK796.out (by decide))); have n3_ := Aside0.mk (blk_grown (g := gb797) (o := .cells #[.int .i64 a1_0, .int .i64 a1_1] 32 (0, 0)) zae13 hg (Kd.R_ne HO_8.out BK797.out (by decide))); have n4_ := Aside0.mk ((by rw [hw]; exact below_set (HB.out) GB27.out : Below w.heap.size w w30)); clear HO_8; clear HO_20; clear BK796; clear BK797; clear HB; have HO_8 := n0_; have HO_20 := n1_; have BK796 := n2_; have BK797 := n3_; have HB := n4_; clear n0_ n1_ n2_ n3_ n4_; clear hg hw hp_))
     (try simp only [← hl20_1])
     go_roundg k2
     case measure => have := HK1.out; have := HK2.out; omega
     case rel => exact ⟨(y807), (x20_1), (wrap64 (x22_1 + 1)), zae21, H', ⟨by have := HK1.out; have := HK2.out; omega⟩, ⟨zae19⟩, ⟨zae23⟩, ⟨zae15⟩, ⟨zae14⟩, ⟨zae1⟩⟩

/-! ### impl_byDistance: function 69 -/
def impl_byDistance.l0 : Nat → List Int → List Int → Int → Int → Option (List Int)
 | 0, _, _, _, _ => none
 | k + 1, x3, x10, x11, x12 => if x12 < x11 then (if 0 ≤ x12 then (if x12 < (x10.length : Int) then (if (rd x10 x12) ≥ 0 then (if 0 ≤ (rd x10 x12) then (if (rd x10 x12) < (x3.length : Int) then (impl_byDistance.l0 k (x3.set ((rd x10 x12) : Int).toNat (wrap64 ((rd x3 (rd x10 x12)) + 1))) x10 x11 (wrap64 (x12 + 1))) else (none)) else (none)) else (impl_byDistance.l0 k x3 x10 x11 (wrap64 (x12 + 1)))) else (none)) else (none)) else (some x3)
def impl_byDistance.f (k : Nat) (l0 : List Int) : Option (List Int) := (slices_Max_int_int.f l0).bind fun t808 => (if 0 ≤ (wrap64 (t808 + 1)) then (if (wrap64 (t808 + 1) : Int).toNat ≤ 35184372088832 then (impl_byDistance.l0 k (List.replicate (wrap64 (t808 + 1) : Int).toNat 0) l0 (l0.length : Int) 0) else (none)) else (none))
set_option maxHeartbeats 8000000 in
set_option maxRecDepth 100000 in
theorem impl_byDistance.calls (k : Nat) (A0 : Option Addr) (c0 : Nat) (l0 : List Int) (r : List Int) (w : World) (hr0 : Kd.C (Kd.int .i64) w A0 l0.length l0) (hc0 : l0.length ≤ c0) (h : impl_byDistance.f k l0 = some r) :
  Calls Try.prog 69 #[.slice A0 l0.length c0] w fun e w' => ∃ v0_ : Value, e = .returned (v0_) ∧ Kd.R (Kd.int .i64) 3 w' w.heap.size (fun _ => True) v0_ r ∧ Below w.heap.size w w' := by
 have HR0 := Aside0.mk hr0
 have HC0 := Aside0.mk hc0
 clear hr0 hc0
 have HB := Aside0.mk (Below.refl w.heap.size w)
 have H : ((slices_Max_int_int.f l0).bind fun t808 => (if 0 ≤ (wrap64 (t808 + 1)) then (if (wrap64 (t808 + 1) : Int).toNat ≤ 35184372088832 then (impl_byDistance.l0 k (List.replicate (wrap64 (t808 + 1) : Int).toNat 0) l0 (l0.length : Int) 0) else (none)) else (none))) = some r := h
 clear h
 replace H := Option.bind_eq_some_iff.mp H
 obtain ⟨t808, A20, H⟩ := H
 replace H : (if 0 ≤ (wrap64 (t808 + 1)) then (if (wrap64 (t808 + 1) : Int).toNat ≤ 35184372088832 then (impl_byDistance.l0 k (List.replicate (wrap64 (t808 + 1) : Int).toNat 0) l0 (l0.length : Int) 0) else (none)) else (none)) = some r := H
 have A2 := Aside0.mk A20
 clear A20
 obtain ⟨ji3, hji3⟩ : ∃ j_ : Int, (wrap64 (t808 + 1)) = j_ := ⟨_, rfl⟩
 replace H : (if 0 ≤ (ji3) then (if (ji3 : Int).toNat ≤ 35184372088832 then (impl_byDistance.l0 k (List.replicate (ji3 : Int).toNat 0) l0 (l0.length : Int) 0) else (none)) else (none)) = some r := by first | (rw [hji3] at H; exact H) | (simp only [hji3] at H ⊢; exact H)
 (try rw [hji3] at A2)
 have hji3w : (IntKind.i64.wrap (t808 + 1)) = ji3 := (i64_w _).trans hji3
 by_cases c4 : 0 ≤ (ji3)
 rotate_left
 ·rw [if_neg c4] at H
  exact absurd H (by simp)
 rw [if_pos c4] at H
 have c4b0 := eq_true c4
 have c4b1 : decide (0 ≤ (ji3)) = true := decide_eq_true c4
 clear c4
 by_cases c5 : (ji3 : Int).toNat ≤ 35184372088832
 rotate_left
 ·rw [if_neg c5] at H
  exact absurd H (by simp)
 rw [if_pos c5] at H
 have c5b0 := eq_true c5
 have c5b1 : decide ((ji3 : Int).toNat ≤ 35184372088832) = true := decide_eq_true c5
 clear c5
 obtain ⟨y809, hy809⟩ : ∃ y_ : List Int, y_ = (List.replicate (ji3 : Int).toNat 0) := ⟨_, rfl⟩
 replace H : (impl_byDistance.l0 k y809 l0 (l0.length : Int) 0) = some r := by first | (rw [hy809]; with_reducible exact H) | (have H2_ := (Option.bind_some _ _).symm.trans H; rw [hy809]; with_reducible exact H2_) | (have H2_ := (Option.bind_some _ _).symm.trans H; with_reducible exact H2_) | with_reducible exact H | (rw [hy809]; exact H) | exact H
 have Ny809 := Aside0.mk hy809
 clear hy809
 have H' := Aside0.mk H
 clear H
 go_enter Try.func69, Try.ntmps69
 go_wp2_with (first | ((with_reducible refine gate_callee (f := 78) rfl ?_); refine goesL_ (some 7) rfl rfl Try.func78 (by kernel_rfl) rfl #[.slice A0 l0.length c0] rfl zae6 ?_; (with_reducible refine (slices_Max_int_int.calls _ _ l0 t808 _ ?side1 ?side2 A2.out).mono ?_); (case side1 => repeat (first | exact HR0.out | (with_reducible refine Kd.C_alloc ?_ _) | (with_reducible refine Kd.C_drewN ?_ _) | (with_reducible refine Kd.C_drew ?_))); (case side2 => exact HC0.out); rintro e w' ⟨rfl, ⟨nd, rfl⟩⟩; refine ⟨_, rfl, ?_⟩) | ((with_reducible refine gate_dst (N := 9) rfl ?_); refine Kd.R_make (Kd.int .i64) _ 3 rfl (N := 9) rfl 22 _ _ rfl ji3 rfl rfl Try.underlying22 (.int .i64 0) 8 info3 rfl (by decide) (by omega) 0 (ok := fun _ => True) (okp := fun _ => True) rfl (fun _ hk => hk) trivial (of_decide_eq_true zae11) (Nat.le_trans (Nat.mul_le_mul_right _ (of_decide_eq_true zae11 : ji3.toNat ≤ 35184372088832)) (by omega)) (Below.refl _ _) (Nat.le_refl _) ?_; intro v810 w6 ho7 hb hg_ hnew_; clear hg_ hnew_; (first | rw [← Ny809.out] at ho7 | (simp only [Int.reduceToNat] at ho7; rw [← Ny809.out] at ho7)); have n0_ := Aside0.mk (Kd.R_lower ho7 (below_size zae2)); have n1_ := Aside0.mk (below_step zae2 hb); clear HB; have HO811 := n0_; have HB := n1_; clear n0_ n1_; clear hb ho7))
 go_loopg [12] k (fun kq v12 w' => ∃ (x3_1 : List Int) (x12_1 : Int), v12 = .int .i64 x12_1 ∧ Aside0 (impl_byDistance.l0 kq x3_1 l0 (l0.length : Int) x12_1 = some r) ∧ Aside0 (kq ≤ k) ∧ Aside0 (Kd.R (Kd.int .i64) 3 w' w.heap.size (fun _ => True) v810 x3_1) ∧ Aside0 (Below w.heap.size w w'))
 case atStart => exact ⟨(y809), (0), zae21, H', ⟨Nat.le_refl _⟩, ⟨by (with_reducible repeat (first | apply Kd.R_alloc | apply Kd.R_drewN | apply Kd.R_drew)); exact HO811.out⟩, ⟨zae2⟩⟩
 case round =>
  clear H'
  try clear p2; try clear c4; try clear c4b0; try clear c4b1; try clear c5; try clear c5b0; try clear c5b1; try clear c6; try clear p6; try clear c7
  obtain ⟨x3_1, x12_1, rfl, HA, HK1, HO_3, HB⟩ := hrel
  cases gk with
  | zero => exact absurd HA.out (by simp [impl_byDistance.l0])
  | succ k1 =>
   have H := HA.out
   clear HA
   simp only [impl_byDistance.l0] at H
   by_cases c8 : x12_1 < (l0.length : Int)
   rotate_left
   ·rw [if_neg c8] at H
    have c8b0 : decide (x12_1 < (l0.length : Int)) = false := decide_eq_false c8
    clear c8
    obtain rfl := Option.some.inj H
    go_wp2
    go_ret
    exact ⟨_, by first | rfl | (simp [errW_none, errW_some] <;> rfl) | (simp only [← hji3]; first | rfl | (simp [errW_none, errW_some] <;> rfl)) | (simp [*, errW_none, errW_some] <;> rfl), zae22, zae2⟩
   rw [if_pos c8] at H
   have c8b0 : decide (x12_1 < (l0.length : Int)) = true := decide_eq_true c8
   clear c8
   by_cases c9 : 0 ≤ x12_1
   rotate_left
   ·rw [if_neg c9] at H
    exact absurd H (by simp)
   rw [if_pos c9] at H
   have c9b0 : decide (0 ≤ x12_1) = true := decide_eq_true c9
   clear c9
   by_cases c10 : x12_1 < (l0.length : Int)
   rotate_left
   ·rw [if_neg c10] at H
    exact absurd H (by simp)
   rw [if_pos c10] at H
   have c10b0 : decide (x12_1 < (l0.length : Int)) = true := decide_eq_true c10
   clear c10
   by_cases c11 : (rd l0 x12_1) ≥ 0
   rotate_left
   ·rw [if_neg c11] at H
    have c11b0 : decide (0 ≤ (rd l0 x12_1)) = false := decide_eq_false c11
    clear c11
    have H' := Aside0.mk H
    clear H
    have p812 : 0 ≤ (x12_1 : Int) := of_decide_eq_true zae11
    have q812 : x12_1 < (l0.length : Int) := of_decide_eq_true zae11
    obtain ⟨ad812, e812, hx812_0⟩ := Kd.at_int HR0.out x12_1 p812 q812
    cases e812
    (first | replace hx812_0 := (HB.out.cell (World.block_lt_of_cell? w _ hx812_0)).trans hx812_0 | skip)
    replace p812 := eq_true p812
    replace q812 := eq_true q812
    go_wp2
    go_roundg k1
    case measure => have := HK1.out; omega
    case rel => exact ⟨(x3_1), (wrap64 (x12_1 + 1)), zae21, H', ⟨by have := HK1.out; omega⟩, ⟨zae22⟩, ⟨zae2⟩⟩
   rw [if_pos c11] at H
   have c11b0 : decide (0 ≤ (rd l0 x12_1)) = true := decide_eq_true c11
   clear c11
   by_cases c12 : 0 ≤ (rd l0 x12_1)
   rotate_left
   ·rw [if_neg c12] at H
    exact absurd H (by simp)
   rw [if_pos c12] at H
   have c12b0 : decide (0 ≤ (rd l0 x12_1)) = true := decide_eq_true c12
   clear c12
   by_cases c13 : (rd l0 x12_1) < (x3_1.length : Int)
   rotate_left
   ·rw [if_neg c13] at H
    exact absurd H (by simp)
   rw [if_pos c13] at H
   have c13b0 : decide ((rd l0 x12_1) < (x3_1.length : Int)) = true := decide_eq_true c13
   clear c13
   obtain ⟨y814, hy814⟩ : ∃ y_ : List Int, y_ = (x3_1.set ((rd l0 x12_1) : Int).toNat (wrap64 ((rd x3_1 (rd l0 x12_1)) + 1))) := ⟨_, rfl⟩
   replace H : (impl_byDistance.l0 k1 y814 l0 (l0.length : Int) (wrap64 (x12_1 + 1))) = some r := by first | (rw [hy814]; with_reducible exact H) | (have H2_ := (Option.bind_some _ _).symm.trans H; rw [hy814]; with_reducible exact H2_) | (have H2_ := (Option.bind_some _ _).symm.trans H; with_reducible exact H2_) | with_reducible exact H | (rw [hy814]; exact H) | exact H
   have Ny814 := Aside0.mk hy814
   clear hy814
   have H' := Aside0.mk H
   clear H
   have p812 : 0 ≤ (x12_1 : Int) := of_decide_eq_true zae11
   have q812 : x12_1 < (l0.length : Int) := of_decide_eq_true zae11
   obtain ⟨ad812, e812, hx812_0⟩ := Kd.at_int HR0.out x12_1 p812 q812
   cases e812
   (first | replace hx812_0 := (HB.out.cell (World.block_lt_of_cell? w _ hx812_0)).trans hx812_0 | skip)
   replace p812 := eq_true p812
   replace q812 := eq_true q812
   obtain ⟨Ao15, co15, eo15⟩ := Kd.R_slice HO_3.out
   subst eo15
   have p813 : 0 ≤ ((rd l0 x12_1) : Int) := of_decide_eq_true zae11
   have q813 : (rd l0 x12_1) < (x3_1.length : Int) := of_decide_eq_true zae11
   obtain ⟨ad813, e813, hx813_0⟩ := Kd.at_int (Kd.R_reads' HO_3.out).2.2 (rd l0 x12_1) p813 q813
   cases e813
   replace p813 := eq_true p813
   replace q813 := eq_true q813
   have p14 : 0 ≤ ((rd l0 x12_1) : Int) := of_decide_eq_true zae11
   have q14 : ((rd l0 x12_1) : Int) < ((x3_1.length : Int) : Int) := of_decide_eq_true zae11
   obtain ⟨go14, co14, eo14, gb14, gl14, cl14, HG14⟩ := Kd.R_form HO_3.out (by omega)
   (first | cases eo14 | (injection eo14 with ea_ en_ ec_; (first | subst ea_ | (injection ea_ with ea_; subst ea_)); subst ec_; clear en_))
   have GB14 := Aside0.mk gb14
   have GG14 := Aside0.mk HG14
   clear gb14 gl14 HG14
   (try simp only [add_plain] at *)
   (first | simp only [add_plain] at hx813_0 | skip)
   obtain ⟨hx14_0, hf14_0⟩ := Kd.R_celln 0 HO_3.out ((rd l0 x12_1) : Int) p14 q14
   replace p14 := eq_true p14
   replace q14 := eq_true q14
   have HP16 := Kd.R_putg HO_3.out ((rd l0 x12_1) : Int) (wrap64 ((rd x3_1 (rd l0 x12_1)) + 1))
   go_wp2_with (first | ((with_reducible refine gate_store (t := 3) (p := 23) rfl ?_); refine store_event (t := 3) (p := 23) (v := ?vo_w17) (w1 := (wr.setCell ⟨go14, ((rd l0 x12_1) : Int).toNat, none⟩ (.int .i64 (wrap64 ((rd x3_1 (rd l0 x12_1)) + 1))))) ?hg ?ho ?hn ?hr ?_; (case ho => rfl); (case hg => rfl); (case hn => rfl); (case hr => first | (go_simp; done) | (go_simp; rfl)); intro w17 hw; have hg : wr.grownBy w17 (some go14) := (by rw [hw]; exact HP16.2); have hp_ : Kd.R (Kd.int .i64) 3 w17 w.heap.size (fun _ => True) (.slice (some ⟨go14, 0, none⟩) x3_1.length co15) y814 := (by rw [hw, Ny814.out]; exact HP16.1); clear HP16; have n0_ := Aside0.mk (hp_); have n1_ := Aside0.mk ((by rw [hw]; exact below_set (HB.out) GB14.out : Below w.heap.size w w17)); clear HO_3; clear HB; have HO_3 := n0_; have HB := n1_; clear n0_ n1_; clear hg hw hp_))
   go_roundg k1
   case measure => have := HK1.out; omega
   case rel => exact ⟨(y814), (wrap64 (x12_1 + 1)), zae21, H', ⟨by have := HK1.out; omega⟩, ⟨zae22⟩, ⟨zae2⟩⟩

/-! ### impl_CountByDistance: function 35 -/
def impl_CountByDistance.f (k : Nat) (a0_0 : Int) (a0_1 : Int) (l0_2 : List Int) (a1_0 : Int) (a1_1 : Int) (a2 : Int) : Option (List Int × Bool) := (impl_two.f k a0_0 a0_1 l0_2 a1_0 a1_1 a2 a2).bind fun bt817 => (if bt817.2.2 = true then ((impl_graph_far.f k a0_0 a0_1 l0_2 a1_0 a1_1 bt817.1 bt817.2.1 a2).bind fun t826 => ((impl_byDistance.f k t826).bind fun t829 => (some (t829, true)))) else (some (([] : List Int), false)))
set_option maxHeartbeats 8000000 in
set_option maxRecDepth 100000 in
theorem impl_CountByDistance.calls (k : Nat) (a0_0 : Int) (a0_1 : Int) (A0_2 : Option Addr) (c0_2 : Nat) (l0_2 : List Int) (a1_0 : Int) (a1_1 : Int) (a2 : Int) (r1 : List Int) (r2 : Bool) (w : World) (hr0_2 : Kd.C (Kd.int .i64) w A0_2 l0_2.length l0_2) (hc0_2 : l0_2.length ≤ c0_2) (h : impl_CountByDistance.f k a0_0 a0_1 l0_2 a1_0 a1_1 a2 = some (r1, r2)) :
  Calls Try.prog 35 #[.agg #[.int .i64 a0_0, .int .i64 a0_1, .slice A0_2 l0_2.length c0_2], .agg #[.int .i64 a1_0, .int .i64 a1_1], .int .i64 a2] w fun e w' => ∃ v0_ : Value, e = .returned (.tuple #[v0_, .bool r2]) ∧ Kd.R (Kd.int .i64) 3 w' w.heap.size (fun _ => True) v0_ r1 ∧ Below w.heap.size w w' := by
 have hu30 := Try.underlying30
 have hu32 := Try.underlying32
 have HR0_2 := Aside0.mk hr0_2
 have HC0_2 := Aside0.mk hc0_2
 clear hr0_2 hc0_2
 have HB := Aside0.mk (Below.refl w.heap.size w)
 have H : ((impl_two.f k a0_0 a0_1 l0_2 a1_0 a1_1 a2 a2).bind fun bt817 => (if bt817.2.2 = true then ((impl_graph_far.f k a0_0 a0_1 l0_2 a1_0 a1_1 bt817.1 bt817.2.1 a2).bind fun t826 => ((impl_byDistance.f k t826).bind fun t829 => (some (t829, true)))) else (some (([] : List Int), false)))) = some (r1, r2) := h
 clear h
 replace H := Option.bind_eq_some_iff.mp H
 obtain ⟨⟨t817, t820, t825⟩, A40, H⟩ := H
 replace H : (if t825 = true then ((impl_graph_far.f k a0_0 a0_1 l0_2 a1_0 a1_1 t817 t820 a2).bind fun t826 => ((impl_byDistance.f k t826).bind fun t829 => (some (t829, true)))) else (some (([] : List Int), false))) = some (r1, r2) := H
 have A4 := Aside0.mk A40
 clear A40
 by_cases c5 : t825 = true
 rotate_left
 ·replace c5 := Bool.eq_false_iff.mpr c5
  subst c5
  have H1 : (some (([] : List Int), false)) = some (r1, r2) := by rw [if_neg (show ¬ (false = true) by decide)] at H; exact H
  clear H
  have H := H1
  clear H1
  simp only [Option.some.injEq, Prod.mk.injEq] at H
  obtain ⟨rfl, rfl⟩ := H
  go_enter Try.func35, Try.ntmps35
  go_wp2_with (first | ((with_reducible refine gate_dst (N := 3) rfl ?_); refine box_event ?hg (N := 3) ?hd (cs := #[.int .i64 a0_0, .int .i64 a0_1, .slice A0_2 l0_2.length c0_2]) (t := 30) ?hr ?_; (case hd => rfl); (case hg => rfl); (case hr => first | (go_simp; done) | (go_simp; rfl)); intro gb815 hg w19 hbox hb; have n0_ := Aside0.mk (below_step zae2 hb); have n1_ := Aside0.mk (hbox); have n2_ := Aside0.mk ((zae26 : w.heap.size ≤ gb815)); have n3_ := Aside0.mk ((zae26 : w.heap.size ≤ gb815)); clear HB; have HB := n0_; have BK815 := n1_; have GW815 := n2_; have GE815 := n3_; clear n0_ n1_ n2_ n3_; clear hb hbox hg) | ((with_reducible refine gate_dst (N := 4) rfl ?_); refine box_event ?hg (N := 4) ?hd (cs := #[.int .i64 a1_0, .int .i64 a1_1]) (t := 32) ?hr ?_; (case hd => rfl); (case hg => rfl); (case hr => first | (go_simp; done) | (go_simp; rfl)); intro gb816 hg w20 hbox hb; have n0_ := Aside0.mk (blk_below (g := gb815) (o := .cells #[.int .i64 a0_0, .int .i64 a0_1, .slice A0_2 l0_2.length c0_2] 30 (0, 0)) zae4 hb); have n1_ := Aside0.mk (below_step zae9 hb); have n2_ := Aside0.mk (hbox); have n3_ := Aside0.mk ((by rw [hg]; exact (below_size zae9) : w.heap.size ≤ gb816)); have n4_ := Aside0.mk ((by rw [hg]; exact (below_size zae9) : w.heap.size ≤ gb816)); have n5_ := Aside0.mk ((zae27 : gb815 ≠ gb816)); have n6_ := Aside0.mk ((zae29 : gb816 ≠ gb815)); clear BK815; clear HB; have BK815 := n0_; have HB := n1_; have BK816 := n2_; have GW816 := n3_; have GE816 := n4_; have NB815_816 := n5_; have NB816_815 := n6_; clear n0_ n1_ n2_ n3_ n4_ n5_ n6_; clear hb hbox hg; have hnb21 := NB815_816.out; have hnc21 := NB816_815.out; have hcz22_0 : w20.cell? ⟨gb815, 0, none⟩ = some (.int .i64 a0_0) := (blk_cell BK815.out 0).trans rfl; have hcz22_1 : w20.cell? ⟨gb815, 1, none⟩ = some (.int .i64 a0_1) := (blk_cell BK815.out 1).trans rfl; have hcz22_2 : w20.cell? ⟨gb815, 2, none⟩ = some (.slice A0_2 l0_2.length c0_2) := (blk_cell BK815.out 2).trans rfl; have hfz22_0 := blk_frozen BK815.out 0; have hfz22_1 := blk_frozen BK815.out 1; have hfz22_2 := blk_frozen BK815.out 2; have hcz23_0 : w20.cell? ⟨gb816, 0, none⟩ = some (.int .i64 a1_0) := (blk_cell BK816.out 0).trans rfl; have hcz23_1 : w20.cell? ⟨gb816, 1, none⟩ = some (.int .i64 a1_1) := (blk_cell BK816.out 1).trans rfl; have hfz23_0 := blk_frozen BK816.out 0; have hfz23_1 := blk_frozen BK816.out 1) | ((with_reducible refine gate_callee (f := 58) rfl ?_); refine goesL_ (some 15) rfl rfl Try.func58 (by kernel_rfl) rfl #[.agg #[.int .i64 a0_0, .int .i64 a0_1, .slice A0_2 l0_2.length c0_2], .agg #[.int .i64 a1_0, .int .i64 a1_1], .int .i64 a2, .int .i64 a2] rfl zae6 ?_; (with_reducible refine (impl_two.calls k a0_0 a0_1 _ _ l0_2 a1_0 a1_1 a2 a2 t817 t820 false _ ?side1 ?side2 A4.out).mono ?_); (case side1 => exact zae8); (case side2 => exact HC0_2.out); rintro e w24 ⟨v818, v821, pv824, rfl, hgp, ho0, ho1, hb⟩; refine ⟨_, rfl, ?_⟩; obtain rfl := hgp.2 rfl; have n0_ := Aside0.mk (Kd.R_lower ho0 (below_size zae3)); have n1_ := Aside0.mk (Kd.S_lower ho1 (below_size zae3)); have n2_ := Aside0.mk (blk_below (g := gb815) (o := .cells #[.int .i64 a0_0, .int .i64 a0_1, .slice A0_2 l0_2.length c0_2] 30 (0, 0)) zae4 hb); have n3_ := Aside0.mk (blk_below (g := gb816) (o := .cells #[.int .i64 a1_0, .int .i64 a1_1] 32 (0, 0)) zae12 hb); have n4_ := Aside0.mk (below_step zae3 hb); clear BK815; clear BK816; clear HB; have HO819 := n0_; have HO822 := n1_; have BK815 := n2_; have BK816 := n3_; have HB := n4_; clear n0_ n1_ n2_ n3_ n4_; (try clear hb); (try clear hb2); (try clear hk); (try clear hi); (try clear ho0); (try clear ho1); (try clear hgp); (try clear hbox); (try clear hge); (try clear hna_); (try clear hnb_)))
  go_ret2
  exact ⟨_, zae18, zae17, zae3⟩
 subst c5
 have H1 : ((impl_graph_far.f k a0_0 a0_1 l0_2 a1_0 a1_1 t817 t820 a2).bind fun t826 => ((impl_byDistance.f k t826).bind fun t829 => (some (t829, true)))) = some (r1, r2) := by rw [if_pos rfl] at H; exact H
 clear H
 have H := H1
 clear H1
 replace H := Option.bind_eq_some_iff.mp H
 obtain ⟨t826, A60, H⟩ := H
 replace H : ((impl_byDistance.f k t826).bind fun t829 => (some (t829, true))) = some (r1, r2) := H
 have A6 := Aside0.mk A60
 clear A60
 replace H := Option.bind_eq_some_iff.mp H
 obtain ⟨t829, A70, H⟩ := H
 replace H : (some (t829, true)) = some (r1, r2) := H
 have A7 := Aside0.mk A70
 clear A70
 simp only [Option.some.injEq, Prod.mk.injEq] at H
 obtain ⟨rfl, rfl⟩ := H
 go_enter Try.func35, Try.ntmps35
 go_wp2_with (first | ((with_reducible refine gate_dst (N := 3) rfl ?_); refine box_event ?hg (N := 3) ?hd (cs := #[.int .i64 a0_0, .int .i64 a0_1, .slice A0_2 l0_2.length c0_2]) (t := 30) ?hr ?_; (case hd => rfl); (case hg => rfl); (case hr => first | (go_simp; done) | (go_simp; rfl)); intro gb815 hg w8 hbox hb; have n0_ := Aside0.mk (below_step zae2 hb); have n1_ := Aside0.mk (hbox); have n2_ := Aside0.mk ((zae26 : w.heap.size ≤ gb815)); have n3_ := Aside0.mk ((zae26 : w.heap.size ≤ gb815)); clear HB; have HB := n0_; have BK815 := n1_; have GW815 := n2_; have GE815 := n3_; clear n0_ n1_ n2_ n3_; clear hb hbox hg) | ((with_reducible refine gate_dst (N := 4) rfl ?_); refine box_event ?hg (N := 4) ?hd (cs := #[.int .i64 a1_0, .int .i64 a1_1]) (t := 32) ?hr ?_; (case hd => rfl); (case hg => rfl); (case hr => first | (go_simp; done) | (go_simp; rfl)); intro gb816 hg w9 hbox hb; have n0_ := Aside0.mk (blk_below (g := gb815) (o := .cells #[.int .i64 a0_0, .int .i64 a0_1, .slice A0_2 l0_2.length c0_2] 30 (0, 0)) zae4 hb); have n1_ := Aside0.mk (below_step zae9 hb); have n2_ := Aside0.mk (hbox); have n3_ := Aside0.mk ((by rw [hg]; exact (below_size zae9) : w.heap.size ≤ gb816)); have n4_ := Aside0.mk ((by rw [hg]; exact (below_size zae9) : w.heap.size ≤ gb816)); have n5_ := Aside0.mk ((zae27 : gb815 ≠ gb816)); have n6_ := Aside0.mk ((zae29 : gb816 ≠ gb815)); clear BK815; clear HB; have BK815 := n0_; have HB := n1_; have BK816 := n2_; have GW816 := n3_; have GE816 := n4_; have NB815_816 := n5_; have NB816_815 := n6_; clear n0_ n1_ n2_ n3_ n4_ n5_ n6_; clear hb hbox hg; have hnb10 := NB815_816.out; have hnc10 := NB816_815.out; have hcz11_0 : w9.cell? ⟨gb815, 0, none⟩ = some (.int .i64 a0_0) := (blk_cell BK815.out 0).trans rfl; have hcz11_1 : w9.cell? ⟨gb815, 1, none⟩ = some (.int .i64 a0_1) := (blk_cell BK815.out 1).trans rfl; have hcz11_2 : w9.cell? ⟨gb815, 2, none⟩ = some (.slice A0_2 l0_2.length c0_2) := (blk_cell BK815.out 2).trans rfl; have hfz11_0 := blk_frozen BK815.out 0; have hfz11_1 := blk_frozen BK815.out 1; have hfz11_2 := blk_frozen BK815.out 2; have hcz12_0 : w9.cell? ⟨gb816, 0, none⟩ = some (.int .i64 a1_0) := (blk_cell BK816.out 0).trans rfl; have hcz12_1 : w9.cell? ⟨gb816, 1, none⟩ = some (.int .i64 a1_1) := (blk_cell BK816.out 1).trans rfl; have hfz12_0 := blk_frozen BK816.out 0; have hfz12_1 := blk_frozen BK816.out 1) | ((with_reducible refine gate_callee (f := 58) rfl ?_); refine goesL_ (some 15) rfl rfl Try.func58 (by kernel_rfl) rfl #[.agg #[.int .i64 a0_0, .int .i64 a0_1, .slice A0_2 l0_2.length c0_2], .agg #[.int .i64 a1_0, .int .i64 a1_1], .int .i64 a2, .int .i64 a2] rfl zae6 ?_; (with_reducible refine (impl_two.calls k a0_0 a0_1 _ _ l0_2 a1_0 a1_1 a2 a2 t817 t820 true _ ?side1 ?side2 A4.out).mono ?_); (case side1 => exact zae8); (case side2 => exact HC0_2.out); rintro e w13 ⟨v818, v821, pv824, rfl, hgp, ho0, ho1, hb⟩; refine ⟨_, rfl, ?_⟩; obtain ⟨gb823, rfl, hbox, hge⟩ := hgp.1 rfl; have n0_ := Aside0.mk (Kd.R_lower ho0 (below_size zae3)); have n1_ := Aside0.mk (Kd.S_lower ho1 (below_size zae3)); have n2_ := Aside0.mk (blk_below (g := gb815) (o := .cells #[.int .i64 a0_0, .int .i64 a0_1, .slice A0_2 l0_2.length c0_2] 30 (0, 0)) zae4 hb); have n3_ := Aside0.mk (blk_below (g := gb816) (o := .cells #[.int .i64 a1_0, .int .i64 a1_1] 32 (0, 0)) zae12 hb); have n4_ := Aside0.mk (hbox); have n5_ := Aside0.mk ((Nat.le_trans (by exact (below_size zae3)) hge : w.heap.size ≤ gb823)); have n6_ := Aside0.mk ((Nat.le_trans (by exact (below_size zae3)) hge : w.heap.size ≤ gb823)); have n7_ := Aside0.mk ((Nat.ne_of_lt (Nat.lt_of_lt_of_le (blk_lt (g := gb815) (o := .cells #[.int .i64 a0_0, .int .i64 a0_1, .slice A0_2 l0_2.length c0_2] 30 (0, 0)) zae4) hge) : gb815 ≠ gb823)); have n8_ := Aside0.mk ((Nat.ne_of_gt (Nat.lt_of_lt_of_le (blk_lt (g := gb815) (o := .cells #[.int .i64 a0_0, .int .i64 a0_1, .slice A0_2 l0_2.length c0_2] 30 (0, 0)) zae4) hge) : gb823 ≠ gb815)); have n9_ := Aside0.mk ((Nat.ne_of_lt (Nat.lt_of_lt_of_le (blk_lt (g := gb816) (o := .cells #[.int .i64 a1_0, .int .i64 a1_1] 32 (0, 0)) zae12) hge) : gb816 ≠ gb823)); have n10_ := Aside0.mk ((Nat.ne_of_gt (Nat.lt_of_lt_of_le (blk_lt (g := gb816) (o := .cells #[.int .i64 a1_0, .int .i64 a1_1] 32 (0, 0)) zae12) hge) : gb823 ≠ gb816)); have n11_ := Aside0.mk (below_step zae3 hb); clear BK815; clear BK816; clear HB; have HO819 := n0_; have HO822 := n1_; have BK815 := n2_; have BK816 := n3_; have BK823 := n4_; have GW823 := n5_; have GE823 := n6_; have NB815_823 := n7_; have NB823_815 := n8_; have NB816_823 := n9_; have NB823_816 := n10_; have HB := n11_; clear n0_ n1_ n2_ n3_ n4_ n5_ n6_ n7_ n8_ n9_ n10_ n11_; (try clear hb); (try clear hb2); (try clear hk); (try clear hi); (try clear ho0); (try clear ho1); (try clear hgp); (try clear hbox); (try clear hge); (try clear hna_); (try clear hnb_); obtain ⟨Ao14, co14, eo14⟩ := Kd.R_slice HO819.out; subst eo14; obtain ⟨Ao15, co15, eo15⟩ := Kd.S_slice HO822.out; subst eo15) | ((with_reducible refine gate_callee (f := 66) rfl ?_); refine goesL_ (some 22) rfl rfl Try.func66 (by kernel_rfl) rfl #[.pointer (some ⟨gb823, 0, none⟩), .int .i64 a2] rfl zae6 ?_; (with_reducible refine (impl_graph_far.calls k gb823 a0_0 a0_1 A0_2 c0_2 l0_2 a1_0 a1_1 Ao14 co14 t817 Ao15 co15 t820 a2 t826 _ ?side1 ?side2 ?side3 ?side4 ?side5 ?side6 ?side7 A6.out).mono ?_); (case side1 => exact zae20); (case side2 => exact zae8); (case side3 => exact HC0_2.out); (case side4 => repeat (first | exact (Kd.R_reads' HO819.out).2.2 | (with_reducible refine Kd.C_alloc ?_ _) | (with_reducible refine Kd.C_drewN ?_ _) | (with_reducible refine Kd.C_drew ?_))); (case side5 => exact (Kd.R_reads' HO819.out).2.1); (case side6 => repeat (first | exact (Kd.S_reads' HO822.out).2.2 | (with_reducible refine Kd.C_alloc ?_ _) | (with_reducible refine Kd.C_drewN ?_ _) | (with_reducible refine Kd.C_drew ?_))); (case side7 => exact (Kd.S_reads' HO822.out).2.1); rintro e w16 ⟨v827, rfl, ho0, hb⟩; refine ⟨_, rfl, ?_⟩; have n0_ := Aside0.mk (Kd.R_elder' zae16 (Kd.R_base ho0) hb); have n1_ := Aside0.mk (Kd.S_elder' (by (with_reducible repeat (first | apply Kd.S_alloc | apply Kd.S_drewN | apply Kd.S_drew)); exact HO822.out) (Kd.R_base ho0) hb); have n2_ := Aside0.mk (Kd.R_lower (Kd.R_new' ho0 (Kd.R_lt zae16)) (below_size zae7)); have n3_ := Aside0.mk (blk_below (g := gb815) (o := .cells #[.int .i64 a0_0, .int .i64 a0_1, .slice A0_2 l0_2.length c0_2] 30 (0, 0)) zae4 hb); have n4_ := Aside0.mk (blk_below (g := gb816) (o := .cells #[.int .i64 a1_0, .int .i64 a1_1] 32 (0, 0)) zae12 hb); have n5_ := Aside0.mk (blk_below (g := gb823) (o := .cells #[.int .i64 a0_0, .int .i64 a0_1, .slice A0_2 l0_2.length c0_2, .int .i64 a1_0, .int .i64 a1_1, .slice Ao14 t817.length co14, .slice Ao15 t820.length co15] 82 (0, 0)) zae20 hb); have n6_ := Aside0.mk (below_step zae7 hb); clear HO819; clear HO822; clear BK815; clear BK816; clear BK823; clear HB; have HO819 := n0_; have HO822 := n1_; have HO828 := n2_; have BK815 := n3_; have BK816 := n4_; have BK823 := n5_; have HB := n6_; clear n0_ n1_ n2_ n3_ n4_ n5_ n6_; (try clear hb); (try clear hb2); (try clear hk); (try clear hi); (try clear ho0); (try clear hna_); (try clear hnb_); obtain ⟨Ao17, co17, eo17⟩ := Kd.R_slice HO828.out; subst eo17) | ((with_reducible refine gate_callee (f := 69) rfl ?_); refine goesL_ (some 23) rfl rfl Try.func69 (by kernel_rfl) rfl #[.slice Ao17 t826.length co17] rfl zae6 ?_; (with_reducible refine (impl_byDistance.calls k _ _ t826 t829 _ ?side1 ?side2 A7.out).mono ?_); (case side1 => repeat (first | exact (Kd.R_reads' HO828.out).2.2 | (with_reducible refine Kd.C_alloc ?_ _) | (with_reducible refine Kd.C_drewN ?_ _) | (with_reducible refine Kd.C_drew ?_))); (case side2 => exact (Kd.R_reads' HO828.out).2.1); rintro e w18 ⟨v830, rfl, ho0, hb⟩; refine ⟨_, rfl, ?_⟩; have n0_ := Aside0.mk (Kd.R_elder' zae16 (Kd.R_base ho0) hb); have n1_ := Aside0.mk (Kd.S_elder' (by (with_reducible repeat (first | apply Kd.S_alloc | apply Kd.S_drewN | apply Kd.S_drew)); exact HO822.out) (Kd.R_base ho0) hb); have n2_ := Aside0.mk (Kd.R_elder' (by (with_reducible repeat (first | apply Kd.R_alloc | apply Kd.R_drewN | apply Kd.R_drew)); exact HO828.out) (Kd.R_base ho0) hb); have n3_ := Aside0.mk (Kd.R_lower (Kd.R_new' (Kd.R_new' ho0 (Kd.R_lt zae16)) (Kd.R_lt (by (with_reducible repeat (first | apply Kd.R_alloc | apply Kd.R_drewN | apply Kd.R_drew)); exact HO828.out))) (below_size zae7)); have n4_ := Aside0.mk (blk_below (g := gb815) (o := .cells #[.int .i64 a0_0, .int .i64 a0_1, .slice A0_2 l0_2.length c0_2] 30 (0, 0)) zae4 hb); have n5_ := Aside0.mk (blk_below (g := gb816) (o := .cells #[.int .i64 a1_0, .int .i64 a1_1] 32 (0, 0)) zae12 hb); have n6_ := Aside0.mk (blk_below (g := gb823) (o := .cells #[.int .i64 a0_0, .int .i64 a0_1, .slice A0_2 l0_2.length c0_2, .int .i64 a1_0, .int .i64 a1_1, .slice Ao14 t817.length co14, .slice Ao15 t820.length co15] 82 (0, 0)) zae20 hb); have n7_ := Aside0.mk (below_step zae7 hb); clear HO819; clear HO822; clear HO828; clear BK815; clear BK816; clear BK823; clear HB; have HO819 := n0_; have HO822 := n1_; have HO828 := n2_; have HO831 := n3_; have BK815 := n4_; have BK816 := n5_; have BK823 := n6_; have HB := n7_; clear n0_ n1_ n2_ n3_ n4_ n5_ n6_ n7_; (try clear hb); (try clear hb2); (try clear hk); (try clear hi); (try clear ho0); (try clear hna_); (try clear hnb_)))
 go_ret2
 exact ⟨_, zae18, by (with_reducible repeat (first | apply Kd.R_alloc | apply Kd.R_drewN | apply Kd.R_drew)); exact Kd.R_mono HO831.out (fun _ hk => trivial), zae7⟩

end Go.Proofs.Ytjeongckkfkehaa.Q

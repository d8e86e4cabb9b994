/- Written by a program of this session: functions of the translation as plain Lean functions, each with a proof that the call does what the plain function says; the conditions stand in each theorem. -/
import Derived.Test.YthoklbeenjppbaaQ0
import Derived.Test.YthoklbeenjppbaaQ1
import Derived.Test.YthoklbeenjppbaaQ4
import Derived.Test.YthoklbeenjppbaaQ28
namespace Go.Proofs.Ythoklbeenjppbaa.Q
open Go.RowKit Go.Proofs.YthoklbeenjppbaaW.PrintWords Go.Proofs.YthoklbeenjppbaaW.PrintLast Go.Proofs.YthoklbeenjppbaaW.PrintMore
attribute [local go_sem] max2_int min2_int max_two min_two max_three min_three max_four min_four   -- for this text's walks alone
set_option linter.unusedVariables false
set_option linter.unusedSimpArgs false

theorem zad1 {p : Prop} (h : p := by repeat (first | (with_reducible first | exact HB.out | apply below_alloc | apply pw_below_drewN | apply below_drew1 | refine below_set ?_ GE652.out | refine below_set ?_ GE653.out) | exact HB.out)) : p := h
theorem zad2 {p : Prop} (h : p := by (with_reducible repeat (first | refine blk_drewN ?_ _ | refine blk_drew ?_ | refine blk_alloc ?_ _)); exact BK652.out) : p := h
theorem zad3 {p : Prop} (h : p := by repeat (first | (with_reducible first | exact HB.out | apply below_alloc | apply pw_below_drewN | apply below_drew1 | refine below_set ?_ GE633.out | refine below_set ?_ GE634.out) | exact HB.out)) : p := h
theorem zad4 {p : Prop} (h : p := by repeat (first | (with_reducible first | exact HB.out | apply below_alloc | apply pw_below_drewN | apply below_drew1) | exact HB.out)) : p := h
theorem zad5 {p : Prop} (h : p := by repeat (first | exact (Kd.C_below HR0_2.out HB.out) | (with_reducible refine Kd.C_alloc ?_ _) | (with_reducible refine Kd.C_drewN ?_ _) | (with_reducible refine Kd.C_drew ?_))) : p := h
theorem zad6 {p : Prop} (h : p := by repeat (first | (with_reducible first | exact HB.out | apply below_alloc | apply pw_below_drewN | apply below_drew1 | refine below_set ?_ GE652.out) | exact HB.out)) : p := h
theorem zad7 {p : Prop} (h : p := by (with_reducible repeat (first | refine blk_drewN ?_ _ | refine blk_drew ?_ | refine blk_alloc ?_ _)); exact BK633.out) : p := h
theorem zad8 {p : Prop} (h : p := by repeat (first | (with_reducible first | exact HB.out | apply below_alloc | apply pw_below_drewN | apply below_drew1 | refine below_set ?_ GE652.out | refine below_set ?_ GE653.out | refine below_set ?_ GE660.out) | exact HB.out)) : p := h
theorem zad9 {p : Prop} (h : p := by (with_reducible repeat (first | refine blk_drewN ?_ _ | refine blk_drew ?_ | refine blk_alloc ?_ _)); exact BK653.out) : p := h
theorem zad10 {p : Prop} (h : p := by (with_reducible repeat (first | refine blk_drewN ?_ _ | refine blk_drew ?_ | refine blk_alloc ?_ _)); exact BK634.out) : p := h
theorem zad11 {p : Prop} (h : p := by (try simp only [List.map_toArray, List.map_cons, List.map_nil]); first | done | rfl | (simp only [List.length_drop, List.length_take]; rfl)) : p := h
theorem zad12 {p : Prop} (h : p := by repeat (first | (with_reducible first | exact HB.out | apply below_alloc | apply pw_below_drewN | apply below_drew1 | refine below_set ?_ GE646.out) | exact HB.out)) : p := h
theorem zad13 {p : Prop} (h : p := by first | (with_reducible assumption) | assumption) : p := h
theorem zad14 {p : Prop} (h : p := by repeat (first | exact (Kd.C_below HR2.out HB.out) | (with_reducible refine Kd.C_alloc ?_ _) | (with_reducible refine Kd.C_drewN ?_ _) | (with_reducible refine Kd.C_drew ?_))) : p := h
theorem zad15 {p : Prop} (h : p := by (with_reducible repeat (first | refine blk_drewN ?_ _ | refine blk_drew ?_ | refine blk_alloc ?_ _)); exact BK660.out) : p := h
theorem zad16 {p : Prop} (h : p := by (with_reducible repeat (first | refine blk_drewN ?_ _ | refine blk_drew ?_ | refine blk_alloc ?_ _)); exact BK646.out) : p := h
theorem zad17 {p : Prop} (h : p := by repeat (first | (with_reducible first | exact HB.out | apply below_alloc | apply pw_below_drewN | apply below_drew1 | refine below_set ?_ GE633.out) | exact HB.out)) : p := h
theorem zad18 {p : Prop} (h : p := by (with_reducible repeat (first | apply Kd.R_alloc | apply Kd.R_drewN | apply Kd.R_drew)); exact HO656.out) : p := h
theorem zad19 {p : Prop} (h : p := by first | exact Kd.R_nil _ _ _ _ _ | exact Kd.N_nil _ _ _ _ _ | exact Kd.V_nil _ _ _ _ _ | exact Kd.Q_nil _ _ _ _ _ | exact Kd.S_nil _ _ _ _ _) : p := h
theorem zad20 {p : Prop} (h : p := by first | rfl | (simp [errW_none, errW_some] <;> rfl) | (simp [*, errW_none, errW_some] <;> rfl)) : p := h
theorem zad21 {p : Prop} (h : p := by first | rfl | (simp; done) | (simp [*]; done)) : p := h
theorem zad22 {p : Prop} (h : p := by (with_reducible repeat (first | apply Kd.S_alloc | apply Kd.S_drewN | apply Kd.S_drew)); exact HO659.out) : p := h
theorem zad23 {p : Prop} (h : p := by repeat (first | exact (Kd.S_reads' HO659.out).2.2 | (with_reducible refine Kd.C_alloc ?_ _) | (with_reducible refine Kd.C_drewN ?_ _) | (with_reducible refine Kd.C_drew ?_))) : p := h
theorem zad24 {p : Prop} (h : p := by repeat (first | exact (Kd.R_reads' HO656.out).2.2 | (with_reducible refine Kd.C_alloc ?_ _) | (with_reducible refine Kd.C_drewN ?_ _) | (with_reducible refine Kd.C_drew ?_))) : p := h
theorem zad25 {p : Prop} (h : p := by rw [hg]; exact Nat.ne_of_lt (blk_lt (g := gb652) (o := .cells #[.int .i64 a0_0, .int .i64 a0_1, .slice A0_2 l0_2.length c0_2] 30 (0, 0)) zad2)) : p := h
theorem zad26 {p : Prop} (h : p := by rw [hg]; exact Nat.ne_of_gt (blk_lt (g := gb652) (o := .cells #[.int .i64 a0_0, .int .i64 a0_1, .slice A0_2 l0_2.length c0_2] 30 (0, 0)) zad2)) : p := h
theorem zad27 {p : Prop} (h : p := by rw [hg]; exact (below_size zad4)) : p := h
theorem zad28 {p : Prop} (h : p := by rw [hg]; exact (below_size zad6)) : p := h
/-! ### spec_NumbersOfWalk: function 29 -/
mutual
def spec_NumbersOfWalk.j0 : Nat → List Int → Bool → Int → Int → List Int → Option (List Int × Bool)
 | 0, _, _, _, _, _ => none
 | k + 1, x2, x21, x634000, x634001, x634002 => if x21 = true then (some (([] : List Int), false)) else (if 0 ≤ (wrap64 (x634000 * x634001)) then (if (wrap64 (x634000 * x634001) : Int).toNat ≤ 35184372088832 then (spec_NumbersOfWalk.l0 k (List.replicate (wrap64 (x634000 * x634001) : Int).toNat 0) x2 (x2.length : Int) 0) else (none)) else (none))
def spec_NumbersOfWalk.l0 : Nat → List Int → List Int → Int → Int → Option (List Int × Bool)
 | 0, _, _, _, _ => none
 | k + 1, x8, x28, x29, x30 => if x30 < x29 then (if 0 ≤ x30 then (if x30 < (x28.length : Int) then (if 0 ≤ (rd x28 x30) then (if (rd x28 x30) < (x8.length : Int) then (spec_NumbersOfWalk.l0 k (x8.set ((rd x28 x30) : Int).toNat (wrap64 (x30 + 1))) x28 x29 (wrap64 (x30 + 1))) else (none)) else (none)) else (none)) else (none)) else (some (x8, true))
end
def spec_NumbersOfWalk.f (k : Nat) (a0_0 : Int) (a0_1 : Int) (l0_2 : List Int) (a1_0 : Int) (a1_1 : Int) (l2 : List Int) : Option (List Int × Bool) := (spec_boTwo.f k a0_0 a0_1 l0_2 a1_0 a1_1).bind fun t635 => (if t635 = true then ((spec_toWalk.f k a0_0 a0_1 l0_2 a1_0 a1_1 l2).bind fun t636 => (spec_NumbersOfWalk.j0 k l2 (!t636) a0_0 a0_1 l0_2)) else (spec_NumbersOfWalk.j0 k l2 true a0_0 a0_1 l0_2))
set_option maxHeartbeats 8000000 in
set_option maxRecDepth 100000 in
theorem spec_NumbersOfWalk.calls (k : Nat) (a0_0 : Int) (a0_1 : Int) (A0_2 : Option Addr) (c0_2 : Nat) (l0_2 : List Int) (a1_0 : Int) (a1_1 : Int) (A2 : Option Addr) (c2 : Nat) (l2 : List Int) (r1 : List Int) (r2 : Bool) (w : World) (hr0_2 : Kd.C (Kd.int .i64) w A0_2 l0_2.length l0_2) (hc0_2 : l0_2.length ≤ c0_2) (hr2 : Kd.C (Kd.int .i64) w A2 l2.length l2) (hc2 : l2.length ≤ c2) (h : spec_NumbersOfWalk.f k a0_0 a0_1 l0_2 a1_0 a1_1 l2 = some (r1, r2)) :
  Calls Try.prog 29 #[.agg #[.int .i64 a0_0, .int .i64 a0_1, .slice A0_2 l0_2.length c0_2], .agg #[.int .i64 a1_0, .int .i64 a1_1], .slice A2 l2.length c2] w fun e w' => ∃ v0_ : Value, e = .returned (.tuple #[v0_, .bool r2]) ∧ Kd.R (Kd.int .i64) 3 w' w.heap.size (fun _ => True) v0_ r1 ∧ Below w.heap.size w w' := by
 have hu30 := Try.underlying30
 have hu32 := Try.underlying32
 have HR0_2 := Aside0.mk hr0_2
 have HC0_2 := Aside0.mk hc0_2
 clear hr0_2 hc0_2
 have HR2 := Aside0.mk hr2
 have HC2 := Aside0.mk hc2
 clear hr2 hc2
 have HB := Aside0.mk (Below.refl w.heap.size w)
 have H : ((spec_boTwo.f k a0_0 a0_1 l0_2 a1_0 a1_1).bind fun t635 => (if t635 = true then ((spec_toWalk.f k a0_0 a0_1 l0_2 a1_0 a1_1 l2).bind fun t636 => (spec_NumbersOfWalk.j0 k l2 (!t636) a0_0 a0_1 l0_2)) else (spec_NumbersOfWalk.j0 k l2 true a0_0 a0_1 l0_2))) = some (r1, r2) := h
 clear h
 have HC4 := Aside0.mk H
 clear H
 go_enter Try.func29, Try.ntmps29
 go_upto_region 1 with (first | ((with_reducible refine gate_dst (N := 3) rfl ?_); refine box_event ?hg (N := 3) ?hd (cs := #[.int .i64 a0_0, .int .i64 a0_1, .slice A0_2 l0_2.length c0_2]) (t := 30) ?hr ?_; (case hd => rfl); (case hg => rfl); (case hr => first | (go_simp; done) | (go_simp; rfl)); intro gb633 hg w5 hbox hb; have n0_ := Aside0.mk (below_step zad4 hb); have n1_ := Aside0.mk (hbox); have n2_ := Aside0.mk ((zad27 : w.heap.size ≤ gb633)); have n3_ := Aside0.mk ((zad27 : w.heap.size ≤ gb633)); clear HB; have HB := n0_; have BK633 := n1_; have GW633 := n2_; have GE633 := n3_; clear n0_ n1_ n2_ n3_; clear hb hbox hg) | ((with_reducible refine gate_dst (N := 4) rfl ?_); refine box_event ?hg (N := 4) ?hd (cs := #[.int .i64 a1_0, .int .i64 a1_1]) (t := 32) ?hr ?_; (case hd => rfl); (case hg => rfl); (case hr => first | (go_simp; done) | (go_simp; rfl)); intro gb634 hg w6 hbox hb; have n0_ := Aside0.mk (blk_below (g := gb633) (o := .cells #[.int .i64 a0_0, .int .i64 a0_1, .slice A0_2 l0_2.length c0_2] 30 (0, 0)) zad7 hb); have n1_ := Aside0.mk (below_step zad17 hb); have n2_ := Aside0.mk (hbox); have n3_ := Aside0.mk ((by rw [hg]; exact (below_size zad17) : w.heap.size ≤ gb634)); have n4_ := Aside0.mk ((by rw [hg]; exact (below_size zad17) : w.heap.size ≤ gb634)); have n5_ := Aside0.mk ((by rw [hg]; exact Nat.ne_of_lt (blk_lt (g := gb633) (o := .cells #[.int .i64 a0_0, .int .i64 a0_1, .slice A0_2 l0_2.length c0_2] 30 (0, 0)) zad7) : gb633 ≠ gb634)); have n6_ := Aside0.mk ((by rw [hg]; exact Nat.ne_of_gt (blk_lt (g := gb633) (o := .cells #[.int .i64 a0_0, .int .i64 a0_1, .slice A0_2 l0_2.length c0_2] 30 (0, 0)) zad7) : gb634 ≠ gb633)); clear BK633; clear HB; have BK633 := n0_; have HB := n1_; have BK634 := n2_; have GW634 := n3_; have GE634 := n4_; have NB633_634 := n5_; have NB634_633 := n6_; clear n0_ n1_ n2_ n3_ n4_ n5_ n6_; clear hb hbox hg))
 (try simp only [Act.put, List.setIfInBounds_toArray, List.set_cons_zero, List.set_cons_succ])
 go_cut [21] (fun v21 wc => ∃ (kq : Nat) (x21_3 : Bool), v21 = .bool x21_3 ∧ Aside0 (spec_NumbersOfWalk.j0 kq l2 x21_3 a0_0 a0_1 l0_2 = some (r1, r2)) ∧ Aside0 (kq ≤ k) ∧ Aside0 (wc.heap[gb633]? = some (.cells #[.int .i64 a0_0, .int .i64 a0_1, (.slice A0_2 l0_2.length c0_2)] 30 (0, 0))) ∧ Aside0 (wc.heap[gb634]? = some (.cells #[.int .i64 a1_0, .int .i64 a1_1] 32 (0, 0))) ∧ Aside0 (Below w.heap.size w wc))
 case first =>
  have H := HC4.out
  clear HC4
  replace H := Option.bind_eq_some_iff.mp H
  obtain ⟨t635, A70, H⟩ := H
  replace H : (if t635 = true then ((spec_toWalk.f k a0_0 a0_1 l0_2 a1_0 a1_1 l2).bind fun t636 => (spec_NumbersOfWalk.j0 k l2 (!t636) a0_0 a0_1 l0_2)) else (spec_NumbersOfWalk.j0 k l2 true a0_0 a0_1 l0_2)) = some (r1, r2) := H
  have A7 := Aside0.mk A70
  clear A70
  by_cases c8 : t635 = true
  rotate_left
  ·replace c8 := Bool.eq_false_iff.mpr c8
   subst c8
   have H1 : (spec_NumbersOfWalk.j0 k l2 true a0_0 a0_1 l0_2) = some (r1, r2) := by rw [if_neg (show ¬ (false = true) by decide)] at H; exact H
   clear H
   have H := H1
   clear H1
   have H' := Aside0.mk H
   clear H
   have hnb17 := NB633_634.out
   have hnc17 := NB634_633.out
   have hcz18_0 : w6.cell? ⟨gb633, 0, none⟩ = some (.int .i64 a0_0) := (blk_cell BK633.out 0).trans rfl
   have hcz18_1 : w6.cell? ⟨gb633, 1, none⟩ = some (.int .i64 a0_1) := (blk_cell BK633.out 1).trans rfl
   have hcz18_2 : w6.cell? ⟨gb633, 2, none⟩ = some (.slice A0_2 l0_2.length c0_2) := (blk_cell BK633.out 2).trans rfl
   have hfz18_0 := blk_frozen BK633.out 0
   have hfz18_1 := blk_frozen BK633.out 1
   have hfz18_2 := blk_frozen BK633.out 2
   have hcz19_0 : w6.cell? ⟨gb634, 0, none⟩ = some (.int .i64 a1_0) := (blk_cell BK634.out 0).trans rfl
   have hcz19_1 : w6.cell? ⟨gb634, 1, none⟩ = some (.int .i64 a1_1) := (blk_cell BK634.out 1).trans rfl
   have hfz19_0 := blk_frozen BK634.out 0
   have hfz19_1 := blk_frozen BK634.out 1
   go_wp2_with (first | ((with_reducible refine gate_callee (f := 57) rfl ?_); refine goesL_ (some 13) rfl rfl Try.func57 (by kernel_rfl) rfl #[.agg #[.int .i64 a0_0, .int .i64 a0_1, .slice A0_2 l0_2.length c0_2], .agg #[.int .i64 a1_0, .int .i64 a1_1]] rfl zad11 ?_; (with_reducible refine (spec_boTwo.calls k a0_0 a0_1 _ _ l0_2 a1_0 a1_1 false _ ?side1 ?side2 A7.out).mono ?_); (case side1 => exact zad5); (case side2 => exact HC0_2.out); rintro e w20 ⟨rfl, hb⟩; refine ⟨_, rfl, ?_⟩; have n0_ := Aside0.mk (blk_below (g := gb633) (o := .cells #[.int .i64 a0_0, .int .i64 a0_1, .slice A0_2 l0_2.length c0_2] 30 (0, 0)) zad7 hb); have n1_ := Aside0.mk (blk_below (g := gb634) (o := .cells #[.int .i64 a1_0, .int .i64 a1_1] 32 (0, 0)) zad10 hb); have n2_ := Aside0.mk (below_step zad3 hb); clear BK633; clear BK634; clear HB; have BK633 := n0_; have BK634 := n1_; have HB := n2_; clear n0_ n1_ n2_; (try clear hb); (try clear hb2); (try clear hk); (try clear hi); (try clear hna_); (try clear hnb_)))
   go_meet
   case rel => exact ⟨_, (true), zad21, H', ⟨by first | omega | exact Nat.le_refl _⟩, ⟨zad7⟩, ⟨zad10⟩, ⟨zad3⟩⟩
  subst c8
  have H1 : ((spec_toWalk.f k a0_0 a0_1 l0_2 a1_0 a1_1 l2).bind fun t636 => (spec_NumbersOfWalk.j0 k l2 (!t636) a0_0 a0_1 l0_2)) = some (r1, r2) := by rw [if_pos rfl] at H; exact H
  clear H
  have H := H1
  clear H1
  replace H := Option.bind_eq_some_iff.mp H
  obtain ⟨t636, A90, H⟩ := H
  replace H : (spec_NumbersOfWalk.j0 k l2 (!t636) a0_0 a0_1 l0_2) = some (r1, r2) := H
  have A9 := Aside0.mk A90
  clear A90
  have H' := Aside0.mk H
  clear H
  have hnb10 := NB633_634.out
  have hnc10 := NB634_633.out
  have hcz11_0 : w6.cell? ⟨gb633, 0, none⟩ = some (.int .i64 a0_0) := (blk_cell BK633.out 0).trans rfl
  have hcz11_1 : w6.cell? ⟨gb633, 1, none⟩ = some (.int .i64 a0_1) := (blk_cell BK633.out 1).trans rfl
  have hcz11_2 : w6.cell? ⟨gb633, 2, none⟩ = some (.slice A0_2 l0_2.length c0_2) := (blk_cell BK633.out 2).trans rfl
  have hfz11_0 := blk_frozen BK633.out 0
  have hfz11_1 := blk_frozen BK633.out 1
  have hfz11_2 := blk_frozen BK633.out 2
  have hcz12_0 : w6.cell? ⟨gb634, 0, none⟩ = some (.int .i64 a1_0) := (blk_cell BK634.out 0).trans rfl
  have hcz12_1 : w6.cell? ⟨gb634, 1, none⟩ = some (.int .i64 a1_1) := (blk_cell BK634.out 1).trans rfl
  have hfz12_0 := blk_frozen BK634.out 0
  have hfz12_1 := blk_frozen BK634.out 1
  go_wp2_with (first | ((with_reducible refine gate_callee (f := 57) rfl ?_); refine goesL_ (some 13) rfl rfl Try.func57 (by kernel_rfl) rfl #[.agg #[.int .i64 a0_0, .int .i64 a0_1, .slice A0_2 l0_2.length c0_2], .agg #[.int .i64 a1_0, .int .i64 a1_1]] rfl zad11 ?_; (with_reducible refine (spec_boTwo.calls k a0_0 a0_1 _ _ l0_2 a1_0 a1_1 true _ ?side1 ?side2 A7.out).mono ?_); (case side1 => exact zad5); (case side2 => exact HC0_2.out); rintro e w13 ⟨rfl, hb⟩; refine ⟨_, rfl, ?_⟩; have n0_ := Aside0.mk (blk_below (g := gb633) (o := .cells #[.int .i64 a0_0, .int .i64 a0_1, .slice A0_2 l0_2.length c0_2] 30 (0, 0)) zad7 hb); have n1_ := Aside0.mk (blk_below (g := gb634) (o := .cells #[.int .i64 a1_0, .int .i64 a1_1] 32 (0, 0)) zad10 hb); have n2_ := Aside0.mk (below_step zad3 hb); clear BK633; clear BK634; clear HB; have BK633 := n0_; have BK634 := n1_; have HB := n2_; clear n0_ n1_ n2_; (try clear hb); (try clear hb2); (try clear hk); (try clear hi); (try clear hna_); (try clear hnb_); have hcz14_0 : w13.cell? ⟨gb633, 0, none⟩ = some (.int .i64 a0_0) := (blk_cell BK633.out 0).trans rfl; have hcz14_1 : w13.cell? ⟨gb633, 1, none⟩ = some (.int .i64 a0_1) := (blk_cell BK633.out 1).trans rfl; have hcz14_2 : w13.cell? ⟨gb633, 2, none⟩ = some (.slice A0_2 l0_2.length c0_2) := (blk_cell BK633.out 2).trans rfl; have hfz14_0 := blk_frozen BK633.out 0; have hfz14_1 := blk_frozen BK633.out 1; have hfz14_2 := blk_frozen BK633.out 2; have hcz15_0 : w13.cell? ⟨gb634, 0, none⟩ = some (.int .i64 a1_0) := (blk_cell BK634.out 0).trans rfl; have hcz15_1 : w13.cell? ⟨gb634, 1, none⟩ = some (.int .i64 a1_1) := (blk_cell BK634.out 1).trans rfl; have hfz15_0 := blk_frozen BK634.out 0; have hfz15_1 := blk_frozen BK634.out 1) | (go_at_call 69; (with_reducible refine (spec_toWalk.calls k a0_0 a0_1 _ _ l0_2 a1_0 a1_1 _ _ l2 t636 _ ?side1 ?side2 ?side3 ?side4 A9.out).mono ?_); (case side1 => exact zad5); (case side2 => exact HC0_2.out); (case side3 => exact zad14); (case side4 => exact HC2.out); rintro e w16 ⟨rfl, hb⟩; have n0_ := Aside0.mk (blk_below (g := gb633) (o := .cells #[.int .i64 a0_0, .int .i64 a0_1, .slice A0_2 l0_2.length c0_2] 30 (0, 0)) zad7 hb); have n1_ := Aside0.mk (blk_below (g := gb634) (o := .cells #[.int .i64 a1_0, .int .i64 a1_1] 32 (0, 0)) zad10 hb); have n2_ := Aside0.mk (below_step zad3 hb); clear BK633; clear BK634; clear HB; have BK633 := n0_; have BK634 := n1_; have HB := n2_; clear n0_ n1_ n2_; (try clear hb); (try clear hb2); (try clear hk); (try clear hi); (try clear hna_); (try clear hnb_)))
  go_meet
  case rel => exact ⟨_, (!t636), zad21, H', ⟨by first | omega | exact Nat.le_refl _⟩, ⟨zad7⟩, ⟨zad10⟩, ⟨zad3⟩⟩
 case rest =>
  clear HC4
  try clear c1; try clear c2; try clear p2; try clear c5; try clear c8; try clear c10; try clear c17; try clear hcz11_0; try clear hcz11_1; try clear hcz11_2; try clear hcz12_0; try clear hcz12_1; try clear hcz14_0; try clear hcz14_1; try clear hcz14_2; try clear hcz15_0; try clear hcz15_1; try clear hcz18_0; try clear hcz18_1; try clear hcz18_2; try clear hcz19_0; try clear hcz19_1; try clear hfz11_0; try clear hfz11_1; try clear hfz11_2; try clear hfz12_0; try clear hfz12_1; try clear hfz14_0; try clear hfz14_1; try clear hfz14_2; try clear hfz15_0; try clear hfz15_1; try clear hfz18_0; try clear hfz18_1
  try clear hfz18_2; try clear hfz19_0; try clear hfz19_1
  obtain ⟨kq, x21_3, rfl, HA, HJ3, BK633, BK634, HB⟩ := hcut
  cases kq with
  | zero => exact absurd HA.out (by simp [spec_NumbersOfWalk.j0])
  | succ kj3 =>
   have H := HA.out
   clear HA
   simp only [spec_NumbersOfWalk.j0] at H
   by_cases c21 : x21_3 = true
   ·subst c21
    have H1 : (some (([] : List Int), false)) = some (r1, r2) := by rw [if_pos rfl] at H; exact H
    clear H
    have H := H1
    clear H1
    simp only [Option.some.injEq, Prod.mk.injEq] at H
    obtain ⟨rfl, rfl⟩ := H
    go_wp2
    go_ret2
    exact ⟨_, zad20, zad19, zad3⟩
   replace c21 := Bool.eq_false_iff.mpr c21
   subst c21
   have H1 : (if 0 ≤ (wrap64 (a0_0 * a0_1)) then (if (wrap64 (a0_0 * a0_1) : Int).toNat ≤ 35184372088832 then (spec_NumbersOfWalk.l0 kj3 (List.replicate (wrap64 (a0_0 * a0_1) : Int).toNat 0) l2 (l2.length : Int) 0) else (none)) else (none)) = some (r1, r2) := by rw [if_neg (show ¬ (false = true) by decide)] at H; exact H
   clear H
   have H := H1
   clear H1
   obtain ⟨ji22, hji22⟩ : ∃ j_ : Int, (wrap64 (a0_0 * a0_1)) = j_ := ⟨_, rfl⟩
   replace H : (if 0 ≤ (ji22) then (if (ji22 : Int).toNat ≤ 35184372088832 then (spec_NumbersOfWalk.l0 kj3 (List.replicate (ji22 : Int).toNat 0) l2 (l2.length : Int) 0) else (none)) else (none)) = some (r1, r2) := by first | (rw [hji22] at H; exact H) | (simp only [hji22] at H ⊢; exact H)
   have hji22w : (IntKind.i64.wrap (a0_0 * a0_1)) = ji22 := (i64_w _).trans hji22
   by_cases c23 : 0 ≤ (ji22)
   rotate_left
   ·rw [if_neg c23] at H
    exact absurd H (by simp)
   rw [if_pos c23] at H
   have c23b0 := eq_true c23
   have c23b1 : decide (0 ≤ (ji22)) = true := decide_eq_true c23
   clear c23
   by_cases c24 : (ji22 : Int).toNat ≤ 35184372088832
   rotate_left
   ·rw [if_neg c24] at H
    exact absurd H (by simp)
   rw [if_pos c24] at H
   have c24b0 := eq_true c24
   have c24b1 : decide ((ji22 : Int).toNat ≤ 35184372088832) = true := decide_eq_true c24
   clear c24
   obtain ⟨y637, hy637⟩ : ∃ y_ : List Int, y_ = (List.replicate (ji22 : Int).toNat 0) := ⟨_, rfl⟩
   replace H : (spec_NumbersOfWalk.l0 kj3 y637 l2 (l2.length : Int) 0) = some (r1, r2) := by first | (rw [hy637]; with_reducible exact H) | (have H2_ := (Option.bind_some _ _).symm.trans H; rw [hy637]; with_reducible exact H2_) | (have H2_ := (Option.bind_some _ _).symm.trans H; with_reducible exact H2_) | with_reducible exact H | (rw [hy637]; exact H) | exact H
   have Ny637 := Aside0.mk hy637
   clear hy637
   have H' := Aside0.mk H
   clear H
   have hnb25 := NB633_634.out
   have hnc25 := NB634_633.out
   have hcz26_0 : wc.cell? ⟨gb633, 0, none⟩ = some (.int .i64 a0_0) := (blk_cell BK633.out 0).trans rfl
   have hcz26_1 : wc.cell? ⟨gb633, 1, none⟩ = some (.int .i64 a0_1) := (blk_cell BK633.out 1).trans rfl
   have hcz26_2 : wc.cell? ⟨gb633, 2, none⟩ = some (.slice A0_2 l0_2.length c0_2) := (blk_cell BK633.out 2).trans rfl
   have hfz26_0 := blk_frozen BK633.out 0
   have hfz26_1 := blk_frozen BK633.out 1
   have hfz26_2 := blk_frozen BK633.out 2
   go_wp2_with (first | ((with_reducible refine gate_dst (N := 27) rfl ?_); refine Kd.R_make (Kd.int .i64) _ 3 rfl (N := 27) rfl 22 _ _ rfl ji22 rfl rfl Try.underlying22 (.int .i64 0) 8 info3 rfl (by decide) (by omega) 0 (ok := fun _ => True) (okp := fun _ => True) rfl (fun _ hk => hk) trivial (of_decide_eq_true zad13) (Nat.le_trans (Nat.mul_le_mul_right _ (of_decide_eq_true zad13 : ji22.toNat ≤ 35184372088832)) (by omega)) (Below.refl _ _) (Nat.le_refl _) ?_; intro v638 w27 ho28 hb hg_ hnew_; clear hg_ hnew_; (first | rw [← Ny637.out] at ho28 | (simp only [Int.reduceToNat] at ho28; rw [← Ny637.out] at ho28)); have n0_ := Aside0.mk (Kd.R_lower ho28 (below_size zad3)); have n1_ := Aside0.mk (blk_below (g := gb633) (o := .cells #[.int .i64 a0_0, .int .i64 a0_1, .slice A0_2 l0_2.length c0_2] 30 (0, 0)) zad7 hb); have n2_ := Aside0.mk (blk_below (g := gb634) (o := .cells #[.int .i64 a1_0, .int .i64 a1_1] 32 (0, 0)) zad10 hb); have n3_ := Aside0.mk (below_step zad3 hb); clear BK633; clear BK634; clear HB; have HO639 := n0_; have BK633 := n1_; have BK634 := n2_; have HB := n3_; clear n0_ n1_ n2_ n3_; clear hb ho28))
   go_loopg [30] kj3 (fun kq v30 w' => ∃ (x8_2 : List Int) (x30_2 : Int), v30 = .int .i64 x30_2 ∧ Aside0 (spec_NumbersOfWalk.l0 kq x8_2 l2 (l2.length : Int) x30_2 = some (r1, r2)) ∧ Aside0 (kq ≤ kj3) ∧ Aside0 (Kd.R (Kd.int .i64) 3 w' w.heap.size (fun _ => True) v638 x8_2) ∧ Aside0 (w'.heap[gb633]? = some (.cells #[.int .i64 a0_0, .int .i64 a0_1, (.slice A0_2 l0_2.length c0_2)] 30 (0, 0))) ∧ Aside0 (w'.heap[gb634]? = some (.cells #[.int .i64 a1_0, .int .i64 a1_1] 32 (0, 0))) ∧ Aside0 (Below w.heap.size w w'))
   case atStart => exact ⟨(y637), (0), zad21, H', ⟨Nat.le_refl _⟩, ⟨by (with_reducible repeat (first | apply Kd.R_alloc | apply Kd.R_drewN | apply Kd.R_drew)); exact HO639.out⟩, ⟨zad7⟩, ⟨zad10⟩, ⟨zad3⟩⟩
   case round =>
    clear H'
    try clear c1; try clear c2; try clear p2; try clear c5; try clear p6; try clear c8; try clear c10; try clear c17; try clear c21; try clear c23; try clear c23b0; try clear c23b1; try clear c24; try clear c24b0; try clear c24b1; try clear c25; try clear hcz11_0; try clear hcz11_1; try clear hcz11_2; try clear hcz12_0; try clear hcz12_1; try clear hcz14_0; try clear hcz14_1; try clear hcz14_2; try clear hcz15_0; try clear hcz15_1; try clear hcz18_0; try clear hcz18_1; try clear hcz18_2; try clear hcz19_0; try clear hcz19_1; try clear hcz26_0; try clear hcz26_1; try clear hcz26_2; try clear hfz11_0
    try clear hfz11_1; try clear hfz11_2; try clear hfz12_0; try clear hfz12_1; try clear hfz14_0; try clear hfz14_1; try clear hfz14_2; try clear hfz15_0; try clear hfz15_1; try clear hfz18_0; try clear hfz18_1; try clear hfz18_2; try clear hfz19_0; try clear hfz19_1; try clear hfz26_0; try clear hfz26_1; try clear hfz26_2; try clear p2
    obtain ⟨x8_2, x30_2, rfl, HA, HK2, HO_8, BK633, BK634, HB⟩ := hrel
    cases gk with
    | zero => exact absurd HA.out (by simp [spec_NumbersOfWalk.l0])
    | succ k2 =>
     have H := HA.out
     clear HA
     simp only [spec_NumbersOfWalk.l0] at H
     by_cases c29 : x30_2 < (l2.length : Int)
     rotate_left
     ·rw [if_neg c29] at H
      have c29b0 : decide (x30_2 < (l2.length : Int)) = false := decide_eq_false c29
      clear c29
      simp only [Option.some.injEq, Prod.mk.injEq] at H
      obtain ⟨rfl, rfl⟩ := H
      go_wp2
      go_ret2
      exact ⟨_, by first | rfl | (simp [errW_none, errW_some] <;> rfl) | (simp only [← hji22]; first | rfl | (simp [errW_none, errW_some] <;> rfl)) | (simp [*, errW_none, errW_some] <;> rfl), by (with_reducible repeat (first | apply Kd.R_alloc | apply Kd.R_drewN | apply Kd.R_drew)); exact HO_8.out, zad3⟩
     rw [if_pos c29] at H
     have c29b0 : decide (x30_2 < (l2.length : Int)) = true := decide_eq_true c29
     clear c29
     by_cases c30 : 0 ≤ x30_2
     rotate_left
     ·rw [if_neg c30] at H
      exact absurd H (by simp)
     rw [if_pos c30] at H
     have c30b0 : decide (0 ≤ x30_2) = true := decide_eq_true c30
     clear c30
     by_cases c31 : x30_2 < (l2.length : Int)
     rotate_left
     ·rw [if_neg c31] at H
      exact absurd H (by simp)
     rw [if_pos c31] at H
     have c31b0 : decide (x30_2 < (l2.length : Int)) = true := decide_eq_true c31
     clear c31
     by_cases c32 : 0 ≤ (rd l2 x30_2)
     rotate_left
     ·rw [if_neg c32] at H
      exact absurd H (by simp)
     rw [if_pos c32] at H
     have c32b0 : decide (0 ≤ (rd l2 x30_2)) = true := decide_eq_true c32
     clear c32
     by_cases c33 : (rd l2 x30_2) < (x8_2.length : Int)
     rotate_left
     ·rw [if_neg c33] at H
      exact absurd H (by simp)
     rw [if_pos c33] at H
     have c33b0 : decide ((rd l2 x30_2) < (x8_2.length : Int)) = true := decide_eq_true c33
     clear c33
     obtain ⟨y641, hy641⟩ : ∃ y_ : List Int, y_ = (x8_2.set ((rd l2 x30_2) : Int).toNat (wrap64 (x30_2 + 1))) := ⟨_, rfl⟩
     replace H : (spec_NumbersOfWalk.l0 k2 y641 l2 (l2.length : Int) (wrap64 (x30_2 + 1))) = some (r1, r2) := by first | (rw [hy641]; with_reducible exact H) | (have H2_ := (Option.bind_some _ _).symm.trans H; rw [hy641]; with_reducible exact H2_) | (have H2_ := (Option.bind_some _ _).symm.trans H; with_reducible exact H2_) | with_reducible exact H | (rw [hy641]; exact H) | exact H
     have Ny641 := Aside0.mk hy641
     clear hy641
     have H' := Aside0.mk H
     clear H
     have p640 : 0 ≤ (x30_2 : Int) := of_decide_eq_true zad13
     have q640 : x30_2 < (l2.length : Int) := of_decide_eq_true zad13
     obtain ⟨ad640, e640, hx640_0⟩ := Kd.at_int HR2.out x30_2 p640 q640
     cases e640
     (first | replace hx640_0 := (HB.out.cell (World.block_lt_of_cell? w _ hx640_0)).trans hx640_0 | skip)
     replace p640 := eq_true p640
     replace q640 := eq_true q640
     have p34 : 0 ≤ ((rd l2 x30_2) : Int) := of_decide_eq_true zad13
     have q34 : ((rd l2 x30_2) : Int) < ((x8_2.length : Int) : Int) := of_decide_eq_true zad13
     obtain ⟨go34, co34, eo34, gb34, gl34, cl34, HG34⟩ := Kd.R_form HO_8.out (by omega)
     (first | cases eo34 | (injection eo34 with ea_ en_ ec_; (first | subst ea_ | (injection ea_ with ea_; subst ea_)); subst ec_; clear en_))
     have GB34 := Aside0.mk gb34
     have GG34 := Aside0.mk HG34
     clear gb34 gl34 HG34
     obtain ⟨hx34_0, hf34_0⟩ := Kd.R_celln 0 HO_8.out ((rd l2 x30_2) : Int) p34 q34
     replace p34 := eq_true p34
     replace q34 := eq_true q34
     have HP35 := Kd.R_putg HO_8.out ((rd l2 x30_2) : Int) (wrap64 (x30_2 + 1))
     go_wp2_with (first | ((with_reducible refine gate_store (t := 3) (p := 39) rfl ?_); refine store_event (t := 3) (p := 39) (v := ?vo_w36) (w1 := (wr.setCell ⟨go34, ((rd l2 x30_2) : Int).toNat, none⟩ (.int .i64 (wrap64 (x30_2 + 1))))) ?hg ?ho ?hn ?hr ?_; (case ho => rfl); (case hg => rfl); (case hn => rfl); (case hr => first | (go_simp; done) | (go_simp; rfl)); intro w36 hw; have hg : wr.grownBy w36 (some go34) := (by rw [hw]; exact HP35.2); have hp_ : Kd.R (Kd.int .i64) 3 w36 w.heap.size (fun _ => True) (.slice (some ⟨go34, 0, none⟩) x8_2.length co34) y641 := (by rw [hw, Ny641.out]; exact HP35.1); clear HP35; have n0_ := Aside0.mk (hp_); have n1_ := Aside0.mk (blk_grown (g := gb633) (o := .cells #[.int .i64 a0_0, .int .i64 a0_1, .slice A0_2 l0_2.length c0_2] 30 (0, 0)) zad7 hg (Kd.R_ne HO_8.out BK633.out (by decide))); have n2_ := Aside0.mk (blk_grown (g := gb634) (o := .cells #[.int .i64 a1_0, .int .i64 a1_1] 32 (0, 0)) zad10 hg (Kd.R_ne HO_8.out BK634.out (by decide))); have n3_ := Aside0.mk ((by rw [hw]; exact below_set (HB.out) GB34.out : Below w.heap.size w w36)); clear HO_8; clear BK633; clear BK634; clear HB; have HO_8 := n0_; have BK633 := n1_; have BK634 := n2_; have HB := n3_; clear n0_ n1_ n2_ n3_; clear hg hw hp_))
     go_roundg k2
     case measure => have := HJ3.out; have := HK2.out; omega
     case rel => exact ⟨(y641), (wrap64 (x30_2 + 1)), zad21, H', ⟨by have := HJ3.out; have := HK2.out; omega⟩, ⟨by (with_reducible repeat (first | apply Kd.R_alloc | apply Kd.R_drewN | apply Kd.R_drew)); exact HO_8.out⟩, ⟨zad7⟩, ⟨zad10⟩, ⟨zad3⟩⟩

/-! ### impl_Board_numbers: function 71 -/
def impl_Board_numbers.l0 : Nat → List Int → List Int → Int → Int → Option (List Int)
 | 0, _, _, _, _ => none
 | k + 1, x5, x14, x15, x16 => if x16 < x15 then (if 0 ≤ x16 then (if x16 < (x14.length : Int) then (if 0 ≤ (rd x14 x16) then (if (rd x14 x16) < (x5.length : Int) then (impl_Board_numbers.l0 k (x5.set ((rd x14 x16) : Int).toNat (wrap64 (x16 + 1))) x14 x15 (wrap64 (x16 + 1))) else (none)) else (none)) else (none)) else (none)) else (some x5)
def impl_Board_numbers.f (k : Nat) (a0_0 : Int) (a0_1 : Int) (l0_2 : List Int) (l1 : List Int) : Option (List Int) := if 0 ≤ (wrap64 (a0_0 * a0_1)) then (if (wrap64 (a0_0 * a0_1) : Int).toNat ≤ 35184372088832 then (impl_Board_numbers.l0 k (List.replicate (wrap64 (a0_0 * a0_1) : Int).toNat 0) l1 (l1.length : Int) 0) else (none)) else (none)
set_option maxHeartbeats 8000000 in
set_option maxRecDepth 100000 in
theorem impl_Board_numbers.calls (k : Nat) (a0_0 : Int) (a0_1 : Int) (A0_2 : Option Addr) (c0_2 : Nat) (l0_2 : List Int) (A1 : Option Addr) (c1 : Nat) (l1 : List Int) (r : List Int) (w : World) (hr0_2 : Kd.C (Kd.int .i64) w A0_2 l0_2.length l0_2) (hc0_2 : l0_2.length ≤ c0_2) (hr1 : Kd.C (Kd.int .i64) w A1 l1.length l1) (hc1 : l1.length ≤ c1) (h : impl_Board_numbers.f k a0_0 a0_1 l0_2 l1 = some r) :
  Calls Try.prog 71 #[.agg #[.int .i64 a0_0, .int .i64 a0_1, .slice A0_2 l0_2.length c0_2], .slice A1 l1.length c1] w fun e w' => ∃ v0_ : Value, e = .returned (v0_) ∧ Kd.R (Kd.int .i64) 3 w' w.heap.size (fun _ => True) v0_ r ∧ Below w.heap.size w w' := by
 have hu30 := Try.underlying30
 have HR0_2 := Aside0.mk hr0_2
 have HC0_2 := Aside0.mk hc0_2
 clear hr0_2 hc0_2
 have HR1 := Aside0.mk hr1
 have HC1 := Aside0.mk hc1
 clear hr1 hc1
 have HB := Aside0.mk (Below.refl w.heap.size w)
 have H : (if 0 ≤ (wrap64 (a0_0 * a0_1)) then (if (wrap64 (a0_0 * a0_1) : Int).toNat ≤ 35184372088832 then (impl_Board_numbers.l0 k (List.replicate (wrap64 (a0_0 * a0_1) : Int).toNat 0) l1 (l1.length : Int) 0) else (none)) else (none)) = some r := h
 clear h
 obtain ⟨ji3, hji3⟩ : ∃ j_ : Int, (wrap64 (a0_0 * a0_1)) = j_ := ⟨_, rfl⟩
 replace H : (if 0 ≤ (ji3) then (if (ji3 : Int).toNat ≤ 35184372088832 then (impl_Board_numbers.l0 k (List.replicate (ji3 : Int).toNat 0) l1 (l1.length : Int) 0) else (none)) else (none)) = some r := by first | (rw [hji3] at H; exact H) | (simp only [hji3] at H ⊢; exact H)
 have hji3w : (IntKind.i64.wrap (a0_0 * a0_1)) = ji3 := (i64_w _).trans hji3
 by_cases c4 : 0 ≤ (ji3)
 rotate_left
 ·rw [if_neg c4] at H
  exact absurd H (by simp)
 rw [if_pos c4] at H
 have c4b0 := eq_true c4
 have c4b1 : decide (0 ≤ (ji3)) = true := decide_eq_true c4
 clear c4
 by_cases c5 : (ji3 : Int).toNat ≤ 35184372088832
 rotate_left
 ·rw [if_neg c5] at H
  exact absurd H (by simp)
 rw [if_pos c5] at H
 have c5b0 := eq_true c5
 have c5b1 : decide ((ji3 : Int).toNat ≤ 35184372088832) = true := decide_eq_true c5
 clear c5
 obtain ⟨y647, hy647⟩ : ∃ y_ : List Int, y_ = (List.replicate (ji3 : Int).toNat 0) := ⟨_, rfl⟩
 replace H : (impl_Board_numbers.l0 k y647 l1 (l1.length : Int) 0) = some r := by first | (rw [hy647]; with_reducible exact H) | (have H2_ := (Option.bind_some _ _).symm.trans H; rw [hy647]; with_reducible exact H2_) | (have H2_ := (Option.bind_some _ _).symm.trans H; with_reducible exact H2_) | with_reducible exact H | (rw [hy647]; exact H) | exact H
 have Ny647 := Aside0.mk hy647
 clear hy647
 have H' := Aside0.mk H
 clear H
 go_enter Try.func71, Try.ntmps71
 go_wp2_with (first | ((with_reducible refine gate_dst (N := 2) rfl ?_); refine box_event ?hg (N := 2) ?hd (cs := #[.int .i64 a0_0, .int .i64 a0_1, .slice A0_2 l0_2.length c0_2]) (t := 30) ?hr ?_; (case hd => rfl); (case hg => rfl); (case hr => first | (go_simp; done) | (go_simp; rfl)); intro gb646 hg w6 hbox hb; have n0_ := Aside0.mk (below_step zad4 hb); have n1_ := Aside0.mk (hbox); have n2_ := Aside0.mk ((zad27 : w.heap.size ≤ gb646)); have n3_ := Aside0.mk ((zad27 : w.heap.size ≤ gb646)); clear HB; have HB := n0_; have BK646 := n1_; have GW646 := n2_; have GE646 := n3_; clear n0_ n1_ n2_ n3_; clear hb hbox hg; have hcz7_0 : w6.cell? ⟨gb646, 0, none⟩ = some (.int .i64 a0_0) := (blk_cell BK646.out 0).trans rfl; have hcz7_1 : w6.cell? ⟨gb646, 1, none⟩ = some (.int .i64 a0_1) := (blk_cell BK646.out 1).trans rfl; have hcz7_2 : w6.cell? ⟨gb646, 2, none⟩ = some (.slice A0_2 l0_2.length c0_2) := (blk_cell BK646.out 2).trans rfl; have hfz7_0 := blk_frozen BK646.out 0; have hfz7_1 := blk_frozen BK646.out 1; have hfz7_2 := blk_frozen BK646.out 2) | ((with_reducible refine gate_dst (N := 13) rfl ?_); refine Kd.R_make (Kd.int .i64) _ 3 rfl (N := 13) rfl 22 _ _ rfl ji3 rfl rfl Try.underlying22 (.int .i64 0) 8 info3 rfl (by decide) (by omega) 0 (ok := fun _ => True) (okp := fun _ => True) rfl (fun _ hk => hk) trivial (of_decide_eq_true zad13) (Nat.le_trans (Nat.mul_le_mul_right _ (of_decide_eq_true zad13 : ji3.toNat ≤ 35184372088832)) (by omega)) (Below.refl _ _) (Nat.le_refl _) ?_; intro v648 w8 ho9 hb hg_ hnew_; clear hg_ hnew_; (first | rw [← Ny647.out] at ho9 | (simp only [Int.reduceToNat] at ho9; rw [← Ny647.out] at ho9)); have n0_ := Aside0.mk (Kd.R_lower ho9 (below_size zad12)); have n1_ := Aside0.mk (blk_below (g := gb646) (o := .cells #[.int .i64 a0_0, .int .i64 a0_1, .slice A0_2 l0_2.length c0_2] 30 (0, 0)) zad16 hb); have n2_ := Aside0.mk (below_step zad12 hb); clear BK646; clear HB; have HO649 := n0_; have BK646 := n1_; have HB := n2_; clear n0_ n1_ n2_; clear hb ho9))
 go_loopg [16] k (fun kq v16 w' => ∃ (x5_1 : List Int) (x16_1 : Int), v16 = .int .i64 x16_1 ∧ Aside0 (impl_Board_numbers.l0 kq x5_1 l1 (l1.length : Int) x16_1 = some r) ∧ Aside0 (kq ≤ k) ∧ Aside0 (Kd.R (Kd.int .i64) 3 w' w.heap.size (fun _ => True) v648 x5_1) ∧ Aside0 (w'.heap[gb646]? = some (.cells #[.int .i64 a0_0, .int .i64 a0_1, (.slice A0_2 l0_2.length c0_2)] 30 (0, 0))) ∧ Aside0 (Below w.heap.size w w'))
 case atStart => exact ⟨(y647), (0), zad21, H', ⟨Nat.le_refl _⟩, ⟨by (with_reducible repeat (first | apply Kd.R_alloc | apply Kd.R_drewN | apply Kd.R_drew)); exact HO649.out⟩, ⟨zad16⟩, ⟨zad12⟩⟩
 case round =>
  clear H'
  try clear c1; try clear p2; try clear c4; try clear c4b0; try clear c4b1; try clear c5; try clear c5b0; try clear c5b1; try clear p6; try clear c7; try clear hcz7_0; try clear hcz7_1; try clear hcz7_2; try clear hfz7_0; try clear hfz7_1; try clear hfz7_2
  obtain ⟨x5_1, x16_1, rfl, HA, HK1, HO_5, BK646, HB⟩ := hrel
  cases gk with
  | zero => exact absurd HA.out (by simp [impl_Board_numbers.l0])
  | succ k1 =>
   have H := HA.out
   clear HA
   simp only [impl_Board_numbers.l0] at H
   by_cases c10 : x16_1 < (l1.length : Int)
   rotate_left
   ·rw [if_neg c10] at H
    have c10b0 : decide (x16_1 < (l1.length : Int)) = false := decide_eq_false c10
    clear c10
    obtain rfl := Option.some.inj H
    go_wp2
    go_ret
    exact ⟨_, by first | rfl | (simp [errW_none, errW_some] <;> rfl) | (simp only [← hji3]; first | rfl | (simp [errW_none, errW_some] <;> rfl)) | (simp [*, errW_none, errW_some] <;> rfl), by (with_reducible repeat (first | apply Kd.R_alloc | apply Kd.R_drewN | apply Kd.R_drew)); exact HO_5.out, zad12⟩
   rw [if_pos c10] at H
   have c10b0 : decide (x16_1 < (l1.length : Int)) = true := decide_eq_true c10
   clear c10
   by_cases c11 : 0 ≤ x16_1
   rotate_left
   ·rw [if_neg c11] at H
    exact absurd H (by simp)
   rw [if_pos c11] at H
   have c11b0 : decide (0 ≤ x16_1) = true := decide_eq_true c11
   clear c11
   by_cases c12 : x16_1 < (l1.length : Int)
   rotate_left
   ·rw [if_neg c12] at H
    exact absurd H (by simp)
   rw [if_pos c12] at H
   have c12b0 : decide (x16_1 < (l1.length : Int)) = true := decide_eq_true c12
   clear c12
   by_cases c13 : 0 ≤ (rd l1 x16_1)
   rotate_left
   ·rw [if_neg c13] at H
    exact absurd H (by simp)
   rw [if_pos c13] at H
   have c13b0 : decide (0 ≤ (rd l1 x16_1)) = true := decide_eq_true c13
   clear c13
   by_cases c14 : (rd l1 x16_1) < (x5_1.length : Int)
   rotate_left
   ·rw [if_neg c14] at H
    exact absurd H (by simp)
   rw [if_pos c14] at H
   have c14b0 : decide ((rd l1 x16_1) < (x5_1.length : Int)) = true := decide_eq_true c14
   clear c14
   obtain ⟨y651, hy651⟩ : ∃ y_ : List Int, y_ = (x5_1.set ((rd l1 x16_1) : Int).toNat (wrap64 (x16_1 + 1))) := ⟨_, rfl⟩
   replace H : (impl_Board_numbers.l0 k1 y651 l1 (l1.length : Int) (wrap64 (x16_1 + 1))) = some r := by first | (rw [hy651]; with_reducible exact H) | (have H2_ := (Option.bind_some _ _).symm.trans H; rw [hy651]; with_reducible exact H2_) | (have H2_ := (Option.bind_some _ _).symm.trans H; with_reducible exact H2_) | with_reducible exact H | (rw [hy651]; exact H) | exact H
   have Ny651 := Aside0.mk hy651
   clear hy651
   have H' := Aside0.mk H
   clear H
   have p650 : 0 ≤ (x16_1 : Int) := of_decide_eq_true zad13
   have q650 : x16_1 < (l1.length : Int) := of_decide_eq_true zad13
   obtain ⟨ad650, e650, hx650_0⟩ := Kd.at_int HR1.out x16_1 p650 q650
   cases e650
   (first | replace hx650_0 := (HB.out.cell (World.block_lt_of_cell? w _ hx650_0)).trans hx650_0 | skip)
   replace p650 := eq_true p650
   replace q650 := eq_true q650
   have p15 : 0 ≤ ((rd l1 x16_1) : Int) := of_decide_eq_true zad13
   have q15 : ((rd l1 x16_1) : Int) < ((x5_1.length : Int) : Int) := of_decide_eq_true zad13
   obtain ⟨go15, co15, eo15, gb15, gl15, cl15, HG15⟩ := Kd.R_form HO_5.out (by omega)
   (first | cases eo15 | (injection eo15 with ea_ en_ ec_; (first | subst ea_ | (injection ea_ with ea_; subst ea_)); subst ec_; clear en_))
   have GB15 := Aside0.mk gb15
   have GG15 := Aside0.mk HG15
   clear gb15 gl15 HG15
   obtain ⟨hx15_0, hf15_0⟩ := Kd.R_celln 0 HO_5.out ((rd l1 x16_1) : Int) p15 q15
   replace p15 := eq_true p15
   replace q15 := eq_true q15
   have HP16 := Kd.R_putg HO_5.out ((rd l1 x16_1) : Int) (wrap64 (x16_1 + 1))
   go_wp2_with (first | ((with_reducible refine gate_store (t := 3) (p := 25) rfl ?_); refine store_event (t := 3) (p := 25) (v := ?vo_w17) (w1 := (wr.setCell ⟨go15, ((rd l1 x16_1) : Int).toNat, none⟩ (.int .i64 (wrap64 (x16_1 + 1))))) ?hg ?ho ?hn ?hr ?_; (case ho => rfl); (case hg => rfl); (case hn => rfl); (case hr => first | (go_simp; done) | (go_simp; rfl)); intro w17 hw; have hg : wr.grownBy w17 (some go15) := (by rw [hw]; exact HP16.2); have hp_ : Kd.R (Kd.int .i64) 3 w17 w.heap.size (fun _ => True) (.slice (some ⟨go15, 0, none⟩) x5_1.length co15) y651 := (by rw [hw, Ny651.out]; exact HP16.1); clear HP16; have n0_ := Aside0.mk (hp_); have n1_ := Aside0.mk (blk_grown (g := gb646) (o := .cells #[.int .i64 a0_0, .int .i64 a0_1, .slice A0_2 l0_2.length c0_2] 30 (0, 0)) zad16 hg (Kd.R_ne HO_5.out BK646.out (by decide))); have n2_ := Aside0.mk ((by rw [hw]; exact below_set (HB.out) GB15.out : Below w.heap.size w w17)); clear HO_5; clear BK646; clear HB; have HO_5 := n0_; have BK646 := n1_; have HB := n2_; clear n0_ n1_ n2_; clear hg hw hp_))
   go_roundg k1
   case measure => have := HK1.out; omega
   case rel => exact ⟨(y651), (wrap64 (x16_1 + 1)), zad21, H', ⟨by have := HK1.out; omega⟩, ⟨by (with_reducible repeat (first | apply Kd.R_alloc | apply Kd.R_drewN | apply Kd.R_drew)); exact HO_5.out⟩, ⟨zad16⟩, ⟨zad12⟩⟩

/-! ### impl_NumbersOfWalk: function 30 -/
def impl_NumbersOfWalk.f (k : Nat) (a0_0 : Int) (a0_1 : Int) (l0_2 : List Int) (a1_0 : Int) (a1_1 : Int) (l2 : List Int) : Option (List Int × Bool) := (impl_graphOf.f k a0_0 a0_1 l0_2 a1_0 a1_1).bind fun bt654 => (if bt654.2.2 = true then ((impl_graph_isWalk.f k a0_0 a0_1 l0_2 a1_0 a1_1 bt654.1 bt654.2.1 l2).bind fun t663 => (if t663 = true then ((impl_Board_numbers.f k a0_0 a0_1 l0_2 l2).bind fun t664 => (some (t664, true))) else (some (([] : List Int), false)))) else (some (([] : List Int), false)))
set_option maxHeartbeats 8000000 in
set_option maxRecDepth 100000 in
theorem impl_NumbersOfWalk.calls (k : Nat) (a0_0 : Int) (a0_1 : Int) (A0_2 : Option Addr) (c0_2 : Nat) (l0_2 : List Int) (a1_0 : Int) (a1_1 : Int) (A2 : Option Addr) (c2 : Nat) (l2 : List Int) (r1 : List Int) (r2 : Bool) (w : World) (hr0_2 : Kd.C (Kd.int .i64) w A0_2 l0_2.length l0_2) (hc0_2 : l0_2.length ≤ c0_2) (hr2 : Kd.C (Kd.int .i64) w A2 l2.length l2) (hc2 : l2.length ≤ c2) (h : impl_NumbersOfWalk.f k a0_0 a0_1 l0_2 a1_0 a1_1 l2 = some (r1, r2)) :
  Calls Try.prog 30 #[.agg #[.int .i64 a0_0, .int .i64 a0_1, .slice A0_2 l0_2.length c0_2], .agg #[.int .i64 a1_0, .int .i64 a1_1], .slice A2 l2.length c2] w fun e w' => ∃ v0_ : Value, e = .returned (.tuple #[v0_, .bool r2]) ∧ Kd.R (Kd.int .i64) 3 w' w.heap.size (fun _ => True) v0_ r1 ∧ Below w.heap.size w w' := by
 have hu30 := Try.underlying30
 have hu32 := Try.underlying32
 have HR0_2 := Aside0.mk hr0_2
 have HC0_2 := Aside0.mk hc0_2
 clear hr0_2 hc0_2
 have HR2 := Aside0.mk hr2
 have HC2 := Aside0.mk hc2
 clear hr2 hc2
 have HB := Aside0.mk (Below.refl w.heap.size w)
 have H : ((impl_graphOf.f k a0_0 a0_1 l0_2 a1_0 a1_1).bind fun bt654 => (if bt654.2.2 = true then ((impl_graph_isWalk.f k a0_0 a0_1 l0_2 a1_0 a1_1 bt654.1 bt654.2.1 l2).bind fun t663 => (if t663 = true then ((impl_Board_numbers.f k a0_0 a0_1 l0_2 l2).bind fun t664 => (some (t664, true))) else (some (([] : List Int), false)))) else (some (([] : List Int), false)))) = some (r1, r2) := h
 clear h
 replace H := Option.bind_eq_some_iff.mp H
 obtain ⟨⟨t654, t657, t662⟩, A40, H⟩ := H
 replace H : (if t662 = true then ((impl_graph_isWalk.f k a0_0 a0_1 l0_2 a1_0 a1_1 t654 t657 l2).bind fun t663 => (if t663 = true then ((impl_Board_numbers.f k a0_0 a0_1 l0_2 l2).bind fun t664 => (some (t664, true))) else (some (([] : List Int), false)))) else (some (([] : List Int), false))) = some (r1, r2) := H
 have A4 := Aside0.mk A40
 clear A40
 by_cases c5 : t662 = true
 rotate_left
 ·replace c5 := Bool.eq_false_iff.mpr c5
  subst c5
  have H1 : (some (([] : List Int), false)) = some (r1, r2) := by rw [if_neg (show ¬ (false = true) by decide)] at H; exact H
  clear H
  have H := H1
  clear H1
  simp only [Option.some.injEq, Prod.mk.injEq] at H
  obtain ⟨rfl, rfl⟩ := H
  go_enter Try.func30, Try.ntmps30
  go_wp2_with (first | ((with_reducible refine gate_dst (N := 3) rfl ?_); refine box_event ?hg (N := 3) ?hd (cs := #[.int .i64 a0_0, .int .i64 a0_1, .slice A0_2 l0_2.length c0_2]) (t := 30) ?hr ?_; (case hd => rfl); (case hg => rfl); (case hr => first | (go_simp; done) | (go_simp; rfl)); intro gb652 hg w30 hbox hb; have n0_ := Aside0.mk (below_step zad4 hb); have n1_ := Aside0.mk (hbox); have n2_ := Aside0.mk ((zad27 : w.heap.size ≤ gb652)); have n3_ := Aside0.mk ((zad27 : w.heap.size ≤ gb652)); clear HB; have HB := n0_; have BK652 := n1_; have GW652 := n2_; have GE652 := n3_; clear n0_ n1_ n2_ n3_; clear hb hbox hg) | ((with_reducible refine gate_dst (N := 4) rfl ?_); refine box_event ?hg (N := 4) ?hd (cs := #[.int .i64 a1_0, .int .i64 a1_1]) (t := 32) ?hr ?_; (case hd => rfl); (case hg => rfl); (case hr => first | (go_simp; done) | (go_simp; rfl)); intro gb653 hg w31 hbox hb; have n0_ := Aside0.mk (blk_below (g := gb652) (o := .cells #[.int .i64 a0_0, .int .i64 a0_1, .slice A0_2 l0_2.length c0_2] 30 (0, 0)) zad2 hb); have n1_ := Aside0.mk (below_step zad6 hb); have n2_ := Aside0.mk (hbox); have n3_ := Aside0.mk ((zad28 : w.heap.size ≤ gb653)); have n4_ := Aside0.mk ((zad28 : w.heap.size ≤ gb653)); have n5_ := Aside0.mk ((zad25 : gb652 ≠ gb653)); have n6_ := Aside0.mk ((zad26 : gb653 ≠ gb652)); clear BK652; clear HB; have BK652 := n0_; have HB := n1_; have BK653 := n2_; have GW653 := n3_; have GE653 := n4_; have NB652_653 := n5_; have NB653_652 := n6_; clear n0_ n1_ n2_ n3_ n4_ n5_ n6_; clear hb hbox hg; have hnb32 := NB652_653.out; have hnc32 := NB653_652.out; have hcz33_0 : w31.cell? ⟨gb652, 0, none⟩ = some (.int .i64 a0_0) := (blk_cell BK652.out 0).trans rfl; have hcz33_1 : w31.cell? ⟨gb652, 1, none⟩ = some (.int .i64 a0_1) := (blk_cell BK652.out 1).trans rfl; have hcz33_2 : w31.cell? ⟨gb652, 2, none⟩ = some (.slice A0_2 l0_2.length c0_2) := (blk_cell BK652.out 2).trans rfl; have hfz33_0 := blk_frozen BK652.out 0; have hfz33_1 := blk_frozen BK652.out 1; have hfz33_2 := blk_frozen BK652.out 2; have hcz34_0 : w31.cell? ⟨gb653, 0, none⟩ = some (.int .i64 a1_0) := (blk_cell BK653.out 0).trans rfl; have hcz34_1 : w31.cell? ⟨gb653, 1, none⟩ = some (.int .i64 a1_1) := (blk_cell BK653.out 1).trans rfl; have hfz34_0 := blk_frozen BK653.out 0; have hfz34_1 := blk_frozen BK653.out 1) | ((with_reducible refine gate_callee (f := 60) rfl ?_); refine goesL_ (some 13) rfl rfl Try.func60 (by kernel_rfl) rfl #[.agg #[.int .i64 a0_0, .int .i64 a0_1, .slice A0_2 l0_2.length c0_2], .agg #[.int .i64 a1_0, .int .i64 a1_1]] rfl zad11 ?_; (with_reducible refine (impl_graphOf.calls k a0_0 a0_1 _ _ l0_2 a1_0 a1_1 t654 t657 false _ ?side1 ?side2 A4.out).mono ?_); (case side1 => exact zad5); (case side2 => exact HC0_2.out); rintro e w35 ⟨v655, v658, pv661, rfl, hgp, ho0, ho1, hb⟩; refine ⟨_, rfl, ?_⟩; obtain rfl := hgp.2 rfl; have n0_ := Aside0.mk (Kd.R_lower ho0 (below_size zad1)); have n1_ := Aside0.mk (Kd.S_lower ho1 (below_size zad1)); have n2_ := Aside0.mk (blk_below (g := gb652) (o := .cells #[.int .i64 a0_0, .int .i64 a0_1, .slice A0_2 l0_2.length c0_2] 30 (0, 0)) zad2 hb); have n3_ := Aside0.mk (blk_below (g := gb653) (o := .cells #[.int .i64 a1_0, .int .i64 a1_1] 32 (0, 0)) zad9 hb); have n4_ := Aside0.mk (below_step zad1 hb); clear BK652; clear BK653; clear HB; have HO656 := n0_; have HO659 := n1_; have BK652 := n2_; have BK653 := n3_; have HB := n4_; clear n0_ n1_ n2_ n3_ n4_; (try clear hb); (try clear hb2); (try clear hk); (try clear hi); (try clear ho0); (try clear ho1); (try clear hgp); (try clear hbox); (try clear hge); (try clear hna_); (try clear hnb_)))
  go_ret2
  exact ⟨_, zad20, zad19, zad1⟩
 subst c5
 have H1 : ((impl_graph_isWalk.f k a0_0 a0_1 l0_2 a1_0 a1_1 t654 t657 l2).bind fun t663 => (if t663 = true then ((impl_Board_numbers.f k a0_0 a0_1 l0_2 l2).bind fun t664 => (some (t664, true))) else (some (([] : List Int), false)))) = some (r1, r2) := by rw [if_pos rfl] at H; exact H
 clear H
 have H := H1
 clear H1
 replace H := Option.bind_eq_some_iff.mp H
 obtain ⟨t663, A60, H⟩ := H
 replace H : (if t663 = true then ((impl_Board_numbers.f k a0_0 a0_1 l0_2 l2).bind fun t664 => (some (t664, true))) else (some (([] : List Int), false))) = some (r1, r2) := H
 have A6 := Aside0.mk A60
 clear A60
 by_cases c7 : t663 = true
 rotate_left
 ·replace c7 := Bool.eq_false_iff.mpr c7
  subst c7
  have H1 : (some (([] : List Int), false)) = some (r1, r2) := by rw [if_neg (show ¬ (false = true) by decide)] at H; exact H
  clear H
  have H := H1
  clear H1
  simp only [Option.some.injEq, Prod.mk.injEq] at H
  obtain ⟨rfl, rfl⟩ := H
  go_enter Try.func30, Try.ntmps30
  go_wp2_with (first | ((with_reducible refine gate_dst (N := 3) rfl ?_); refine box_event ?hg (N := 3) ?hd (cs := #[.int .i64 a0_0, .int .i64 a0_1, .slice A0_2 l0_2.length c0_2]) (t := 30) ?hr ?_; (case hd => rfl); (case hg => rfl); (case hr => first | (go_simp; done) | (go_simp; rfl)); intro gb652 hg w21 hbox hb; have n0_ := Aside0.mk (below_step zad4 hb); have n1_ := Aside0.mk (hbox); have n2_ := Aside0.mk ((zad27 : w.heap.size ≤ gb652)); have n3_ := Aside0.mk ((zad27 : w.heap.size ≤ gb652)); clear HB; have HB := n0_; have BK652 := n1_; have GW652 := n2_; have GE652 := n3_; clear n0_ n1_ n2_ n3_; clear hb hbox hg) | ((with_reducible refine gate_dst (N := 4) rfl ?_); refine box_event ?hg (N := 4) ?hd (cs := #[.int .i64 a1_0, .int .i64 a1_1]) (t := 32) ?hr ?_; (case hd => rfl); (case hg => rfl); (case hr => first | (go_simp; done) | (go_simp; rfl)); intro gb653 hg w22 hbox hb; have n0_ := Aside0.mk (blk_below (g := gb652) (o := .cells #[.int .i64 a0_0, .int .i64 a0_1, .slice A0_2 l0_2.length c0_2] 30 (0, 0)) zad2 hb); have n1_ := Aside0.mk (below_step zad6 hb); have n2_ := Aside0.mk (hbox); have n3_ := Aside0.mk ((zad28 : w.heap.size ≤ gb653)); have n4_ := Aside0.mk ((zad28 : w.heap.size ≤ gb653)); have n5_ := Aside0.mk ((zad25 : gb652 ≠ gb653)); have n6_ := Aside0.mk ((zad26 : gb653 ≠ gb652)); clear BK652; clear HB; have BK652 := n0_; have HB := n1_; have BK653 := n2_; have GW653 := n3_; have GE653 := n4_; have NB652_653 := n5_; have NB653_652 := n6_; clear n0_ n1_ n2_ n3_ n4_ n5_ n6_; clear hb hbox hg; have hnb23 := NB652_653.out; have hnc23 := NB653_652.out; have hcz24_0 : w22.cell? ⟨gb652, 0, none⟩ = some (.int .i64 a0_0) := (blk_cell BK652.out 0).trans rfl; have hcz24_1 : w22.cell? ⟨gb652, 1, none⟩ = some (.int .i64 a0_1) := (blk_cell BK652.out 1).trans rfl; have hcz24_2 : w22.cell? ⟨gb652, 2, none⟩ = some (.slice A0_2 l0_2.length c0_2) := (blk_cell BK652.out 2).trans rfl; have hfz24_0 := blk_frozen BK652.out 0; have hfz24_1 := blk_frozen BK652.out 1; have hfz24_2 := blk_frozen BK652.out 2; have hcz25_0 : w22.cell? ⟨gb653, 0, none⟩ = some (.int .i64 a1_0) := (blk_cell BK653.out 0).trans rfl; have hcz25_1 : w22.cell? ⟨gb653, 1, none⟩ = some (.int .i64 a1_1) := (blk_cell BK653.out 1).trans rfl; have hfz25_0 := blk_frozen BK653.out 0; have hfz25_1 := blk_frozen BK653.out 1) | ((with_reducible refine gate_callee (f := 60) rfl ?_); refine goesL_ (some 13) rfl rfl Try.func60 (by kernel_rfl) rfl #[.agg #[.int .i64 a0_0, .int .i64 a0_1, .slice A0_2 l0_2.length c0_2], .agg #[.int .i64 a1_0, .int .i64 a1_1]] rfl zad11 ?_; (with_reducible refine (impl_graphOf.calls k a0_0 a0_1 _ _ l0_2 a1_0 a1_1 t654 t657 true _ ?side1 ?side2 A4.out).mono ?_); (case side1 => exact zad5); (case side2 => exact HC0_2.out); rintro e w26 ⟨v655, v658, pv661, rfl, hgp, ho0, ho1, hb⟩; refine ⟨_, rfl, ?_⟩; obtain ⟨gb660, rfl, hbox, hge⟩ := hgp.1 rfl; have n0_ := Aside0.mk (Kd.R_lower ho0 (below_size zad1)); have n1_ := Aside0.mk (Kd.S_lower ho1 (below_size zad1)); have n2_ := Aside0.mk (blk_below (g := gb652) (o := .cells #[.int .i64 a0_0, .int .i64 a0_1, .slice A0_2 l0_2.length c0_2] 30 (0, 0)) zad2 hb); have n3_ := Aside0.mk (blk_below (g := gb653) (o := .cells #[.int .i64 a1_0, .int .i64 a1_1] 32 (0, 0)) zad9 hb); have n4_ := Aside0.mk (hbox); have n5_ := Aside0.mk ((Nat.le_trans (by exact (below_size zad1)) hge : w.heap.size ≤ gb660)); have n6_ := Aside0.mk ((Nat.le_trans (by exact (below_size zad1)) hge : w.heap.size ≤ gb660)); have n7_ := Aside0.mk ((Nat.ne_of_lt (Nat.lt_of_lt_of_le (blk_lt (g := gb652) (o := .cells #[.int .i64 a0_0, .int .i64 a0_1, .slice A0_2 l0_2.length c0_2] 30 (0, 0)) zad2) hge) : gb652 ≠ gb660)); have n8_ := Aside0.mk ((Nat.ne_of_gt (Nat.lt_of_lt_of_le (blk_lt (g := gb652) (o := .cells #[.int .i64 a0_0, .int .i64 a0_1, .slice A0_2 l0_2.length c0_2] 30 (0, 0)) zad2) hge) : gb660 ≠ gb652)); have n9_ := Aside0.mk ((Nat.ne_of_lt (Nat.lt_of_lt_of_le (blk_lt (g := gb653) (o := .cells #[.int .i64 a1_0, .int .i64 a1_1] 32 (0, 0)) zad9) hge) : gb653 ≠ gb660)); have n10_ := Aside0.mk ((Nat.ne_of_gt (Nat.lt_of_lt_of_le (blk_lt (g := gb653) (o := .cells #[.int .i64 a1_0, .int .i64 a1_1] 32 (0, 0)) zad9) hge) : gb660 ≠ gb653)); have n11_ := Aside0.mk (below_step zad1 hb); clear BK652; clear BK653; clear HB; have HO656 := n0_; have HO659 := n1_; have BK652 := n2_; have BK653 := n3_; have BK660 := n4_; have GW660 := n5_; have GE660 := n6_; have NB652_660 := n7_; have NB660_652 := n8_; have NB653_660 := n9_; have NB660_653 := n10_; have HB := n11_; clear n0_ n1_ n2_ n3_ n4_ n5_ n6_ n7_ n8_ n9_ n10_ n11_; (try clear hb); (try clear hb2); (try clear hk); (try clear hi); (try clear ho0); (try clear ho1); (try clear hgp); (try clear hbox); (try clear hge); (try clear hna_); (try clear hnb_); obtain ⟨Ao27, co27, eo27⟩ := Kd.R_slice HO656.out; subst eo27; obtain ⟨Ao28, co28, eo28⟩ := Kd.S_slice HO659.out; subst eo28) | (go_at_call 70; (with_reducible refine (impl_graph_isWalk.calls k gb660 a0_0 a0_1 A0_2 c0_2 l0_2 a1_0 a1_1 Ao27 co27 t654 Ao28 co28 t657 _ _ l2 false _ ?side1 ?side2 ?side3 ?side4 ?side5 ?side6 ?side7 ?side8 ?side9 A6.out).mono ?_); (case side1 => exact zad15); (case side2 => exact zad5); (case side3 => exact HC0_2.out); (case side4 => exact zad24); (case side5 => exact (Kd.R_reads' HO656.out).2.1); (case side6 => exact zad23); (case side7 => exact (Kd.S_reads' HO659.out).2.1); (case side8 => exact zad14); (case side9 => exact HC2.out); rintro e w29 ⟨rfl, hb⟩; have n0_ := Aside0.mk (Kd.R_below zad18 hb); have n1_ := Aside0.mk (Kd.S_below zad22 hb); have n2_ := Aside0.mk (blk_below (g := gb652) (o := .cells #[.int .i64 a0_0, .int .i64 a0_1, .slice A0_2 l0_2.length c0_2] 30 (0, 0)) zad2 hb); have n3_ := Aside0.mk (blk_below (g := gb653) (o := .cells #[.int .i64 a1_0, .int .i64 a1_1] 32 (0, 0)) zad9 hb); have n4_ := Aside0.mk (blk_below (g := gb660) (o := .cells #[.int .i64 a0_0, .int .i64 a0_1, .slice A0_2 l0_2.length c0_2, .int .i64 a1_0, .int .i64 a1_1, .slice Ao27 t654.length co27, .slice Ao28 t657.length co28] 60 (0, 0)) zad15 hb); have n5_ := Aside0.mk (below_step zad8 hb); clear HO656; clear HO659; clear BK652; clear BK653; clear BK660; clear HB; have HO656 := n0_; have HO659 := n1_; have BK652 := n2_; have BK653 := n3_; have BK660 := n4_; have HB := n5_; clear n0_ n1_ n2_ n3_ n4_ n5_; (try clear hb); (try clear hb2); (try clear hk); (try clear hi); (try clear hna_); (try clear hnb_)))
  go_ret2
  exact ⟨_, zad20, zad19, zad8⟩
 subst c7
 have H1 : ((impl_Board_numbers.f k a0_0 a0_1 l0_2 l2).bind fun t664 => (some (t664, true))) = some (r1, r2) := by rw [if_pos rfl] at H; exact H
 clear H
 have H := H1
 clear H1
 replace H := Option.bind_eq_some_iff.mp H
 obtain ⟨t664, A80, H⟩ := H
 replace H : (some (t664, true)) = some (r1, r2) := H
 have A8 := Aside0.mk A80
 clear A80
 simp only [Option.some.injEq, Prod.mk.injEq] at H
 obtain ⟨rfl, rfl⟩ := H
 go_enter Try.func30, Try.ntmps30
 go_wp2_with (first | ((with_reducible refine gate_dst (N := 3) rfl ?_); refine box_event ?hg (N := 3) ?hd (cs := #[.int .i64 a0_0, .int .i64 a0_1, .slice A0_2 l0_2.length c0_2]) (t := 30) ?hr ?_; (case hd => rfl); (case hg => rfl); (case hr => first | (go_simp; done) | (go_simp; rfl)); intro gb652 hg w9 hbox hb; have n0_ := Aside0.mk (below_step zad4 hb); have n1_ := Aside0.mk (hbox); have n2_ := Aside0.mk ((zad27 : w.heap.size ≤ gb652)); have n3_ := Aside0.mk ((zad27 : w.heap.size ≤ gb652)); clear HB; have HB := n0_; have BK652 := n1_; have GW652 := n2_; have GE652 := n3_; clear n0_ n1_ n2_ n3_; clear hb hbox hg) | ((with_reducible refine gate_dst (N := 4) rfl ?_); refine box_event ?hg (N := 4) ?hd (cs := #[.int .i64 a1_0, .int .i64 a1_1]) (t := 32) ?hr ?_; (case hd => rfl); (case hg => rfl); (case hr => first | (go_simp; done) | (go_simp; rfl)); intro gb653 hg w10 hbox hb; have n0_ := Aside0.mk (blk_below (g := gb652) (o := .cells #[.int .i64 a0_0, .int .i64 a0_1, .slice A0_2 l0_2.length c0_2] 30 (0, 0)) zad2 hb); have n1_ := Aside0.mk (below_step zad6 hb); have n2_ := Aside0.mk (hbox); have n3_ := Aside0.mk ((zad28 : w.heap.size ≤ gb653)); have n4_ := Aside0.mk ((zad28 : w.heap.size ≤ gb653)); have n5_ := Aside0.mk ((zad25 : gb652 ≠ gb653)); have n6_ := Aside0.mk ((zad26 : gb653 ≠ gb652)); clear BK652; clear HB; have BK652 := n0_; have HB := n1_; have BK653 := n2_; have GW653 := n3_; have GE653 := n4_; have NB652_653 := n5_; have NB653_652 := n6_; clear n0_ n1_ n2_ n3_ n4_ n5_ n6_; clear hb hbox hg; have hnb11 := NB652_653.out; have hnc11 := NB653_652.out; have hcz12_0 : w10.cell? ⟨gb652, 0, none⟩ = some (.int .i64 a0_0) := (blk_cell BK652.out 0).trans rfl; have hcz12_1 : w10.cell? ⟨gb652, 1, none⟩ = some (.int .i64 a0_1) := (blk_cell BK652.out 1).trans rfl; have hcz12_2 : w10.cell? ⟨gb652, 2, none⟩ = some (.slice A0_2 l0_2.length c0_2) := (blk_cell BK652.out 2).trans rfl; have hfz12_0 := blk_frozen BK652.out 0; have hfz12_1 := blk_frozen BK652.out 1; have hfz12_2 := blk_frozen BK652.out 2; have hcz13_0 : w10.cell? ⟨gb653, 0, none⟩ = some (.int .i64 a1_0) := (blk_cell BK653.out 0).trans rfl; have hcz13_1 : w10.cell? ⟨gb653, 1, none⟩ = some (.int .i64 a1_1) := (blk_cell BK653.out 1).trans rfl; have hfz13_0 := blk_frozen BK653.out 0; have hfz13_1 := blk_frozen BK653.out 1) | ((with_reducible refine gate_callee (f := 60) rfl ?_); refine goesL_ (some 13) rfl rfl Try.func60 (by kernel_rfl) rfl #[.agg #[.int .i64 a0_0, .int .i64 a0_1, .slice A0_2 l0_2.length c0_2], .agg #[.int .i64 a1_0, .int .i64 a1_1]] rfl zad11 ?_; (with_reducible refine (impl_graphOf.calls k a0_0 a0_1 _ _ l0_2 a1_0 a1_1 t654 t657 true _ ?side1 ?side2 A4.out).mono ?_); (case side1 => exact zad5); (case side2 => exact HC0_2.out); rintro e w14 ⟨v655, v658, pv661, rfl, hgp, ho0, ho1, hb⟩; refine ⟨_, rfl, ?_⟩; obtain ⟨gb660, rfl, hbox, hge⟩ := hgp.1 rfl; have n0_ := Aside0.mk (Kd.R_lower ho0 (below_size zad1)); have n1_ := Aside0.mk (Kd.S_lower ho1 (below_size zad1)); have n2_ := Aside0.mk (blk_below (g := gb652) (o := .cells #[.int .i64 a0_0, .int .i64 a0_1, .slice A0_2 l0_2.length c0_2] 30 (0, 0)) zad2 hb); have n3_ := Aside0.mk (blk_below (g := gb653) (o := .cells #[.int .i64 a1_0, .int .i64 a1_1] 32 (0, 0)) zad9 hb); have n4_ := Aside0.mk (hbox); have n5_ := Aside0.mk ((Nat.le_trans (by exact (below_size zad1)) hge : w.heap.size ≤ gb660)); have n6_ := Aside0.mk ((Nat.le_trans (by exact (below_size zad1)) hge : w.heap.size ≤ gb660)); have n7_ := Aside0.mk ((Nat.ne_of_lt (Nat.lt_of_lt_of_le (blk_lt (g := gb652) (o := .cells #[.int .i64 a0_0, .int .i64 a0_1, .slice A0_2 l0_2.length c0_2] 30 (0, 0)) zad2) hge) : gb652 ≠ gb660)); have n8_ := Aside0.mk ((Nat.ne_of_gt (Nat.lt_of_lt_of_le (blk_lt (g := gb652) (o := .cells #[.int .i64 a0_0, .int .i64 a0_1, .slice A0_2 l0_2.length c0_2] 30 (0, 0)) zad2) hge) : gb660 ≠ gb652)); have n9_ := Aside0.mk ((Nat.ne_of_lt (Nat.lt_of_lt_of_le (blk_lt (g := gb653) (o := .cells #[.int .i64 a1_0, .int .i64 a1_1] 32 (0, 0)) zad9) hge) : gb653 ≠ gb660)); have n10_ := Aside0.mk ((Nat.ne_of_gt (Nat.lt_of_lt_of_le (blk_lt (g := gb653) (o := .cells #[.int .i64 a1_0, .int .i64 a1_1] 32 (0, 0)) zad9) hge) : gb660 ≠ gb653)); have n11_ := Aside0.mk (below_step zad1 hb); clear BK652; clear BK653; clear HB; have HO656 := n0_; have HO659 := n1_; have BK652 := n2_; have BK653 := n3_; have BK660 := n4_; have GW660 := n5_; have GE660 := n6_; have NB652_660 := n7_; have NB660_652 := n8_; have NB653_660 := n9_; have NB660_653 := n10_; have HB := n11_; clear n0_ n1_ n2_ n3_ n4_ n5_ n6_ n7_ n8_ n9_ n10_ n11_; (try clear hb); (try clear hb2); (try clear hk); (try clear hi); (try clear ho0); (try clear ho1); (try clear hgp); (try clear hbox); (try clear hge); (try clear hna_); (try clear hnb_); obtain ⟨Ao15, co15, eo15⟩ := Kd.R_slice HO656.out; subst eo15; obtain ⟨Ao16, co16, eo16⟩ := Kd.S_slice HO659.out; subst eo16) | (go_at_call 70; (with_reducible refine (impl_graph_isWalk.calls k gb660 a0_0 a0_1 A0_2 c0_2 l0_2 a1_0 a1_1 Ao15 co15 t654 Ao16 co16 t657 _ _ l2 true _ ?side1 ?side2 ?side3 ?side4 ?side5 ?side6 ?side7 ?side8 ?side9 A6.out).mono ?_); (case side1 => exact zad15); (case side2 => exact zad5); (case side3 => exact HC0_2.out); (case side4 => exact zad24); (case side5 => exact (Kd.R_reads' HO656.out).2.1); (case side6 => exact zad23); (case side7 => exact (Kd.S_reads' HO659.out).2.1); (case side8 => exact zad14); (case side9 => exact HC2.out); rintro e w17 ⟨rfl, hb⟩; have n0_ := Aside0.mk (Kd.R_below zad18 hb); have n1_ := Aside0.mk (Kd.S_below zad22 hb); have n2_ := Aside0.mk (blk_below (g := gb652) (o := .cells #[.int .i64 a0_0, .int .i64 a0_1, .slice A0_2 l0_2.length c0_2] 30 (0, 0)) zad2 hb); have n3_ := Aside0.mk (blk_below (g := gb653) (o := .cells #[.int .i64 a1_0, .int .i64 a1_1] 32 (0, 0)) zad9 hb); have n4_ := Aside0.mk (blk_below (g := gb660) (o := .cells #[.int .i64 a0_0, .int .i64 a0_1, .slice A0_2 l0_2.length c0_2, .int .i64 a1_0, .int .i64 a1_1, .slice Ao15 t654.length co15, .slice Ao16 t657.length co16] 60 (0, 0)) zad15 hb); have n5_ := Aside0.mk (below_step zad8 hb); clear HO656; clear HO659; clear BK652; clear BK653; clear BK660; clear HB; have HO656 := n0_; have HO659 := n1_; have BK652 := n2_; have BK653 := n3_; have BK660 := n4_; have HB := n5_; clear n0_ n1_ n2_ n3_ n4_ n5_; (try clear hb); (try clear hb2); (try clear hk); (try clear hi); (try clear hna_); (try clear hnb_); have hnb18 := NB652_660.out; have hnc18 := NB660_652.out; have hcz19_0 : w17.cell? ⟨gb652, 0, none⟩ = some (.int .i64 a0_0) := (blk_cell BK652.out 0).trans rfl; have hcz19_1 : w17.cell? ⟨gb652, 1, none⟩ = some (.int .i64 a0_1) := (blk_cell BK652.out 1).trans rfl; have hcz19_2 : w17.cell? ⟨gb652, 2, none⟩ = some (.slice A0_2 l0_2.length c0_2) := (blk_cell BK652.out 2).trans rfl; have hfz19_0 := blk_frozen BK652.out 0; have hfz19_1 := blk_frozen BK652.out 1; have hfz19_2 := blk_frozen BK652.out 2) | ((with_reducible refine gate_callee (f := 71) rfl ?_); refine goesL_ (some 26) rfl rfl Try.func71 (by kernel_rfl) rfl #[.agg #[.int .i64 a0_0, .int .i64 a0_1, .slice A0_2 l0_2.length c0_2], .slice A2 l2.length c2] rfl zad11 ?_; (with_reducible refine (impl_Board_numbers.calls k a0_0 a0_1 _ _ l0_2 _ _ l2 t664 _ ?side1 ?side2 ?side3 ?side4 A8.out).mono ?_); (case side1 => exact zad5); (case side2 => exact HC0_2.out); (case side3 => exact zad14); (case side4 => exact HC2.out); rintro e w20 ⟨v665, rfl, ho0, hb⟩; refine ⟨_, rfl, ?_⟩; have n0_ := Aside0.mk (Kd.R_elder' zad18 (Kd.R_base ho0) hb); have n1_ := Aside0.mk (Kd.S_elder' zad22 (Kd.R_base ho0) hb); have n2_ := Aside0.mk (Kd.R_lower (Kd.R_new' ho0 (Kd.R_lt zad18)) (below_size zad8)); have n3_ := Aside0.mk (blk_below (g := gb652) (o := .cells #[.int .i64 a0_0, .int .i64 a0_1, .slice A0_2 l0_2.length c0_2] 30 (0, 0)) zad2 hb); have n4_ := Aside0.mk (blk_below (g := gb653) (o := .cells #[.int .i64 a1_0, .int .i64 a1_1] 32 (0, 0)) zad9 hb); have n5_ := Aside0.mk (blk_below (g := gb660) (o := .cells #[.int .i64 a0_0, .int .i64 a0_1, .slice A0_2 l0_2.length c0_2, .int .i64 a1_0, .int .i64 a1_1, .slice Ao15 t654.length co15, .slice Ao16 t657.length co16] 60 (0, 0)) zad15 hb); have n6_ := Aside0.mk (below_step zad8 hb); clear HO656; clear HO659; clear BK652; clear BK653; clear BK660; clear HB; have HO656 := n0_; have HO659 := n1_; have HO666 := n2_; have BK652 := n3_; have BK653 := n4_; have BK660 := n5_; have HB := n6_; clear n0_ n1_ n2_ n3_ n4_ n5_ n6_; (try clear hb); (try clear hb2); (try clear hk); (try clear hi); (try clear ho0); (try clear hna_); (try clear hnb_)))
 go_ret2
 exact ⟨_, zad20, by (with_reducible repeat (first | apply Kd.R_alloc | apply Kd.R_drewN | apply Kd.R_drew)); exact Kd.R_mono HO666.out (fun _ hk => trivial), zad8⟩

end Go.Proofs.Ythoklbeenjppbaa.Q

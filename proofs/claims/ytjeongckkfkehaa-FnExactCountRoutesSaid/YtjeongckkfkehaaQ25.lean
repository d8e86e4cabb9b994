/- Written by a program of this session: functions of the translation as plain Lean functions, each with a proof that the call does what the plain function says; the conditions stand in each theorem. -/
import Derived.Test.YtjeongckkfkehaaQ0
import Derived.Test.YtjeongckkfkehaaQ13
import Derived.Test.YtjeongckkfkehaaQ22
import Derived.Test.YtjeongckkfkehaaQ23
namespace Go.Proofs.Ytjeongckkfkehaa.Q
open Go.RowKit Go.Proofs.YtjeongckkfkehaaW.PrintWords Go.Proofs.YtjeongckkfkehaaW.PrintLast Go.Proofs.YtjeongckkfkehaaW.PrintMore
attribute [local go_sem] max2_int min2_int max_two min_two max_three min_three max_four min_four   -- for this text's walks alone
set_option linter.unusedVariables false
set_option linter.unusedSimpArgs false

theorem zz1 {p : Prop} (h : p := by repeat (first | (with_reducible first | exact HB.out | apply below_alloc | apply pw_below_drewN | apply below_drew1 | refine below_set ?_ GE605.out | refine below_set ?_ GE606.out) | exact HB.out)) : p := h
theorem zz2 {p : Prop} (h : p := by (with_reducible repeat (first | refine blk_drewN ?_ _ | refine blk_drew ?_ | refine blk_alloc ?_ _)); exact BK605.out) : p := h
theorem zz3 {p : Prop} (h : p := by first | (with_reducible assumption) | assumption) : p := h
theorem zz4 {p : Prop} (h : p := by repeat (first | (with_reducible first | exact HB.out | apply below_alloc | apply pw_below_drewN | apply below_drew1 | refine below_set ?_ GE605.out) | exact HB.out)) : p := h
theorem zz5 {p : Prop} (h : p := by repeat (first | (with_reducible first | exact HB.out | apply below_alloc | apply pw_below_drewN | apply below_drew1) | exact HB.out)) : p := h
theorem zz6 {p : Prop} (h : p := by (with_reducible repeat (first | refine blk_drewN ?_ _ | refine blk_drew ?_ | refine blk_alloc ?_ _)); exact BK606.out) : p := h
theorem zz7 {p : Prop} (h : p := by repeat (first | exact (Kd.C_below HR0_2.out HB.out) | (with_reducible refine Kd.C_alloc ?_ _) | (with_reducible refine Kd.C_drewN ?_ _) | (with_reducible refine Kd.C_drew ?_))) : p := h
theorem zz9 {p : Prop} (h : p := by (try simp only [List.map_toArray, List.map_cons, List.map_nil]); first | done | rfl | (simp only [List.length_drop, List.length_take]; rfl)) : p := h
theorem zz10 {p : Prop} (h : p := by (try simp only [hl11_1]); (try simp only [hl11_2]); (with_reducible repeat (first | refine blk_drewN ?_ _ | refine blk_drew ?_ | refine blk_alloc ?_ _)); exact BK606.out) : p := h
theorem zz11 {p : Prop} (h : p := by (try simp only [hl11_1]); (try simp only [hl11_2]); (with_reducible repeat (first | refine blk_drewN ?_ _ | refine blk_drew ?_ | refine blk_alloc ?_ _)); exact BK605.out) : p := h
theorem zz12 {p : Prop} (h : p := by (try simp only [hl11_1]); (try simp only [hl11_2]); (with_reducible repeat (first | apply Kd.R_alloc | apply Kd.R_drewN | apply Kd.R_drew)); exact HO_10.out) : p := h
theorem zz13 {p : Prop} (h : p := by first | rfl | (simp; done) | (simp [*]; done)) : p := h
theorem zz14 {p : Prop} (h : p := by (with_reducible repeat (first | apply Kd.R_alloc | apply Kd.R_drewN | apply Kd.R_drew)); exact HO610.out) : p := h
theorem zz15 {p : Prop} (h : p := by (try simp only [hl11_1]); (try simp only [hl11_2]); (try simp only [hl11_3]); (with_reducible repeat (first | refine blk_drewN ?_ _ | refine blk_drew ?_ | refine blk_alloc ?_ _)); exact BK606.out) : p := h
theorem zz16 {p : Prop} (h : p := by (try simp only [hl11_1]); (try simp only [hl11_2]); (try simp only [hl11_3]); (with_reducible repeat (first | refine blk_drewN ?_ _ | refine blk_drew ?_ | refine blk_alloc ?_ _)); exact BK605.out) : p := h
theorem zz17 {p : Prop} (h : p := by first | rfl | (simp [errW_none, errW_some] <;> rfl) | (simp [*, errW_none, errW_some] <;> rfl)) : p := h
theorem zz18 {p : Prop} (h : p := by (try simp only [hl11_1]); (try simp only [hl11_2]); (with_reducible repeat (first | apply Kd.R_alloc | apply Kd.R_drewN | apply Kd.R_drew)); exact HO_46.out) : p := h
theorem zz19 {p : Prop} (h : p := by (try simp only [hl11_1]); (with_reducible repeat (first | apply Kd.R_alloc | apply Kd.R_drewN | apply Kd.R_drew)); exact HO_10.out) : p := h
theorem zz20 {p : Prop} (h : p := by rw [hg]; exact Nat.ne_of_lt (blk_lt (g := gb605) (o := .cells #[.int .i64 a0_0, .int .i64 a0_1, .slice A0_2 l0_2.length c0_2] 30 (0, 0)) zz2)) : p := h
theorem zz21 {p : Prop} (h : p := by rw [hg]; exact Nat.ne_of_gt (blk_lt (g := gb605) (o := .cells #[.int .i64 a0_0, .int .i64 a0_1, .slice A0_2 l0_2.length c0_2] 30 (0, 0)) zz2)) : p := h
theorem zz22 {p : Prop} (h : p := by rw [hg]; exact (below_size zz5)) : p := h
theorem zz23 {p : Prop} (h : p := by rw [hg]; exact (below_size zz4)) : p := h
/-! ### spec_CountRoutes: function 30 -/
mutual
def spec_CountRoutes.l0 : Nat → Int → List Int → List Int → Int → Int → Int → List Int → Int → Int → Option (Int × Bool)
 | 0, _, _, _, _, _, _, _, _, _ => none
 | k + 1, x3, x10, x11, x12, x606000, x606001, x606002, x607000, x607001 => if 0 ≤ x3 then (if x3 < (x10.length : Int) then (if x12 < (rd x10 x3) then (spec_CountRoutes.l1 k x3 x10 x11 x12 x10 (x10.length : Int) 0 x606000 x606001 x606002 x607000 x607001) else (if x3 < (x11.length : Int) then (some (rd x11 x3, true)) else (none))) else (none)) else (none)
def spec_CountRoutes.l1 : Nat → Int → List Int → List Int → Int → List Int → Int → Int → Int → Int → List Int → Int → Int → Option (Int × Bool)
 | 0, _, _, _, _, _, _, _, _, _, _, _, _ => none
 | k + 1, x3, x10, x11, x12, x46, x47, x48, x606000, x606001, x606002, x607000, x607001 => if x48 < x47 then (if 0 ≤ x48 then (if x48 < (x46.length : Int) then (if (rd x46 x48) = x12 then ((spec_boLeaps.f k x606000 x606001 x606002 x607000 x607001 x48).bind fun t619 => (spec_CountRoutes.l2 k x3 x10 x11 x12 x48 x46 x47 x48 t619 (t619.length : Int) 0 x606000 x606001 x606002 x607000 x607001)) else (spec_CountRoutes.l1 k x3 x10 x11 x12 x46 x47 (wrap64 (x48 + 1)) x606000 x606001 x606002 x607000 x607001)) else (none)) else (none)) else (spec_CountRoutes.l0 k x3 x10 x11 (wrap64 (x12 + 1)) x606000 x606001 x606002 x607000 x607001)
def spec_CountRoutes.l2 : Nat → Int → List Int → List Int → Int → Int → List Int → Int → Int → List Int → Int → Int → Int → Int → List Int → Int → Int → Option (Int × Bool)
 | 0, _, _, _, _, _, _, _, _, _, _, _, _, _, _, _, _ => none
 | k + 1, x3, x10, x11, x12, x13, x46, x47, x48, x59, x60, x61, x606000, x606001, x606002, x607000, x607001 => if x61 < x60 then (if 0 ≤ x61 then (if x61 < (x59.length : Int) then (if 0 ≤ (rd x59 x61) then (if (rd x59 x61) < (x10.length : Int) then (if (rd x10 (rd x59 x61)) = (wrap64 (x12 + 1)) then (if (rd x59 x61) < (x11.length : Int) then (if 0 ≤ x13 then (if x13 < (x11.length : Int) then (spec_CountRoutes.l2 k x3 x10 (x11.set ((rd x59 x61) : Int).toNat (wrap64 ((rd x11 (rd x59 x61)) + (rd x11 x13)))) x12 x13 x46 x47 x48 x59 x60 (wrap64 (x61 + 1)) x606000 x606001 x606002 x607000 x607001) else (none)) else (none)) else (none)) else (spec_CountRoutes.l2 k x3 x10 x11 x12 x13 x46 x47 x48 x59 x60 (wrap64 (x61 + 1)) x606000 x606001 x606002 x607000 x607001)) else (none)) else (none)) else (none)) else (none)) else (spec_CountRoutes.l1 k x3 x10 x11 x12 x46 x47 (wrap64 (x48 + 1)) x606000 x606001 x606002 x607000 x607001)
end
def spec_CountRoutes.f (k : Nat) (a0_0 : Int) (a0_1 : Int) (l0_2 : List Int) (a1_0 : Int) (a1_1 : Int) (a2 : Int) (a3 : Int) : Option (Int × Bool) := (spec_faAsked.f k a0_0 a0_1 l0_2 a1_0 a1_1 a2 a3).bind fun t607 => (if t607 = true then ((spec_faFrom.f k a0_0 a0_1 l0_2 a1_0 a1_1 a2).bind fun t608 => (if 0 ≤ a3 then (if a3 < (t608.length : Int) then (if (rd t608 a3) < 0 then (some (0, true)) else (if 0 ≤ (t608.length : Int) then (if ((t608.length : Int) : Int).toNat ≤ 35184372088832 then ((some (List.replicate ((t608.length : Int) : Int).toNat 0 : List Int)).bind fun y612 => (if 0 ≤ a2 then (if a2 < (y612.length : Int) then (spec_CountRoutes.l0 k a3 t608 (y612.set (a2 : Int).toNat 1) 0 a0_0 a0_1 l0_2 a1_0 a1_1) else (none)) else (none))) else (none)) else (none))) else (none)) else (none))) else (some (0, false)))
def spec_CountRoutes.T19 : Bool × List (List Nat × List Nat) := (true, [([], []), ([], []), ([0, 1], [0, 1]), ([2], [2]), ([], []), ([], []), ([4, 5], [4, 5]), ([6], [6]), ([3, 7], [3, 7]), ([0, 1, 0, 1, 2, 3, 4, 5, 6, 7, 8], [0, 1]), ([9, 8, 0, 1, 2, 3, 4, 5, 6, 7, 8], [8, 9])])
def spec_CountRoutes.B19 : List Nat := [0, 0, 3, 7, 0, 0, 48, 112, 255, 511, 1023]
theorem spec_CountRoutes.tab19 : rtab .any (opsOf Try.f30 19) = spec_CountRoutes.T19 := by kernel_rfl
theorem spec_CountRoutes.bits19 : waitsOk spec_CountRoutes.T19.2 spec_CountRoutes.B19 = true := by kernel_rfl
set_option maxHeartbeats 8000000 in
set_option maxRecDepth 100000 in
theorem spec_CountRoutes.calls (k : Nat) (a0_0 : Int) (a0_1 : Int) (A0_2 : Option Addr) (c0_2 : Nat) (l0_2 : List Int) (a1_0 : Int) (a1_1 : Int) (a2 : Int) (a3 : Int) (r1 : Int) (r2 : Bool) (w : World) (hr0_2 : Kd.C (Kd.int .i64) w A0_2 l0_2.length l0_2) (hc0_2 : l0_2.length ≤ c0_2) (h : spec_CountRoutes.f k a0_0 a0_1 l0_2 a1_0 a1_1 a2 a3 = some (r1, r2)) :
  Calls Try.prog 30 #[.agg #[.int .i64 a0_0, .int .i64 a0_1, .slice A0_2 l0_2.length c0_2], .agg #[.int .i64 a1_0, .int .i64 a1_1], .int .i64 a2, .int .i64 a3] w fun e w' => e = .returned (.tuple #[.int .i64 r1, .bool r2]) ∧ Below w.heap.size w w' := by
 have hu30 := Try.underlying30
 have hu32 := Try.underlying32
 have HR0_2 := Aside0.mk hr0_2
 have HC0_2 := Aside0.mk hc0_2
 clear hr0_2 hc0_2
 have HB := Aside0.mk (Below.refl w.heap.size w)
 have H : ((spec_faAsked.f k a0_0 a0_1 l0_2 a1_0 a1_1 a2 a3).bind fun t607 => (if t607 = true then ((spec_faFrom.f k a0_0 a0_1 l0_2 a1_0 a1_1 a2).bind fun t608 => (if 0 ≤ a3 then (if a3 < (t608.length : Int) then (if (rd t608 a3) < 0 then (some (0, true)) else (if 0 ≤ (t608.length : Int) then (if ((t608.length : Int) : Int).toNat ≤ 35184372088832 then ((some (List.replicate ((t608.length : Int) : Int).toNat 0 : List Int)).bind fun y612 => (if 0 ≤ a2 then (if a2 < (y612.length : Int) then (spec_CountRoutes.l0 k a3 t608 (y612.set (a2 : Int).toNat 1) 0 a0_0 a0_1 l0_2 a1_0 a1_1) else (none)) else (none))) else (none)) else (none))) else (none)) else (none))) else (some (0, false)))) = some (r1, r2) := h
 clear h
 replace H := Option.bind_eq_some_iff.mp H
 obtain ⟨t607, A50, H⟩ := H
 replace H : (if t607 = true then ((spec_faFrom.f k a0_0 a0_1 l0_2 a1_0 a1_1 a2).bind fun t608 => (if 0 ≤ a3 then (if a3 < (t608.length : Int) then (if (rd t608 a3) < 0 then (some (0, true)) else (if 0 ≤ (t608.length : Int) then (if ((t608.length : Int) : Int).toNat ≤ 35184372088832 then ((some (List.replicate ((t608.length : Int) : Int).toNat 0 : List Int)).bind fun y612 => (if 0 ≤ a2 then (if a2 < (y612.length : Int) then (spec_CountRoutes.l0 k a3 t608 (y612.set (a2 : Int).toNat 1) 0 a0_0 a0_1 l0_2 a1_0 a1_1) else (none)) else (none))) else (none)) else (none))) else (none)) else (none))) else (some (0, false))) = some (r1, r2) := H
 have A5 := Aside0.mk A50
 clear A50
 by_cases c6 : t607 = true
 rotate_left
 ·replace c6 := Bool.eq_false_iff.mpr c6
  subst c6
  have H1 : (some (0, false)) = some (r1, r2) := by rw [if_neg (show ¬ (false = true) by decide)] at H; exact H
  clear H
  have H := H1
  clear H1
  simp only [Option.some.injEq, Prod.mk.injEq] at H
  obtain ⟨rfl, rfl⟩ := H
  go_enter Try.func30, Try.ntmps30
  go_wp2_with (first | ((with_reducible refine gate_dst (N := 4) rfl ?_); refine box_event ?hg (N := 4) ?hd (cs := #[.int .i64 a0_0, .int .i64 a0_1, .slice A0_2 l0_2.length c0_2]) (t := 30) ?hr ?_; (case hd => rfl); (case hg => rfl); (case hr => first | (go_simp; done) | (go_simp; rfl)); intro gb605 hg w66 hbox hb; have n0_ := Aside0.mk (below_step zz5 hb); have n1_ := Aside0.mk (hbox); have n2_ := Aside0.mk ((zz22 : w.heap.size ≤ gb605)); have n3_ := Aside0.mk ((zz22 : w.heap.size ≤ gb605)); clear HB; have HB := n0_; have BK605 := n1_; have GW605 := n2_; have GE605 := n3_; clear n0_ n1_ n2_ n3_; clear hb hbox hg) | ((with_reducible refine gate_dst (N := 5) rfl ?_); refine box_event ?hg (N := 5) ?hd (cs := #[.int .i64 a1_0, .int .i64 a1_1]) (t := 32) ?hr ?_; (case hd => rfl); (case hg => rfl); (case hr => first | (go_simp; done) | (go_simp; rfl)); intro gb606 hg w67 hbox hb; have n0_ := Aside0.mk (blk_below (g := gb605) (o := .cells #[.int .i64 a0_0, .int .i64 a0_1, .slice A0_2 l0_2.length c0_2] 30 (0, 0)) zz2 hb); have n1_ := Aside0.mk (below_step zz4 hb); have n2_ := Aside0.mk (hbox); have n3_ := Aside0.mk ((zz23 : w.heap.size ≤ gb606)); have n4_ := Aside0.mk ((zz23 : w.heap.size ≤ gb606)); have n5_ := Aside0.mk ((zz20 : gb605 ≠ gb606)); have n6_ := Aside0.mk ((zz21 : gb606 ≠ gb605)); clear BK605; clear HB; have BK605 := n0_; have HB := n1_; have BK606 := n2_; have GW606 := n3_; have GE606 := n4_; have NB605_606 := n5_; have NB606_605 := n6_; clear n0_ n1_ n2_ n3_ n4_ n5_ n6_; clear hb hbox hg; have hnb68 := NB605_606.out; have hnc68 := NB606_605.out; have hcz69_0 : w67.cell? ⟨gb605, 0, none⟩ = some (.int .i64 a0_0) := (blk_cell BK605.out 0).trans rfl; have hcz69_1 : w67.cell? ⟨gb605, 1, none⟩ = some (.int .i64 a0_1) := (blk_cell BK605.out 1).trans rfl; have hcz69_2 : w67.cell? ⟨gb605, 2, none⟩ = some (.slice A0_2 l0_2.length c0_2) := (blk_cell BK605.out 2).trans rfl; have hfz69_0 := blk_frozen BK605.out 0; have hfz69_1 := blk_frozen BK605.out 1; have hfz69_2 := blk_frozen BK605.out 2; have hcz70_0 : w67.cell? ⟨gb606, 0, none⟩ = some (.int .i64 a1_0) := (blk_cell BK606.out 0).trans rfl; have hcz70_1 : w67.cell? ⟨gb606, 1, none⟩ = some (.int .i64 a1_1) := (blk_cell BK606.out 1).trans rfl; have hfz70_0 := blk_frozen BK606.out 0; have hfz70_1 := blk_frozen BK606.out 1) | ((with_reducible refine gate_callee (f := 64) rfl ?_); refine goesL_ (some 21) rfl rfl Try.func64 (by kernel_rfl) rfl #[.agg #[.int .i64 a0_0, .int .i64 a0_1, .slice A0_2 l0_2.length c0_2], .agg #[.int .i64 a1_0, .int .i64 a1_1], .int .i64 a2, .int .i64 a3] rfl zz9 ?_; (with_reducible refine (spec_faAsked.calls k a0_0 a0_1 _ _ l0_2 a1_0 a1_1 a2 a3 false _ ?side1 ?side2 A5.out).mono ?_); (case side1 => exact zz7); (case side2 => exact HC0_2.out); rintro e w71 ⟨rfl, hb⟩; refine ⟨_, rfl, ?_⟩; have n0_ := Aside0.mk (blk_below (g := gb605) (o := .cells #[.int .i64 a0_0, .int .i64 a0_1, .slice A0_2 l0_2.length c0_2] 30 (0, 0)) zz2 hb); have n1_ := Aside0.mk (blk_below (g := gb606) (o := .cells #[.int .i64 a1_0, .int .i64 a1_1] 32 (0, 0)) zz6 hb); have n2_ := Aside0.mk (below_step zz1 hb); clear BK605; clear BK606; clear HB; have BK605 := n0_; have BK606 := n1_; have HB := n2_; clear n0_ n1_ n2_; (try clear hb); (try clear hb2); (try clear hk); (try clear hi); (try clear hna_); (try clear hnb_)))
  go_ret2
  exact ⟨zz17, zz1⟩
 subst c6
 have H1 : ((spec_faFrom.f k a0_0 a0_1 l0_2 a1_0 a1_1 a2).bind fun t608 => (if 0 ≤ a3 then (if a3 < (t608.length : Int) then (if (rd t608 a3) < 0 then (some (0, true)) else (if 0 ≤ (t608.length : Int) then (if ((t608.length : Int) : Int).toNat ≤ 35184372088832 then ((some (List.replicate ((t608.length : Int) : Int).toNat 0 : List Int)).bind fun y612 => (if 0 ≤ a2 then (if a2 < (y612.length : Int) then (spec_CountRoutes.l0 k a3 t608 (y612.set (a2 : Int).toNat 1) 0 a0_0 a0_1 l0_2 a1_0 a1_1) else (none)) else (none))) else (none)) else (none))) else (none)) else (none))) = some (r1, r2) := by rw [if_pos rfl] at H; exact H
 clear H
 have H := H1
 clear H1
 replace H := Option.bind_eq_some_iff.mp H
 obtain ⟨t608, A70, H⟩ := H
 replace H : (if 0 ≤ a3 then (if a3 < (t608.length : Int) then (if (rd t608 a3) < 0 then (some (0, true)) else (if 0 ≤ (t608.length : Int) then (if ((t608.length : Int) : Int).toNat ≤ 35184372088832 then ((some (List.replicate ((t608.length : Int) : Int).toNat 0 : List Int)).bind fun y612 => (if 0 ≤ a2 then (if a2 < (y612.length : Int) then (spec_CountRoutes.l0 k a3 t608 (y612.set (a2 : Int).toNat 1) 0 a0_0 a0_1 l0_2 a1_0 a1_1) else (none)) else (none))) else (none)) else (none))) else (none)) else (none)) = some (r1, r2) := H
 have A7 := Aside0.mk A70
 clear A70
 by_cases c8 : 0 ≤ a3
 rotate_left
 ·rw [if_neg c8] at H
  exact absurd H (by simp)
 rw [if_pos c8] at H
 have c8b0 : decide (0 ≤ a3) = true := decide_eq_true c8
 clear c8
 by_cases c9 : a3 < (t608.length : Int)
 rotate_left
 ·rw [if_neg c9] at H
  exact absurd H (by simp)
 rw [if_pos c9] at H
 have c9b0 : decide (a3 < (t608.length : Int)) = true := decide_eq_true c9
 clear c9
 by_cases c10 : (rd t608 a3) < 0
 ·rw [if_pos c10] at H
  have c10b0 : decide ((rd t608 a3) < 0) = true := decide_eq_true c10
  clear c10
  simp only [Option.some.injEq, Prod.mk.injEq] at H
  obtain ⟨rfl, rfl⟩ := H
  go_enter Try.func30, Try.ntmps30
  go_wp2_with (first | ((with_reducible refine gate_dst (N := 4) rfl ?_); refine box_event ?hg (N := 4) ?hd (cs := #[.int .i64 a0_0, .int .i64 a0_1, .slice A0_2 l0_2.length c0_2]) (t := 30) ?hr ?_; (case hd => rfl); (case hg => rfl); (case hr => first | (go_simp; done) | (go_simp; rfl)); intro gb605 hg w11 hbox hb; have n0_ := Aside0.mk (below_step zz5 hb); have n1_ := Aside0.mk (hbox); have n2_ := Aside0.mk ((zz22 : w.heap.size ≤ gb605)); have n3_ := Aside0.mk ((zz22 : w.heap.size ≤ gb605)); clear HB; have HB := n0_; have BK605 := n1_; have GW605 := n2_; have GE605 := n3_; clear n0_ n1_ n2_ n3_; clear hb hbox hg) | ((with_reducible refine gate_dst (N := 5) rfl ?_); refine box_event ?hg (N := 5) ?hd (cs := #[.int .i64 a1_0, .int .i64 a1_1]) (t := 32) ?hr ?_; (case hd => rfl); (case hg => rfl); (case hr => first | (go_simp; done) | (go_simp; rfl)); intro gb606 hg w12 hbox hb; have n0_ := Aside0.mk (blk_below (g := gb605) (o := .cells #[.int .i64 a0_0, .int .i64 a0_1, .slice A0_2 l0_2.length c0_2] 30 (0, 0)) zz2 hb); have n1_ := Aside0.mk (below_step zz4 hb); have n2_ := Aside0.mk (hbox); have n3_ := Aside0.mk ((zz23 : w.heap.size ≤ gb606)); have n4_ := Aside0.mk ((zz23 : w.heap.size ≤ gb606)); have n5_ := Aside0.mk ((zz20 : gb605 ≠ gb606)); have n6_ := Aside0.mk ((zz21 : gb606 ≠ gb605)); clear BK605; clear HB; have BK605 := n0_; have HB := n1_; have BK606 := n2_; have GW606 := n3_; have GE606 := n4_; have NB605_606 := n5_; have NB606_605 := n6_; clear n0_ n1_ n2_ n3_ n4_ n5_ n6_; clear hb hbox hg; have hnb13 := NB605_606.out; have hnc13 := NB606_605.out; have hcz14_0 : w12.cell? ⟨gb605, 0, none⟩ = some (.int .i64 a0_0) := (blk_cell BK605.out 0).trans rfl; have hcz14_1 : w12.cell? ⟨gb605, 1, none⟩ = some (.int .i64 a0_1) := (blk_cell BK605.out 1).trans rfl; have hcz14_2 : w12.cell? ⟨gb605, 2, none⟩ = some (.slice A0_2 l0_2.length c0_2) := (blk_cell BK605.out 2).trans rfl; have hfz14_0 := blk_frozen BK605.out 0; have hfz14_1 := blk_frozen BK605.out 1; have hfz14_2 := blk_frozen BK605.out 2; have hcz15_0 : w12.cell? ⟨gb606, 0, none⟩ = some (.int .i64 a1_0) := (blk_cell BK606.out 0).trans rfl; have hcz15_1 : w12.cell? ⟨gb606, 1, none⟩ = some (.int .i64 a1_1) := (blk_cell BK606.out 1).trans rfl; have hfz15_0 := blk_frozen BK606.out 0; have hfz15_1 := blk_frozen BK606.out 1) | ((with_reducible refine gate_callee (f := 64) rfl ?_); refine goesL_ (some 21) rfl rfl Try.func64 (by kernel_rfl) rfl #[.agg #[.int .i64 a0_0, .int .i64 a0_1, .slice A0_2 l0_2.length c0_2], .agg #[.int .i64 a1_0, .int .i64 a1_1], .int .i64 a2, .int .i64 a3] rfl zz9 ?_; (with_reducible refine (spec_faAsked.calls k a0_0 a0_1 _ _ l0_2 a1_0 a1_1 a2 a3 true _ ?side1 ?side2 A5.out).mono ?_); (case side1 => exact zz7); (case side2 => exact HC0_2.out); rintro e w16 ⟨rfl, hb⟩; refine ⟨_, rfl, ?_⟩; have n0_ := Aside0.mk (blk_below (g := gb605) (o := .cells #[.int .i64 a0_0, .int .i64 a0_1, .slice A0_2 l0_2.length c0_2] 30 (0, 0)) zz2 hb); have n1_ := Aside0.mk (blk_below (g := gb606) (o := .cells #[.int .i64 a1_0, .int .i64 a1_1] 32 (0, 0)) zz6 hb); have n2_ := Aside0.mk (below_step zz1 hb); clear BK605; clear BK606; clear HB; have BK605 := n0_; have BK606 := n1_; have HB := n2_; clear n0_ n1_ n2_; (try clear hb); (try clear hb2); (try clear hk); (try clear hi); (try clear hna_); (try clear hnb_); have hcz17_0 : w16.cell? ⟨gb605, 0, none⟩ = some (.int .i64 a0_0) := (blk_cell BK605.out 0).trans rfl; have hcz17_1 : w16.cell? ⟨gb605, 1, none⟩ = some (.int .i64 a0_1) := (blk_cell BK605.out 1).trans rfl; have hcz17_2 : w16.cell? ⟨gb605, 2, none⟩ = some (.slice A0_2 l0_2.length c0_2) := (blk_cell BK605.out 2).trans rfl; have hfz17_0 := blk_frozen BK605.out 0; have hfz17_1 := blk_frozen BK605.out 1; have hfz17_2 := blk_frozen BK605.out 2; have hcz18_0 : w16.cell? ⟨gb606, 0, none⟩ = some (.int .i64 a1_0) := (blk_cell BK606.out 0).trans rfl; have hcz18_1 : w16.cell? ⟨gb606, 1, none⟩ = some (.int .i64 a1_1) := (blk_cell BK606.out 1).trans rfl; have hfz18_0 := blk_frozen BK606.out 0; have hfz18_1 := blk_frozen BK606.out 1) | ((with_reducible refine gate_callee (f := 65) rfl ?_); refine goesL_ (some 26) rfl rfl Try.func65 (by kernel_rfl) rfl #[.agg #[.int .i64 a0_0, .int .i64 a0_1, .slice A0_2 l0_2.length c0_2], .agg #[.int .i64 a1_0, .int .i64 a1_1], .int .i64 a2] rfl zz9 ?_; (with_reducible refine (spec_faFrom.calls k a0_0 a0_1 _ _ l0_2 a1_0 a1_1 a2 t608 _ ?side1 ?side2 A7.out).mono ?_); (case side1 => exact zz7); (case side2 => exact HC0_2.out); rintro e w19 ⟨v609, rfl, ho0, hb⟩; refine ⟨_, rfl, ?_⟩; have n0_ := Aside0.mk (Kd.R_lower ho0 (below_size zz1)); have n1_ := Aside0.mk (blk_below (g := gb605) (o := .cells #[.int .i64 a0_0, .int .i64 a0_1, .slice A0_2 l0_2.length c0_2] 30 (0, 0)) zz2 hb); have n2_ := Aside0.mk (blk_below (g := gb606) (o := .cells #[.int .i64 a1_0, .int .i64 a1_1] 32 (0, 0)) zz6 hb); have n3_ := Aside0.mk (below_step zz1 hb); clear BK605; clear BK606; clear HB; have HO610 := n0_; have BK605 := n1_; have BK606 := n2_; have HB := n3_; clear n0_ n1_ n2_ n3_; (try clear hb); (try clear hb2); (try clear hk); (try clear hi); (try clear ho0); (try clear hna_); (try clear hnb_); obtain ⟨Ao20, co20, eo20⟩ := Kd.R_slice HO610.out; subst eo20; have p611 : 0 ≤ (a3 : Int) := of_decide_eq_true zz3; have q611 : a3 < (t608.length : Int) := of_decide_eq_true zz3; obtain ⟨ad611, e611, hx611_0⟩ := Kd.at_int (Kd.R_reads' HO610.out).2.2 a3 p611 q611; cases e611; replace p611 := eq_true p611; replace q611 := eq_true q611))
  go_ret2
  exact ⟨zz17, zz1⟩
 rw [if_neg c10] at H
 have c10b0 : decide ((rd t608 a3) < 0) = false := decide_eq_false c10
 clear c10
 by_cases c21 : 0 ≤ (t608.length : Int)
 rotate_left
 ·rw [if_neg c21] at H
  exact absurd H (by simp)
 rw [if_pos c21] at H
 have c21b0 := eq_true c21
 have c21b1 : decide (0 ≤ (t608.length : Int)) = true := decide_eq_true c21
 clear c21
 by_cases c22 : ((t608.length : Int) : Int).toNat ≤ 35184372088832
 rotate_left
 ·rw [if_neg c22] at H
  exact absurd H (by simp)
 rw [if_pos c22] at H
 have c22b0 := eq_true c22
 have c22b1 : decide (((t608.length : Int) : Int).toNat ≤ 35184372088832) = true := decide_eq_true c22
 clear c22
 obtain ⟨y612, hy612⟩ : ∃ y_ : List Int, y_ = (List.replicate ((t608.length : Int) : Int).toNat 0) := ⟨_, rfl⟩
 replace H : (if 0 ≤ a2 then (if a2 < (y612.length : Int) then (spec_CountRoutes.l0 k a3 t608 (y612.set (a2 : Int).toNat 1) 0 a0_0 a0_1 l0_2 a1_0 a1_1) else (none)) else (none)) = some (r1, r2) := by first | (rw [hy612]; with_reducible exact H) | (have H2_ := (Option.bind_some _ _).symm.trans H; rw [hy612]; with_reducible exact H2_) | (have H2_ := (Option.bind_some _ _).symm.trans H; with_reducible exact H2_) | with_reducible exact H | (rw [hy612]; exact H) | exact H
 have Ny612 := Aside0.mk hy612
 clear hy612
 by_cases c23 : 0 ≤ a2
 rotate_left
 ·rw [if_neg c23] at H
  exact absurd H (by simp)
 rw [if_pos c23] at H
 have c23b0 : decide (0 ≤ a2) = true := decide_eq_true c23
 clear c23
 by_cases c24 : a2 < (y612.length : Int)
 rotate_left
 ·rw [if_neg c24] at H
  exact absurd H (by simp)
 rw [if_pos c24] at H
 have c24b0 : decide (a2 < (y612.length : Int)) = true := decide_eq_true c24
 clear c24
 obtain ⟨y615, hy615⟩ : ∃ y_ : List Int, y_ = (y612.set (a2 : Int).toNat 1) := ⟨_, rfl⟩
 replace H : (spec_CountRoutes.l0 k a3 t608 y615 0 a0_0 a0_1 l0_2 a1_0 a1_1) = some (r1, r2) := by first | (rw [hy615]; with_reducible exact H) | (have H2_ := (Option.bind_some _ _).symm.trans H; rw [hy615]; with_reducible exact H2_) | (have H2_ := (Option.bind_some _ _).symm.trans H; with_reducible exact H2_) | with_reducible exact H | (rw [hy615]; exact H) | exact H
 have Ny615 := Aside0.mk hy615
 clear hy615
 have H' := Aside0.mk H
 clear H
 go_enter Try.func30, Try.ntmps30
 go_wp2_with (first | ((with_reducible refine gate_dst (N := 4) rfl ?_); refine box_event ?hg (N := 4) ?hd (cs := #[.int .i64 a0_0, .int .i64 a0_1, .slice A0_2 l0_2.length c0_2]) (t := 30) ?hr ?_; (case hd => rfl); (case hg => rfl); (case hr => first | (go_simp; done) | (go_simp; rfl)); intro gb605 hg w26 hbox hb; have n0_ := Aside0.mk (below_step zz5 hb); have n1_ := Aside0.mk (hbox); have n2_ := Aside0.mk ((zz22 : w.heap.size ≤ gb605)); have n3_ := Aside0.mk ((zz22 : w.heap.size ≤ gb605)); clear HB; have HB := n0_; have BK605 := n1_; have GW605 := n2_; have GE605 := n3_; clear n0_ n1_ n2_ n3_; clear hb hbox hg) | ((with_reducible refine gate_dst (N := 5) rfl ?_); refine box_event ?hg (N := 5) ?hd (cs := #[.int .i64 a1_0, .int .i64 a1_1]) (t := 32) ?hr ?_; (case hd => rfl); (case hg => rfl); (case hr => first | (go_simp; done) | (go_simp; rfl)); intro gb606 hg w27 hbox hb; have n0_ := Aside0.mk (blk_below (g := gb605) (o := .cells #[.int .i64 a0_0, .int .i64 a0_1, .slice A0_2 l0_2.length c0_2] 30 (0, 0)) zz2 hb); have n1_ := Aside0.mk (below_step zz4 hb); have n2_ := Aside0.mk (hbox); have n3_ := Aside0.mk ((zz23 : w.heap.size ≤ gb606)); have n4_ := Aside0.mk ((zz23 : w.heap.size ≤ gb606)); have n5_ := Aside0.mk ((zz20 : gb605 ≠ gb606)); have n6_ := Aside0.mk ((zz21 : gb606 ≠ gb605)); clear BK605; clear HB; have BK605 := n0_; have HB := n1_; have BK606 := n2_; have GW606 := n3_; have GE606 := n4_; have NB605_606 := n5_; have NB606_605 := n6_; clear n0_ n1_ n2_ n3_ n4_ n5_ n6_; clear hb hbox hg; have hnb28 := NB605_606.out; have hnc28 := NB606_605.out; have hcz29_0 : w27.cell? ⟨gb605, 0, none⟩ = some (.int .i64 a0_0) := (blk_cell BK605.out 0).trans rfl; have hcz29_1 : w27.cell? ⟨gb605, 1, none⟩ = some (.int .i64 a0_1) := (blk_cell BK605.out 1).trans rfl; have hcz29_2 : w27.cell? ⟨gb605, 2, none⟩ = some (.slice A0_2 l0_2.length c0_2) := (blk_cell BK605.out 2).trans rfl; have hfz29_0 := blk_frozen BK605.out 0; have hfz29_1 := blk_frozen BK605.out 1; have hfz29_2 := blk_frozen BK605.out 2; have hcz30_0 : w27.cell? ⟨gb606, 0, none⟩ = some (.int .i64 a1_0) := (blk_cell BK606.out 0).trans rfl; have hcz30_1 : w27.cell? ⟨gb606, 1, none⟩ = some (.int .i64 a1_1) := (blk_cell BK606.out 1).trans rfl; have hfz30_0 := blk_frozen BK606.out 0; have hfz30_1 := blk_frozen BK606.out 1) | ((with_reducible refine gate_callee (f := 64) rfl ?_); refine goesL_ (some 21) rfl rfl Try.func64 (by kernel_rfl) rfl #[.agg #[.int .i64 a0_0, .int .i64 a0_1, .slice A0_2 l0_2.length c0_2], .agg #[.int .i64 a1_0, .int .i64 a1_1], .int .i64 a2, .int .i64 a3] rfl zz9 ?_; (with_reducible refine (spec_faAsked.calls k a0_0 a0_1 _ _ l0_2 a1_0 a1_1 a2 a3 true _ ?side1 ?side2 A5.out).mono ?_); (case side1 => exact zz7); (case side2 => exact HC0_2.out); rintro e w31 ⟨rfl, hb⟩; refine ⟨_, rfl, ?_⟩; have n0_ := Aside0.mk (blk_below (g := gb605) (o := .cells #[.int .i64 a0_0, .int .i64 a0_1, .slice A0_2 l0_2.length c0_2] 30 (0, 0)) zz2 hb); have n1_ := Aside0.mk (blk_below (g := gb606) (o := .cells #[.int .i64 a1_0, .int .i64 a1_1] 32 (0, 0)) zz6 hb); have n2_ := Aside0.mk (below_step zz1 hb); clear BK605; clear BK606; clear HB; have BK605 := n0_; have BK606 := n1_; have HB := n2_; clear n0_ n1_ n2_; (try clear hb); (try clear hb2); (try clear hk); (try clear hi); (try clear hna_); (try clear hnb_); have hcz32_0 : w31.cell? ⟨gb605, 0, none⟩ = some (.int .i64 a0_0) := (blk_cell BK605.out 0).trans rfl; have hcz32_1 : w31.cell? ⟨gb605, 1, none⟩ = some (.int .i64 a0_1) := (blk_cell BK605.out 1).trans rfl; have hcz32_2 : w31.cell? ⟨gb605, 2, none⟩ = some (.slice A0_2 l0_2.length c0_2) := (blk_cell BK605.out 2).trans rfl; have hfz32_0 := blk_frozen BK605.out 0; have hfz32_1 := blk_frozen BK605.out 1; have hfz32_2 := blk_frozen BK605.out 2; have hcz33_0 : w31.cell? ⟨gb606, 0, none⟩ = some (.int .i64 a1_0) := (blk_cell BK606.out 0).trans rfl; have hcz33_1 : w31.cell? ⟨gb606, 1, none⟩ = some (.int .i64 a1_1) := (blk_cell BK606.out 1).trans rfl; have hfz33_0 := blk_frozen BK606.out 0; have hfz33_1 := blk_frozen BK606.out 1) | ((with_reducible refine gate_callee (f := 65) rfl ?_); refine goesL_ (some 26) rfl rfl Try.func65 (by kernel_rfl) rfl #[.agg #[.int .i64 a0_0, .int .i64 a0_1, .slice A0_2 l0_2.length c0_2], .agg #[.int .i64 a1_0, .int .i64 a1_1], .int .i64 a2] rfl zz9 ?_; (with_reducible refine (spec_faFrom.calls k a0_0 a0_1 _ _ l0_2 a1_0 a1_1 a2 t608 _ ?side1 ?side2 A7.out).mono ?_); (case side1 => exact zz7); (case side2 => exact HC0_2.out); rintro e w34 ⟨v609, rfl, ho0, hb⟩; refine ⟨_, rfl, ?_⟩; have n0_ := Aside0.mk (Kd.R_lower ho0 (below_size zz1)); have n1_ := Aside0.mk (blk_below (g := gb605) (o := .cells #[.int .i64 a0_0, .int .i64 a0_1, .slice A0_2 l0_2.length c0_2] 30 (0, 0)) zz2 hb); have n2_ := Aside0.mk (blk_below (g := gb606) (o := .cells #[.int .i64 a1_0, .int .i64 a1_1] 32 (0, 0)) zz6 hb); have n3_ := Aside0.mk (below_step zz1 hb); clear BK605; clear BK606; clear HB; have HO610 := n0_; have BK605 := n1_; have BK606 := n2_; have HB := n3_; clear n0_ n1_ n2_ n3_; (try clear hb); (try clear hb2); (try clear hk); (try clear hi); (try clear ho0); (try clear hna_); (try clear hnb_); obtain ⟨Ao35, co35, eo35⟩ := Kd.R_slice HO610.out; subst eo35; have p611 : 0 ≤ (a3 : Int) := of_decide_eq_true zz3; have q611 : a3 < (t608.length : Int) := of_decide_eq_true zz3; obtain ⟨ad611, e611, hx611_0⟩ := Kd.at_int (Kd.R_reads' HO610.out).2.2 a3 p611 q611; cases e611; replace p611 := eq_true p611; replace q611 := eq_true q611) | ((with_reducible refine gate_dst (N := 34) rfl ?_); refine Kd.R_make (Kd.int .i64) _ 3 rfl (N := 34) rfl 22 _ _ rfl (t608.length : Int) rfl rfl Try.underlying22 (.int .i64 0) 8 info3 rfl (by decide) (by omega) 0 (ok := fun _ => True) (okp := fun _ => True) rfl (fun _ hk => hk) trivial (of_decide_eq_true zz3) (Nat.le_trans (Nat.mul_le_mul_right _ (of_decide_eq_true zz3 : (t608.length : Int).toNat ≤ 35184372088832)) (by omega)) (Below.refl _ _) (Nat.le_refl _) ?_; intro v613 w36 ho37 hb hg_ hnew_; clear hg_ hnew_; (first | rw [← Ny612.out] at ho37 | (simp only [Int.reduceToNat] at ho37; rw [← Ny612.out] at ho37)); have n0_ := Aside0.mk (Kd.R_elder' zz14 (Kd.R_base ho37) hb); have n1_ := Aside0.mk (Kd.R_lower (Kd.R_new' ho37 (Kd.R_lt zz14)) (below_size zz1)); have n2_ := Aside0.mk (blk_below (g := gb605) (o := .cells #[.int .i64 a0_0, .int .i64 a0_1, .slice A0_2 l0_2.length c0_2] 30 (0, 0)) zz2 hb); have n3_ := Aside0.mk (blk_below (g := gb606) (o := .cells #[.int .i64 a1_0, .int .i64 a1_1] 32 (0, 0)) zz6 hb); have n4_ := Aside0.mk (below_step zz1 hb); clear HO610; clear BK605; clear BK606; clear HB; have HO610 := n0_; have HO614 := n1_; have BK605 := n2_; have BK606 := n3_; have HB := n4_; clear n0_ n1_ n2_ n3_ n4_; clear hb ho37; have p25 : 0 ≤ (a2 : Int) := of_decide_eq_true zz3; have q25 : (a2 : Int) < ((y612.length : Int) : Int) := of_decide_eq_true zz3; obtain ⟨go25, co25, eo25, gb25, gl25, cl25, HG25⟩ := Kd.R_form HO614.out (by omega); (first | cases eo25 | (injection eo25 with ea_ en_ ec_; (first | subst ea_ | (injection ea_ with ea_; subst ea_)); subst ec_; clear en_)); have GB25 := Aside0.mk gb25; have GG25 := Aside0.mk HG25; clear gb25 gl25 HG25; obtain ⟨hx25_0, hf25_0⟩ := Kd.R_celln 0 HO614.out (a2 : Int) p25 q25; replace p25 := eq_true p25; replace q25 := eq_true q25; have n_ := Aside0.mk (Kd.R_mono (ok' := (fun k_ => some k_ ≠ (.slice (some ad611) t608.length co35 : Value).ownBlock)) HO614.out (fun k_ hk => hk.2)); clear HO614; have HO614 := n_; clear n_; obtain ⟨hy38_, hz38_⟩ := Kd.R_celln 0 HO614.out (a2 : Int) (of_decide_eq_true zz3) (of_decide_eq_true zz3); have HP38 := Kd.R_putg HO614.out (a2 : Int) 1) | ((with_reducible refine gate_store (t := 3) (p := 37) rfl ?_); refine store_event (t := 3) (p := 37) (v := ?vo_w39) (w1 := (w36.setCell ⟨go25, (a2 : Int).toNat, none⟩ (.int .i64 1))) ?hg ?ho ?hn ?hr ?_; (case ho => rfl); (case hg => rfl); (case hn => rfl); (case hr => first | (go_simp; done) | (go_simp; rfl)); intro w39 hw; have hg : w36.grownBy w39 (some go25) := (by rw [hw]; exact HP38.2); have hp_ : Kd.R (Kd.int .i64) 3 w39 w.heap.size (fun k_ => some k_ ≠ (.slice (some ad611) t608.length co35 : Value).ownBlock) (.slice (some ⟨go25, 0, none⟩) y612.length co25) y615 := (by rw [hw, Ny615.out]; exact HP38.1); clear HP38; have n0_ := Aside0.mk (blk_grown (g := gb605) (o := .cells #[.int .i64 a0_0, .int .i64 a0_1, .slice A0_2 l0_2.length c0_2] 30 (0, 0)) zz2 hg (Kd.R_ne HO614.out BK605.out (by decide))); have n1_ := Aside0.mk (blk_grown (g := gb606) (o := .cells #[.int .i64 a1_0, .int .i64 a1_1] 32 (0, 0)) zz6 hg (Kd.R_ne HO614.out BK606.out (by decide))); have n2_ := Aside0.mk (Kd.R_after (v := (.slice (some ⟨go25, 0, none⟩) y612.length co25)) (v1 := (.slice (some ⟨go25, 0, none⟩) y612.length co25)) (ok := (fun _ => True)) zz14 hg (.inl rfl)); have n3_ := Aside0.mk (hp_); have n4_ := Aside0.mk ((by rw [hw]; exact below_set (HB.out) GB25.out : Below w.heap.size w w39)); clear BK605; clear BK606; clear HO610; clear HO614; clear HB; have BK605 := n0_; have BK606 := n1_; have HO610 := n2_; have HO614 := n3_; have HB := n4_; clear n0_ n1_ n2_ n3_ n4_; clear hg hw hp_))
 go_loopg [12] k (fun kq v12 w' => ∃ (x11_1 : List Int) (x12_1 : Int), v12 = .int .i64 x12_1 ∧ Aside0 (spec_CountRoutes.l0 kq a3 t608 x11_1 x12_1 a0_0 a0_1 l0_2 a1_0 a1_1 = some (r1, r2)) ∧ Aside0 (kq ≤ k) ∧ Aside0 (Kd.R (Kd.int .i64) 3 w' w.heap.size (fun k_ => some k_ ≠ ((.slice (some ⟨go25, 0, none⟩) y612.length co25) : Value).ownBlock) (.slice (some ad611) t608.length co35) t608) ∧ Aside0 (Kd.R (Kd.int .i64) 3 w' w.heap.size (fun k_ => some k_ ≠ ((.slice (some ad611) t608.length co35) : Value).ownBlock) (.slice (some ⟨go25, 0, none⟩) y612.length co25) x11_1) ∧ Aside0 (w'.heap[gb605]? = some (.cells #[.int .i64 a0_0, .int .i64 a0_1, (.slice A0_2 l0_2.length c0_2)] 30 (0, 0))) ∧ Aside0 (w'.heap[gb606]? = some (.cells #[.int .i64 a1_0, .int .i64 a1_1] 32 (0, 0))) ∧ Aside0 (Below w.heap.size w w'))
 case atStart => exact ⟨(y615), (0), zz13, H', ⟨Nat.le_refl _⟩, ⟨by (with_reducible repeat (first | apply Kd.R_alloc | apply Kd.R_drewN | apply Kd.R_drew)); exact Kd.R_mono HO610.out (fun _ hk => hk.2)⟩, ⟨by (with_reducible repeat (first | apply Kd.R_alloc | apply Kd.R_drewN | apply Kd.R_drew)); exact HO614.out⟩, ⟨zz2⟩, ⟨zz6⟩, ⟨zz1⟩⟩
 case round =>
  clear H'
  try clear c1; try clear c2; try clear p2; try clear q2; try clear hx2; try clear c3; try clear c6; try clear p6; try clear q6; try clear hx6; try clear c8; try clear c8b0; try clear c9; try clear c9b0; try clear c10; try clear c10b0; try clear c13; try clear c21; try clear c21b0; try clear c21b1; try clear c22; try clear c22b0; try clear c22b1; try clear c23; try clear c23b0; try clear c24; try clear c24b0; try clear p25; try clear q25; try clear hx25; try clear hf25; try clear c28; try clear c30; try clear hcz14_0; try clear hcz14_1; try clear hcz14_2; try clear hcz15_0; try clear hcz15_1; try clear hcz17_0
  try clear hcz17_1; try clear hcz17_2; try clear hcz18_0; try clear hcz18_1; try clear hcz29_0; try clear hcz29_1; try clear hcz29_2; try clear hcz30_0; try clear hcz30_1; try clear hcz32_0; try clear hcz32_1; try clear hcz32_2; try clear hcz33_0; try clear hcz33_1; try clear hfz14_0; try clear hfz14_1; try clear hfz14_2; try clear hfz15_0; try clear hfz15_1; try clear hfz17_0; try clear hfz17_1; try clear hfz17_2; try clear hfz18_0; try clear hfz18_1; try clear hfz29_0; try clear hfz29_1; try clear hfz29_2; try clear hfz30_0; try clear hfz30_1; try clear hfz32_0; try clear hfz32_1; try clear hfz32_2
  try clear hfz33_0; try clear hfz33_1; try clear hx25_0; try clear hx611_0; try clear p25; try clear p611; try clear q25; try clear q611
  obtain ⟨x11_1, x12_1, rfl, HA, HK1, HO_10, HO_11, BK605, BK606, HB⟩ := hrel
  have hl11_1 := (Kd.R_reads' HO_11.out).1
  rw [hl11_1] at HO_11
  (try simp only [hl11_1])
  (try simp only [hl11_1] at BK605)
  (try simp only [hl11_1] at BK606)
  (try simp only [hl11_1] at HO_10)
  cases gk with
  | zero => exact absurd HA.out (by simp [spec_CountRoutes.l0])
  | succ k1 =>
   have H := HA.out
   clear HA
   simp only [spec_CountRoutes.l0] at H
   by_cases c40 : 0 ≤ a3
   rotate_left
   ·rw [if_neg c40] at H
    exact absurd H (by simp)
   rw [if_pos c40] at H
   have c40b0 : decide (0 ≤ a3) = true := decide_eq_true c40
   clear c40
   by_cases c41 : a3 < (t608.length : Int)
   rotate_left
   ·rw [if_neg c41] at H
    exact absurd H (by simp)
   rw [if_pos c41] at H
   have c41b0 : decide (a3 < (t608.length : Int)) = true := decide_eq_true c41
   have c41b8 := c41b0
   (try simp only [hl11_1] at c41b8)
   clear c41
   by_cases c42 : x12_1 < (rd t608 a3)
   rotate_left
   ·rw [if_neg c42] at H
    have c42b0 : decide (x12_1 < (rd t608 a3)) = false := decide_eq_false c42
    clear c42
    by_cases c65 : a3 < (x11_1.length : Int)
    rotate_left
    ·rw [if_neg c65] at H
     exact absurd H (by simp)
    rw [if_pos c65] at H
    have c65b0 : decide (a3 < (x11_1.length : Int)) = true := decide_eq_true c65
    have c65b8 := c65b0
    (try simp only [hl11_1] at c65b8)
    clear c65
    simp only [Option.some.injEq, Prod.mk.injEq] at H
    obtain ⟨rfl, rfl⟩ := H
    have p616 : 0 ≤ (a3 : Int) := of_decide_eq_true zz3
    have q616 : a3 < (t608.length : Int) := of_decide_eq_true zz3
    obtain ⟨ad616, e616, hx616_0⟩ := Kd.at_int (Kd.R_reads' HO_10.out).2.2 a3 p616 q616
    obtain rfl : ad611 = ad616 := (by injection e616)
    replace p616 := eq_true p616
    replace q616 := eq_true q616
    have p617 : 0 ≤ (a3 : Int) := of_decide_eq_true zz3
    have q617 : a3 < (x11_1.length : Int) := of_decide_eq_true zz3
    obtain ⟨ad617, e617, hx617_0⟩ := Kd.at_int (Kd.R_reads' HO_11.out).2.2 a3 p617 q617
    obtain rfl : (⟨go25, 0, none⟩ : Addr) = ad617 := (by injection e617)
    (first | simp only [add_plain] at hx617_0 | simp only [add_at] at hx617_0 | simp only [Addr.add, Nat.zero_add] at hx617_0 | skip)
    replace p617 := eq_true p617
    replace q617 := eq_true q617
    go_wp2
    go_ret2
    exact ⟨zz17, zz1⟩
   rw [if_pos c42] at H
   have c42b0 : decide (x12_1 < (rd t608 a3)) = true := decide_eq_true c42
   clear c42
   have H' := Aside0.mk H
   clear H
   have p616 : 0 ≤ (a3 : Int) := of_decide_eq_true zz3
   have q616 : a3 < (t608.length : Int) := of_decide_eq_true zz3
   obtain ⟨ad616, e616, hx616_0⟩ := Kd.at_int (Kd.R_reads' HO_10.out).2.2 a3 p616 q616
   obtain rfl : ad611 = ad616 := (by injection e616)
   replace p616 := eq_true p616
   replace q616 := eq_true q616
   go_wp2
   go_loopg [48] k1 (fun kq v48 w' => ∃ (x11_2 : List Int) (x48_2 : Int), v48 = .int .i64 x48_2 ∧ Aside0 (spec_CountRoutes.l1 kq a3 t608 x11_2 x12_1 t608 (t608.length : Int) x48_2 a0_0 a0_1 l0_2 a1_0 a1_1 = some (r1, r2)) ∧ Aside0 (kq ≤ k1) ∧ Aside0 (Kd.R (Kd.int .i64) 3 w' w.heap.size (fun k_ => some k_ ≠ ((.slice (some ⟨go25, 0, none⟩) x11_1.length co25) : Value).ownBlock) (.slice (some ad611) t608.length co35) t608) ∧ Aside0 (Kd.R (Kd.int .i64) 3 w' w.heap.size (fun k_ => some k_ ≠ ((.slice (some ad611) t608.length co35) : Value).ownBlock ∧ some k_ ≠ ((.slice (some ad611) t608.length co35) : Value).ownBlock) (.slice (some ⟨go25, 0, none⟩) x11_1.length co25) x11_2) ∧ Aside0 (Kd.R (Kd.int .i64) 3 w' w.heap.size (fun k_ => some k_ ≠ ((.slice (some ⟨go25, 0, none⟩) x11_1.length co25) : Value).ownBlock) (.slice (some ad611) t608.length co35) t608) ∧ Aside0 (w'.heap[gb605]? = some (.cells #[.int .i64 a0_0, .int .i64 a0_1, (.slice A0_2 l0_2.length c0_2)] 30 (0, 0))) ∧ Aside0 (w'.heap[gb606]? = some (.cells #[.int .i64 a1_0, .int .i64 a1_1] 32 (0, 0))) ∧ Aside0 (Below w.heap.size w w'))
   case atStart => exact ⟨(x11_1), (0), zz13, H', ⟨Nat.le_refl _⟩, ⟨zz19⟩, ⟨by (try simp only [hl11_1]); (with_reducible repeat (first | apply Kd.R_alloc | apply Kd.R_drewN | apply Kd.R_drew)); exact Kd.R_mono HO_11.out (fun _ hk => ⟨hk, hk⟩)⟩, ⟨zz19⟩, ⟨by (try simp only [hl11_1]); (with_reducible repeat (first | refine blk_drewN ?_ _ | refine blk_drew ?_ | refine blk_alloc ?_ _)); exact BK605.out⟩, ⟨by (try simp only [hl11_1]); (with_reducible repeat (first | refine blk_drewN ?_ _ | refine blk_drew ?_ | refine blk_alloc ?_ _)); exact BK606.out⟩, ⟨zz1⟩⟩
   case round =>
    clear H'
    try clear c1; try clear c2; try clear p2; try clear q2; try clear hx2; try clear c3; try clear c4; try clear c6; try clear p6; try clear q6; try clear hx6; try clear c8; try clear c8b0; try clear c9; try clear c9b0; try clear c10; try clear c10b0; try clear c13; try clear c21; try clear c21b0; try clear c21b1; try clear c22; try clear c22b0; try clear c22b1; try clear c23; try clear c23b0; try clear c24; try clear c24b0; try clear p25; try clear q25; try clear hx25; try clear hf25; try clear c28; try clear c30; try clear c40; try clear c40b0; try clear c41; try clear c41b0; try clear c41b8; try clear c42
    try clear c42b0; try clear hcz14_0; try clear hcz14_1; try clear hcz14_2; try clear hcz15_0; try clear hcz15_1; try clear hcz17_0; try clear hcz17_1; try clear hcz17_2; try clear hcz18_0; try clear hcz18_1; try clear hcz29_0; try clear hcz29_1; try clear hcz29_2; try clear hcz30_0; try clear hcz30_1; try clear hcz32_0; try clear hcz32_1; try clear hcz32_2; try clear hcz33_0; try clear hcz33_1; try clear hfz14_0; try clear hfz14_1; try clear hfz14_2; try clear hfz15_0; try clear hfz15_1; try clear hfz17_0; try clear hfz17_1; try clear hfz17_2; try clear hfz18_0; try clear hfz18_1; try clear hfz29_0
    try clear hfz29_1; try clear hfz29_2; try clear hfz30_0; try clear hfz30_1; try clear hfz32_0; try clear hfz32_1; try clear hfz32_2; try clear hfz33_0; try clear hfz33_1; try clear hx25_0; try clear hx611_0; try clear hx616_0; try clear p2; try clear p25; try clear p6; try clear p611; try clear p616; try clear q2; try clear q25; try clear q6; try clear q611; try clear q616
    obtain ⟨x11_2, x48_2, rfl, HA, HK2, HO_10, HO_11, HO_46, BK605, BK606, HB⟩ := hrel
    have hl11_2 := (Kd.R_reads' HO_11.out).1
    rw [hl11_2] at HO_11
    (try simp only [hl11_2])
    (try simp only [hl11_2] at BK605)
    (try simp only [hl11_2] at BK606)
    (try simp only [hl11_2] at HO_10)
    (try simp only [hl11_2] at HO_46)
    cases gk with
    | zero => exact absurd HA.out (by simp [spec_CountRoutes.l1])
    | succ k2 =>
     have H := HA.out
     clear HA
     simp only [spec_CountRoutes.l1] at H
     by_cases c43 : x48_2 < (t608.length : Int)
     rotate_left
     ·rw [if_neg c43] at H
      have c43b0 : decide (x48_2 < (t608.length : Int)) = false := decide_eq_false c43
      have c43b8 := c43b0
      (try simp only [hl11_1, hl11_2] at c43b8)
      clear c43
      have H' := Aside0.mk H
      clear H
      go_wp2
      (try simp only [← hl11_1, ← hl11_2])
      go_roundg k2
      case measure => have := HK1.out; have := HK2.out; omega
      case rel => exact ⟨(x11_2), (wrap64 (x12_1 + 1)), zz13, H', ⟨by have := HK1.out; have := HK2.out; omega⟩, ⟨zz12⟩, ⟨by (try simp only [hl11_1]); (try simp only [hl11_2]); (with_reducible repeat (first | apply Kd.R_alloc | apply Kd.R_drewN | apply Kd.R_drew)); exact Kd.R_mono HO_11.out (fun _ hk => hk.1)⟩, ⟨zz11⟩, ⟨zz10⟩, ⟨zz1⟩⟩
     rw [if_pos c43] at H
     have c43b0 : decide (x48_2 < (t608.length : Int)) = true := decide_eq_true c43
     have c43b8 := c43b0
     (try simp only [hl11_1, hl11_2] at c43b8)
     clear c43
     by_cases c44 : 0 ≤ x48_2
     rotate_left
     ·rw [if_neg c44] at H
      exact absurd H (by simp)
     rw [if_pos c44] at H
     have c44b0 : decide (0 ≤ x48_2) = true := decide_eq_true c44
     clear c44
     by_cases c45 : x48_2 < (t608.length : Int)
     rotate_left
     ·rw [if_neg c45] at H
      exact absurd H (by simp)
     rw [if_pos c45] at H
     have c45b0 : decide (x48_2 < (t608.length : Int)) = true := decide_eq_true c45
     have c45b8 := c45b0
     (try simp only [hl11_1, hl11_2] at c45b8)
     clear c45
     by_cases c46 : (rd t608 x48_2) = x12_1
     rotate_left
     ·rw [if_neg c46] at H
      have c46b0 : ((rd t608 x48_2) == x12_1) = false := beq_eq_false_iff_ne.mpr c46
      have c46b1 : ((rd t608 x48_2) != x12_1) = true := bne_iff_ne.mpr c46
      have H' := Aside0.mk H
      clear H
      have p618 : 0 ≤ (x48_2 : Int) := of_decide_eq_true zz3
      have q618 : x48_2 < (t608.length : Int) := of_decide_eq_true zz3
      obtain ⟨ad618, e618, hx618_0⟩ := Kd.at_int (Kd.R_reads' HO_46.out).2.2 x48_2 p618 q618
      obtain rfl : ad611 = ad618 := (by injection e618)
      replace p618 := eq_true p618
      replace q618 := eq_true q618
      go_wp2
      (try simp only [← hl11_2])
      go_roundg k2
      case measure => have := HK1.out; have := HK2.out; omega
      case rel => exact ⟨(x11_2), (wrap64 (x48_2 + 1)), zz13, H', ⟨by have := HK1.out; have := HK2.out; omega⟩, ⟨zz12⟩, ⟨by (try simp only [hl11_1]); (try simp only [hl11_2]); (with_reducible repeat (first | apply Kd.R_alloc | apply Kd.R_drewN | apply Kd.R_drew)); exact HO_11.out⟩, ⟨zz18⟩, ⟨zz11⟩, ⟨zz10⟩, ⟨zz1⟩⟩
     rw [if_pos c46] at H
     have c46b0 : ((rd t608 x48_2) == x12_1) = true := beq_iff_eq.mpr c46
     have c46b1 : ((rd t608 x48_2) != x12_1) = false := bne_eq_false_iff_eq.mpr c46
     clear c46
     replace H := Option.bind_eq_some_iff.mp H
     obtain ⟨t619, A470, H⟩ := H
     replace H : (spec_CountRoutes.l2 k2 a3 t608 x11_2 x12_1 x48_2 t608 (t608.length : Int) x48_2 t619 (t619.length : Int) 0 a0_0 a0_1 l0_2 a1_0 a1_1) = some (r1, r2) := H
     have A47 := Aside0.mk A470
     clear A470
     have H' := Aside0.mk H
     clear H
     have p618 : 0 ≤ (x48_2 : Int) := of_decide_eq_true zz3
     have q618 : x48_2 < (t608.length : Int) := of_decide_eq_true zz3
     obtain ⟨ad618, e618, hx618_0⟩ := Kd.at_int (Kd.R_reads' HO_46.out).2.2 x48_2 p618 q618
     obtain rfl : ad611 = ad618 := (by injection e618)
     replace p618 := eq_true p618
     replace q618 := eq_true q618
     have hnb48 := NB605_606.out
     have hnc48 := NB606_605.out
     have hcz49_0 : wr.cell? ⟨gb605, 0, none⟩ = some (.int .i64 a0_0) := (blk_cell BK605.out 0).trans rfl
     have hcz49_1 : wr.cell? ⟨gb605, 1, none⟩ = some (.int .i64 a0_1) := (blk_cell BK605.out 1).trans rfl
     have hcz49_2 : wr.cell? ⟨gb605, 2, none⟩ = some (.slice A0_2 l0_2.length c0_2) := (blk_cell BK605.out 2).trans rfl
     have hfz49_0 := blk_frozen BK605.out 0
     have hfz49_1 := blk_frozen BK605.out 1
     have hfz49_2 := blk_frozen BK605.out 2
     have hcz50_0 : wr.cell? ⟨gb606, 0, none⟩ = some (.int .i64 a1_0) := (blk_cell BK606.out 0).trans rfl
     have hcz50_1 : wr.cell? ⟨gb606, 1, none⟩ = some (.int .i64 a1_1) := (blk_cell BK606.out 1).trans rfl
     have hfz50_0 := blk_frozen BK606.out 0
     have hfz50_1 := blk_frozen BK606.out 1
     go_wp2_with (first | ((with_reducible refine gate_callee (f := 55) rfl ?_); refine goesL_ (some 59) rfl rfl Try.func55 (by kernel_rfl) rfl #[.agg #[.int .i64 a0_0, .int .i64 a0_1, .slice A0_2 l0_2.length c0_2], .agg #[.int .i64 a1_0, .int .i64 a1_1], .int .i64 x48_2] rfl zz9 ?_; (with_reducible refine (spec_boLeaps.calls k2 a0_0 a0_1 _ _ l0_2 a1_0 a1_1 x48_2 t619 _ ?side1 ?side2 A47.out).mono ?_); (case side1 => exact zz7); (case side2 => exact HC0_2.out); rintro e w51 ⟨v620, rfl, ho0, hb⟩; refine ⟨_, rfl, ?_⟩; have n0_ := Aside0.mk (Kd.R_elder' (by (with_reducible repeat (first | apply Kd.R_alloc | apply Kd.R_drewN | apply Kd.R_drew)); exact HO_10.out) (Kd.R_base ho0) hb); have n1_ := Aside0.mk (Kd.R_elder' (by (with_reducible repeat (first | apply Kd.R_alloc | apply Kd.R_drewN | apply Kd.R_drew)); exact HO_11.out) (Kd.R_base ho0) hb); have n2_ := Aside0.mk (Kd.R_elder' (by (with_reducible repeat (first | apply Kd.R_alloc | apply Kd.R_drewN | apply Kd.R_drew)); exact HO_46.out) (Kd.R_base ho0) hb); have n3_ := Aside0.mk (Kd.R_lower (Kd.R_new' (Kd.R_new' (Kd.R_new' ho0 (Kd.R_lt (by (with_reducible repeat (first | apply Kd.R_alloc | apply Kd.R_drewN | apply Kd.R_drew)); exact HO_10.out))) (Kd.R_lt (by (with_reducible repeat (first | apply Kd.R_alloc | apply Kd.R_drewN | apply Kd.R_drew)); exact HO_11.out))) (Kd.R_lt (by (with_reducible repeat (first | apply Kd.R_alloc | apply Kd.R_drewN | apply Kd.R_drew)); exact HO_46.out))) (below_size zz1)); have n4_ := Aside0.mk (blk_below (g := gb605) (o := .cells #[.int .i64 a0_0, .int .i64 a0_1, .slice A0_2 l0_2.length c0_2] 30 (0, 0)) zz2 hb); have n5_ := Aside0.mk (blk_below (g := gb606) (o := .cells #[.int .i64 a1_0, .int .i64 a1_1] 32 (0, 0)) zz6 hb); have n6_ := Aside0.mk (below_step zz1 hb); clear HO_10; clear HO_11; clear HO_46; clear BK605; clear BK606; clear HB; have HO_10 := n0_; have HO_11 := n1_; have HO_46 := n2_; have HO621 := n3_; have BK605 := n4_; have BK606 := n5_; have HB := n6_; clear n0_ n1_ n2_ n3_ n4_ n5_ n6_; (try clear hb); (try clear hb2); (try clear hk); (try clear hi); (try clear ho0); (try clear hna_); (try clear hnb_); obtain ⟨Ao52, co52, eo52⟩ := Kd.R_slice HO621.out; subst eo52))
     go_loopg [61] k2 (fun kq v61 w' => ∃ (x11_3 : List Int) (x61_3 : Int), v61 = .int .i64 x61_3 ∧ Aside0 (spec_CountRoutes.l2 kq a3 t608 x11_3 x12_1 x48_2 t608 (t608.length : Int) x48_2 t619 (t619.length : Int) x61_3 a0_0 a0_1 l0_2 a1_0 a1_1 = some (r1, r2)) ∧ Aside0 (kq ≤ k2) ∧ Aside0 (Kd.R (Kd.int .i64) 3 w' w.heap.size (fun k_ => some k_ ≠ ((.slice (some ⟨go25, 0, none⟩) x11_2.length co25) : Value).ownBlock ∧ some k_ ≠ ((.slice Ao52 t619.length co52) : Value).ownBlock) (.slice (some ad611) t608.length co35) t608) ∧ Aside0 (Kd.R (Kd.int .i64) 3 w' w.heap.size (fun k_ => some k_ ≠ ((.slice (some ad611) t608.length co35) : Value).ownBlock ∧ some k_ ≠ ((.slice (some ad611) t608.length co35) : Value).ownBlock ∧ some k_ ≠ ((.slice Ao52 t619.length co52) : Value).ownBlock) (.slice (some ⟨go25, 0, none⟩) x11_2.length co25) x11_3) ∧ Aside0 (Kd.R (Kd.int .i64) 3 w' w.heap.size (fun k_ => some k_ ≠ ((.slice (some ⟨go25, 0, none⟩) x11_2.length co25) : Value).ownBlock ∧ some k_ ≠ ((.slice Ao52 t619.length co52) : Value).ownBlock) (.slice (some ad611) t608.length co35) t608) ∧ Aside0 (Kd.R (Kd.int .i64) 3 w' w.heap.size (fun k_ => some k_ ≠ ((.slice (some ad611) t608.length co35) : Value).ownBlock ∧ some k_ ≠ ((.slice (some ⟨go25, 0, none⟩) x11_2.length co25) : Value).ownBlock ∧ some k_ ≠ ((.slice (some ad611) t608.length co35) : Value).ownBlock) (.slice Ao52 t619.length co52) t619) ∧ Aside0 (w'.heap[gb605]? = some (.cells #[.int .i64 a0_0, .int .i64 a0_1, (.slice A0_2 l0_2.length c0_2)] 30 (0, 0))) ∧ Aside0 (w'.heap[gb606]? = some (.cells #[.int .i64 a1_0, .int .i64 a1_1] 32 (0, 0))) ∧ Aside0 (Below w.heap.size w w'))
     case atStart => exact ⟨(x11_2), (0), zz13, H', ⟨Nat.le_refl _⟩, ⟨zz12⟩, ⟨by (try simp only [hl11_1]); (try simp only [hl11_2]); (with_reducible repeat (first | apply Kd.R_alloc | apply Kd.R_drewN | apply Kd.R_drew)); exact Kd.R_mono HO_11.out (fun _ hk => ⟨hk.1.1, ⟨hk.1.2, hk.2⟩⟩)⟩, ⟨zz18⟩, ⟨by (try simp only [hl11_1]); (try simp only [hl11_2]); (with_reducible repeat (first | apply Kd.R_alloc | apply Kd.R_drewN | apply Kd.R_drew)); exact Kd.R_mono HO621.out (fun _ hk => ⟨hk.1.1.2, ⟨hk.1.2, hk.2⟩⟩)⟩, ⟨zz11⟩, ⟨zz10⟩, ⟨zz1⟩⟩
     case round =>
      clear H'
      try clear c1; try clear c2; try clear p2; try clear q2; try clear hx2; try clear c3; try clear c4; try clear c5; try clear c6; try clear p6; try clear q6; try clear hx6; try clear c8; try clear c8b0; try clear c9; try clear c9b0; try clear c10; try clear c10b0; try clear c13; try clear c21; try clear c21b0; try clear c21b1; try clear c22; try clear c22b0; try clear c22b1; try clear c23; try clear c23b0; try clear c24; try clear c24b0; try clear p25; try clear q25; try clear hx25; try clear hf25; try clear c28; try clear c30; try clear c40; try clear c40b0; try clear c41; try clear c41b0; try clear c41b8
      try clear c42; try clear c42b0; try clear c43; try clear c43b0; try clear c43b8; try clear c44; try clear c44b0; try clear c45; try clear c45b0; try clear c45b8; try clear c46; try clear c46b0; try clear c46b1; try clear c48; try clear hcz14_0; try clear hcz14_1; try clear hcz14_2; try clear hcz15_0; try clear hcz15_1; try clear hcz17_0; try clear hcz17_1; try clear hcz17_2; try clear hcz18_0; try clear hcz18_1; try clear hcz29_0; try clear hcz29_1; try clear hcz29_2; try clear hcz30_0; try clear hcz30_1; try clear hcz32_0; try clear hcz32_1; try clear hcz32_2; try clear hcz33_0; try clear hcz33_1
      try clear hcz49_0; try clear hcz49_1; try clear hcz49_2; try clear hcz50_0; try clear hcz50_1; try clear hfz14_0; try clear hfz14_1; try clear hfz14_2; try clear hfz15_0; try clear hfz15_1; try clear hfz17_0; try clear hfz17_1; try clear hfz17_2; try clear hfz18_0; try clear hfz18_1; try clear hfz29_0; try clear hfz29_1; try clear hfz29_2; try clear hfz30_0; try clear hfz30_1; try clear hfz32_0; try clear hfz32_1; try clear hfz32_2; try clear hfz33_0; try clear hfz33_1; try clear hfz49_0; try clear hfz49_1; try clear hfz49_2; try clear hfz50_0; try clear hfz50_1; try clear hx25_0; try clear hx611_0
      try clear hx616_0; try clear hx618_0; try clear p2; try clear p25; try clear p6; try clear p611; try clear p616; try clear p618; try clear q2; try clear q25; try clear q6; try clear q611; try clear q616; try clear q618
      obtain ⟨x11_3, x61_3, rfl, HA, HK3, HO_10, HO_11, HO_46, HO_59, BK605, BK606, HB⟩ := hrel
      have hl11_3 := (Kd.R_reads' HO_11.out).1
      rw [hl11_3] at HO_11
      (try simp only [hl11_3])
      (try simp only [hl11_3] at BK605)
      (try simp only [hl11_3] at BK606)
      (try simp only [hl11_3] at HO_10)
      (try simp only [hl11_3] at HO_46)
      (try simp only [hl11_3] at HO_59)
      cases gk with
      | zero => exact absurd HA.out (by simp [spec_CountRoutes.l2])
      | succ k3 =>
       have H := HA.out
       clear HA
       simp only [spec_CountRoutes.l2] at H
       by_cases c53 : x61_3 < (t619.length : Int)
       rotate_left
       ·rw [if_neg c53] at H
        have c53b0 : decide (x61_3 < (t619.length : Int)) = false := decide_eq_false c53
        have c53b8 := c53b0
        (try simp only [hl11_1, hl11_2, hl11_3] at c53b8)
        clear c53
        have H' := Aside0.mk H
        clear H
        go_wp2
        (try simp only [← hl11_2, ← hl11_3])
        go_roundg k3
        case measure => have := HK1.out; have := HK2.out; have := HK3.out; omega
        case rel => exact ⟨(x11_3), (wrap64 (x48_2 + 1)), zz13, H', ⟨by have := HK1.out; have := HK2.out; have := HK3.out; omega⟩, ⟨by (try simp only [hl11_1]); (try simp only [hl11_2]); (try simp only [hl11_3]); (with_reducible repeat (first | apply Kd.R_alloc | apply Kd.R_drewN | apply Kd.R_drew)); exact Kd.R_mono HO_10.out (fun _ hk => hk.1)⟩, ⟨by (try simp only [hl11_1]); (try simp only [hl11_2]); (try simp only [hl11_3]); (with_reducible repeat (first | apply Kd.R_alloc | apply Kd.R_drewN | apply Kd.R_drew)); exact Kd.R_mono HO_11.out (fun _ hk => ⟨hk.1, hk.2.1⟩)⟩, ⟨by (try simp only [hl11_1]); (try simp only [hl11_2]); (try simp only [hl11_3]); (with_reducible repeat (first | apply Kd.R_alloc | apply Kd.R_drewN | apply Kd.R_drew)); exact Kd.R_mono HO_46.out (fun _ hk => hk.1)⟩, ⟨zz16⟩, ⟨zz15⟩, ⟨zz1⟩⟩
       rw [if_pos c53] at H
       have c53b0 : decide (x61_3 < (t619.length : Int)) = true := decide_eq_true c53
       have c53b8 := c53b0
       (try simp only [hl11_1, hl11_2, hl11_3] at c53b8)
       clear c53
       by_cases c54 : 0 ≤ x61_3
       rotate_left
       ·rw [if_neg c54] at H
        exact absurd H (by simp)
       rw [if_pos c54] at H
       have c54b0 : decide (0 ≤ x61_3) = true := decide_eq_true c54
       clear c54
       by_cases c55 : x61_3 < (t619.length : Int)
       rotate_left
       ·rw [if_neg c55] at H
        exact absurd H (by simp)
       rw [if_pos c55] at H
       have c55b0 : decide (x61_3 < (t619.length : Int)) = true := decide_eq_true c55
       have c55b8 := c55b0
       (try simp only [hl11_1, hl11_2, hl11_3] at c55b8)
       clear c55
       by_cases c56 : 0 ≤ (rd t619 x61_3)
       rotate_left
       ·rw [if_neg c56] at H
        exact absurd H (by simp)
       rw [if_pos c56] at H
       have c56b0 : decide (0 ≤ (rd t619 x61_3)) = true := decide_eq_true c56
       clear c56
       by_cases c57 : (rd t619 x61_3) < (t608.length : Int)
       rotate_left
       ·rw [if_neg c57] at H
        exact absurd H (by simp)
       rw [if_pos c57] at H
       have c57b0 : decide ((rd t619 x61_3) < (t608.length : Int)) = true := decide_eq_true c57
       have c57b8 := c57b0
       (try simp only [hl11_1, hl11_2, hl11_3] at c57b8)
       clear c57
       by_cases c58 : (rd t608 (rd t619 x61_3)) = (wrap64 (x12_1 + 1))
       rotate_left
       ·rw [if_neg c58] at H
        have c58b0 : ((rd t608 (rd t619 x61_3)) == (wrap64 (x12_1 + 1))) = false := beq_eq_false_iff_ne.mpr c58
        have c58b1 : ((rd t608 (rd t619 x61_3)) != (wrap64 (x12_1 + 1))) = true := bne_iff_ne.mpr c58
        have H' := Aside0.mk H
        clear H
        have p622 : 0 ≤ (x61_3 : Int) := of_decide_eq_true zz3
        have q622 : x61_3 < (t619.length : Int) := of_decide_eq_true zz3
        obtain ⟨ad622, e622, hx622_0⟩ := Kd.at_int (Kd.R_reads' HO_59.out).2.2 x61_3 p622 q622
        cases e622
        replace p622 := eq_true p622
        replace q622 := eq_true q622
        have p623 : 0 ≤ ((rd t619 x61_3) : Int) := of_decide_eq_true zz3
        have q623 : (rd t619 x61_3) < (t608.length : Int) := of_decide_eq_true zz3
        obtain ⟨ad623, e623, hx623_0⟩ := Kd.at_int (Kd.R_reads' HO_10.out).2.2 (rd t619 x61_3) p623 q623
        obtain rfl : ad611 = ad623 := (by injection e623)
        replace p623 := eq_true p623
        replace q623 := eq_true q623
        go_wp2
        (try simp only [← hl11_3])
        go_roundg k3
        case measure => have := HK1.out; have := HK2.out; have := HK3.out; omega
        case rel => exact ⟨(x11_3), (wrap64 (x61_3 + 1)), zz13, H', ⟨by have := HK1.out; have := HK2.out; have := HK3.out; omega⟩, ⟨by (try simp only [hl11_1]); (try simp only [hl11_2]); (try simp only [hl11_3]); (with_reducible repeat (first | apply Kd.R_alloc | apply Kd.R_drewN | apply Kd.R_drew)); exact HO_10.out⟩, ⟨by (try simp only [hl11_1]); (try simp only [hl11_2]); (try simp only [hl11_3]); (with_reducible repeat (first | apply Kd.R_alloc | apply Kd.R_drewN | apply Kd.R_drew)); exact HO_11.out⟩, ⟨by (try simp only [hl11_1]); (try simp only [hl11_2]); (try simp only [hl11_3]); (with_reducible repeat (first | apply Kd.R_alloc | apply Kd.R_drewN | apply Kd.R_drew)); exact HO_46.out⟩, ⟨by (try simp only [hl11_1]); (try simp only [hl11_2]); (try simp only [hl11_3]); (with_reducible repeat (first | apply Kd.R_alloc | apply Kd.R_drewN | apply Kd.R_drew)); exact HO_59.out⟩, ⟨zz16⟩, ⟨zz15⟩, ⟨zz1⟩⟩
       rw [if_pos c58] at H
       have c58b0 : ((rd t608 (rd t619 x61_3)) == (wrap64 (x12_1 + 1))) = true := beq_iff_eq.mpr c58
       have c58b1 : ((rd t608 (rd t619 x61_3)) != (wrap64 (x12_1 + 1))) = false := bne_eq_false_iff_eq.mpr c58
       clear c58
       by_cases c59 : (rd t619 x61_3) < (x11_3.length : Int)
       rotate_left
       ·rw [if_neg c59] at H
        exact absurd H (by simp)
       rw [if_pos c59] at H
       have c59b0 : decide ((rd t619 x61_3) < (x11_3.length : Int)) = true := decide_eq_true c59
       have c59b8 := c59b0
       (try simp only [hl11_1, hl11_2, hl11_3] at c59b8)
       clear c59
       by_cases c60 : 0 ≤ x48_2
       rotate_left
       ·rw [if_neg c60] at H
        exact absurd H (by simp)
       rw [if_pos c60] at H
       have c60b0 : decide (0 ≤ x48_2) = true := decide_eq_true c60
       clear c60
       by_cases c61 : x48_2 < (x11_3.length : Int)
       rotate_left
       ·rw [if_neg c61] at H
        exact absurd H (by simp)
       rw [if_pos c61] at H
       have c61b0 : decide (x48_2 < (x11_3.length : Int)) = true := decide_eq_true c61
       have c61b8 := c61b0
       (try simp only [hl11_1, hl11_2, hl11_3] at c61b8)
       clear c61
       obtain ⟨y626, hy626⟩ : ∃ y_ : List Int, y_ = (x11_3.set ((rd t619 x61_3) : Int).toNat (wrap64 ((rd x11_3 (rd t619 x61_3)) + (rd x11_3 x48_2)))) := ⟨_, rfl⟩
       replace H : (spec_CountRoutes.l2 k3 a3 t608 y626 x12_1 x48_2 t608 (t608.length : Int) x48_2 t619 (t619.length : Int) (wrap64 (x61_3 + 1)) a0_0 a0_1 l0_2 a1_0 a1_1) = some (r1, r2) := by first | (rw [hy626]; with_reducible exact H) | (have H2_ := (Option.bind_some _ _).symm.trans H; rw [hy626]; with_reducible exact H2_) | (have H2_ := (Option.bind_some _ _).symm.trans H; with_reducible exact H2_) | with_reducible exact H | (rw [hy626]; exact H) | exact H
       have Ny626 := Aside0.mk hy626
       clear hy626
       have H' := Aside0.mk H
       clear H
       have p622 : 0 ≤ (x61_3 : Int) := of_decide_eq_true zz3
       have q622 : x61_3 < (t619.length : Int) := of_decide_eq_true zz3
       obtain ⟨ad622, e622, hx622_0⟩ := Kd.at_int (Kd.R_reads' HO_59.out).2.2 x61_3 p622 q622
       cases e622
       replace p622 := eq_true p622
       replace q622 := eq_true q622
       have p623 : 0 ≤ ((rd t619 x61_3) : Int) := of_decide_eq_true zz3
       have q623 : (rd t619 x61_3) < (t608.length : Int) := of_decide_eq_true zz3
       obtain ⟨ad623, e623, hx623_0⟩ := Kd.at_int (Kd.R_reads' HO_10.out).2.2 (rd t619 x61_3) p623 q623
       obtain rfl : ad611 = ad623 := (by injection e623)
       replace p623 := eq_true p623
       replace q623 := eq_true q623
       try go_wp2
       have n0_ := Aside0.mk (Kd.R_drew HO_10.out)
       have n1_ := Aside0.mk (Kd.R_drew HO_11.out)
       have n2_ := Aside0.mk (Kd.R_drew HO_46.out)
       have n3_ := Aside0.mk (Kd.R_drew HO_59.out)
       have n4_ := Aside0.mk (blk_drew BK605.out)
       have n5_ := Aside0.mk (blk_drew BK606.out)
       have n6_ := Aside0.mk (below_drew1 HB.out)
       clear HO_10
       clear HO_11
       clear HO_46
       clear HO_59
       clear BK605
       clear BK606
       clear HB
       have HO_10 := n0_
       have HO_11 := n1_
       have HO_46 := n2_
       have HO_59 := n3_
       have BK605 := n4_
       have BK606 := n5_
       have HB := n6_
       clear n0_ n1_ n2_ n3_ n4_ n5_ n6_
       have p624 : 0 ≤ ((rd t619 x61_3) : Int) := of_decide_eq_true zz3
       have q624 : (rd t619 x61_3) < (x11_3.length : Int) := of_decide_eq_true zz3
       obtain ⟨ad624, e624, hx624_0⟩ := Kd.at_int (Kd.R_reads' HO_11.out).2.2 (rd t619 x61_3) p624 q624
       obtain rfl : (⟨go25, 0, none⟩ : Addr) = ad624 := (by injection e624)
       (first | simp only [add_plain] at hx624_0 | simp only [add_at] at hx624_0 | simp only [Addr.add, Nat.zero_add] at hx624_0 | skip)
       replace p624 := eq_true p624
       replace q624 := eq_true q624
       have p625 : 0 ≤ (x48_2 : Int) := of_decide_eq_true zz3
       have q625 : x48_2 < (x11_3.length : Int) := of_decide_eq_true zz3
       obtain ⟨ad625, e625, hx625_0⟩ := Kd.at_int (Kd.R_reads' HO_11.out).2.2 x48_2 p625 q625
       obtain rfl : (⟨go25, 0, none⟩ : Addr) = ad625 := (by injection e625)
       (first | simp only [add_plain] at hx625_0 | simp only [add_at] at hx625_0 | simp only [Addr.add, Nat.zero_add] at hx625_0 | skip)
       replace p625 := eq_true p625
       replace q625 := eq_true q625
       have p62 : 0 ≤ ((rd t619 x61_3) : Int) := of_decide_eq_true zz3
       have q62 : ((rd t619 x61_3) : Int) < ((x11_3.length : Int) : Int) := of_decide_eq_true zz3
       obtain ⟨hx62_0, hf62_0⟩ := Kd.R_celln 0 HO_11.out ((rd t619 x61_3) : Int) p62 q62
       replace p62 := eq_true p62
       replace q62 := eq_true q62
       have HP64 := Kd.R_putn HO_11.out ((rd t619 x61_3) : Int) (wrap64 ((rd x11_3 (rd t619 x61_3)) + (rd x11_3 x48_2)))
       rw [← Ny626.out] at HP64
       have HQ64 := Aside0.mk HP64
       clear HP64
       refine start_ (n := 11) (S := fun w' => w'.cell? ⟨go25, ((rd t619 x61_3)).toNat, none⟩ = some (.int .i64 (rd x11_3 (rd t619 x61_3))) ∧ w'.cell? ⟨go25, (x48_2).toNat, none⟩ = some (.int .i64 (rd x11_3 x48_2))) (ds := [10]) #[false, false, false, false, false, false, false, false, false, false, false] (by kernel_rfl) rfl rfl ⟨hx624_0, hx625_0⟩ (fun hHeld => ?_); refine with_tabW spec_CountRoutes.tab19 spec_CountRoutes.bits19 (fun HT_ HW_ => ?_)
       generalize wr.drew = w63 at HO_10 HO_11 HO_46 HO_59 BK605 BK606 HB HQ64 hf62_0 hx624_0 hx625_0 hx62_0 hHeld ⊢
       refine pure_ (i := 0) (N := some 72) (v := ?_) (a' := ?_) #[true, false, false, false, false, false, false, false, false, false, false] rfl rfl (any_of HT_.out (by kernel_rfl)) (fun _ _ _ h => h) (Or.inl ⟨by rfl, ?_⟩) ?_ ?_
       rotate_left
       ·intro w'
        go_simp
        with_reducible rfl
       rotate_left
       ·simp only [Act.put, List.setIfInBounds_toArray, List.set_cons_zero, List.set_cons_succ, i64_w, i32_w]
        rfl
       refine pure_ (i := 1) (N := some 73) (v := ?_) (a' := ?_) #[true, true, false, false, false, false, false, false, false, false, false] rfl rfl (any_of HT_.out (by kernel_rfl)) (fun _ _ _ h => h) (Or.inl ⟨by rfl, ?_⟩) ?_ ?_
       rotate_left
       ·intro w'
        go_simp
        with_reducible rfl
       rotate_left
       ·simp only [Act.put, List.setIfInBounds_toArray, List.set_cons_zero, List.set_cons_succ, i64_w, i32_w]
        rfl
       refine pure_ (i := 2) (N := some 74) (v := ?_) (a' := ?_) #[true, true, true, false, false, false, false, false, false, false, false] rfl rfl (any_of HT_.out (by kernel_rfl)) (fun _ _ _ h => h) (Or.inl ⟨by rfl, ?_⟩) ?_ ?_
       rotate_left
       ·intro w'
        go_simp
        with_reducible rfl
       rotate_left
       ·simp only [Act.put, List.setIfInBounds_toArray, List.set_cons_zero, List.set_cons_succ, i64_w, i32_w]
        rfl
       refine pure_ (i := 4) (N := some 76) (v := ?_) (a' := ?_) #[true, true, true, false, true, false, false, false, false, false, false] rfl rfl (any_of HT_.out (by kernel_rfl)) (fun _ _ _ h => h) (Or.inl ⟨by rfl, ?_⟩) ?_ ?_
       rotate_left
       ·intro w'
        go_simp
        with_reducible rfl
       rotate_left
       ·simp only [Act.put, List.setIfInBounds_toArray, List.set_cons_zero, List.set_cons_succ, i64_w, i32_w]
        rfl
       refine pure_ (i := 5) (N := some 77) (v := ?_) (a' := ?_) #[true, true, true, false, true, true, false, false, false, false, false] rfl rfl (any_of HT_.out (by kernel_rfl)) (fun _ _ _ h => h) (Or.inl ⟨by rfl, ?_⟩) ?_ ?_
       rotate_left
       ·intro w'
        go_simp
        with_reducible rfl
       rotate_left
       ·simp only [Act.put, List.setIfInBounds_toArray, List.set_cons_zero, List.set_cons_succ, i64_w, i32_w]
        rfl
       refine pure_ (i := 6) (N := some 78) (v := ?_) (a' := ?_) #[true, true, true, false, true, true, true, false, false, false, false] rfl rfl (any_of HT_.out (by kernel_rfl)) (fun _ _ _ h => h) (Or.inl ⟨by rfl, ?_⟩) ?_ ?_
       rotate_left
       ·intro w'
        go_simp
        with_reducible rfl
       rotate_left
       ·simp only [Act.put, List.setIfInBounds_toArray, List.set_cons_zero, List.set_cons_succ, i64_w, i32_w]
        rfl
       refine take_ (i := 3) (N := some 75) (v := ?_) (a' := ?_) #[true, true, true, true, true, true, true, false, false, false, false] rfl rfl (take_ofW HT_.out HW_.out (by kernel_rfl)) (fun _ _ _ h => h) (Or.inl ⟨by rfl, ?_⟩) hHeld ?_ ?_
       rotate_left
       ·rintro w' ⟨s0, s1⟩
        go_simp
        with_reducible rfl
       rotate_left
       ·simp only [Act.put, List.setIfInBounds_toArray, List.set_cons_zero, List.set_cons_succ, i64_w, i32_w]
        rfl
       refine take_ (i := 7) (N := some 79) (v := ?_) (a' := ?_) #[true, true, true, true, true, true, true, true, false, false, false] rfl rfl (take_ofW HT_.out HW_.out (by kernel_rfl)) (fun _ _ _ h => h) (Or.inl ⟨by rfl, ?_⟩) hHeld ?_ ?_
       rotate_left
       ·rintro w' ⟨s0, s1⟩
        go_simp
        with_reducible rfl
       rotate_left
       ·simp only [Act.put, List.setIfInBounds_toArray, List.set_cons_zero, List.set_cons_succ, i64_w, i32_w]
        rfl
       refine pure_ (i := 8) (N := some 80) (v := ?_) (a' := ?_) #[true, true, true, true, true, true, true, true, true, false, false] rfl rfl (any_of HT_.out (by kernel_rfl)) (fun _ _ _ h => h) (Or.inl ⟨by rfl, ?_⟩) ?_ ?_
       rotate_left
       ·intro w'
        go_simp
        with_reducible rfl
       rotate_left
       ·simp only [Act.put, List.setIfInBounds_toArray, List.set_cons_zero, List.set_cons_succ, i64_w, i32_w]
        rfl
       refine pure_ (i := 9) (N := some 81) (v := ?_) (a' := ?_) #[true, true, true, true, true, true, true, true, true, true, false] rfl rfl (any_of HT_.out (by kernel_rfl)) (fun _ _ _ h => h) (Or.inl ⟨by rfl, ?_⟩) ?_ ?_
       rotate_left
       ·intro w'
        go_simp
        with_reducible rfl
       rotate_left
       ·simp only [Act.put, List.setIfInBounds_toArray, List.set_cons_zero, List.set_cons_succ, i64_w, i32_w]
        rfl
       refine last_ (i := 10) (N := none) #[true, true, true, true, true, true, true, true, true, true, true] rfl rfl (one_of HT_.out (by kernel_rfl)) (by decide) (fun K hK => ?_)
       refine skip_ (w1 := ?_) (by rfl) rfl ?_ ?_
       rotate_left
       ·go_simp
        rfl
       refine hK.out _ _ ?_
       clear hK K
       refine done_ (done_of HT_.out (by kernel_rfl)) ?_
       try go_wp2
       (try simp only [← hl11_3])
       go_roundg k3
       case measure => have := HK1.out; have := HK2.out; have := HK3.out; omega
       case rel => exact ⟨(y626), (wrap64 (x61_3 + 1)), zz13, H', ⟨by have := HK1.out; have := HK2.out; have := HK3.out; omega⟩, ⟨by (try simp only [hl11_1]); (try simp only [hl11_2]); (try simp only [hl11_3]); (with_reducible repeat (first | apply Kd.R_alloc | apply Kd.R_drewN | apply Kd.R_drew)); exact Kd.R_mono (Kd.R_far (p := ⟨go25, ((rd t619 x61_3) : Int).toNat, none⟩) (Kd.R_mono HO_10.out (fun k_ hk => (⟨hk, fun e_ => hk.1 (by rw [e_]; rfl)⟩ : _ ∧ k_ ≠ go25))) (fun _ hk => hk.2) (.int .i64 (wrap64 ((rd x11_3 (rd t619 x61_3)) + (rd x11_3 x48_2))))) (fun _ hk => ⟨hk.1.1, hk.1.2⟩)⟩, ⟨by (try simp only [hl11_1]); (try simp only [hl11_2]); (try simp only [hl11_3]); (with_reducible repeat (first | apply Kd.R_alloc | apply Kd.R_drewN | apply Kd.R_drew)); exact HQ64.out⟩, ⟨by (try simp only [hl11_1]); (try simp only [hl11_2]); (try simp only [hl11_3]); (with_reducible repeat (first | apply Kd.R_alloc | apply Kd.R_drewN | apply Kd.R_drew)); exact Kd.R_mono (Kd.R_far (p := ⟨go25, ((rd t619 x61_3) : Int).toNat, none⟩) (Kd.R_mono HO_46.out (fun k_ hk => (⟨hk, fun e_ => hk.1 (by rw [e_]; rfl)⟩ : _ ∧ k_ ≠ go25))) (fun _ hk => hk.2) (.int .i64 (wrap64 ((rd x11_3 (rd t619 x61_3)) + (rd x11_3 x48_2))))) (fun _ hk => ⟨hk.1.1, hk.1.2⟩)⟩, ⟨by (try simp only [hl11_1]); (try simp only [hl11_2]); (try simp only [hl11_3]); (with_reducible repeat (first | apply Kd.R_alloc | apply Kd.R_drewN | apply Kd.R_drew)); exact Kd.R_mono (Kd.R_far (p := ⟨go25, ((rd t619 x61_3) : Int).toNat, none⟩) (Kd.R_mono HO_59.out (fun k_ hk => (⟨hk, fun e_ => hk.2.1 (by rw [e_]; rfl)⟩ : _ ∧ k_ ≠ go25))) (fun _ hk => hk.2) (.int .i64 (wrap64 ((rd x11_3 (rd t619 x61_3)) + (rd x11_3 x48_2))))) (fun _ hk => ⟨hk.1.1, ⟨hk.1.2.1, hk.1.2.2⟩⟩)⟩, ⟨by (try simp only [hl11_1]); (try simp only [hl11_2]); (try simp only [hl11_3]); (with_reducible repeat (first | refine blk_drewN ?_ _ | refine blk_drew ?_ | refine blk_alloc ?_ _)); refine blk_far ?_ (by have h_ := Kd.R_ne HO_11.out BK605.out (by decide); intro e_; exact h_ (by rw [e_]; rfl)) _; (with_reducible repeat (first | refine blk_drewN ?_ _ | refine blk_drew ?_ | refine blk_alloc ?_ _)); exact BK605.out⟩, ⟨by (try simp only [hl11_1]); (try simp only [hl11_2]); (try simp only [hl11_3]); (with_reducible repeat (first | refine blk_drewN ?_ _ | refine blk_drew ?_ | refine blk_alloc ?_ _)); refine blk_far ?_ (by have h_ := Kd.R_ne HO_11.out BK606.out (by decide); intro e_; exact h_ (by rw [e_]; rfl)) _; (with_reducible repeat (first | refine blk_drewN ?_ _ | refine blk_drew ?_ | refine blk_alloc ?_ _)); exact BK606.out⟩, ⟨by repeat (first | (with_reducible first | exact HB.out | apply below_alloc | apply pw_below_drewN | apply below_drew1 | refine below_set ?_ GB25.out | refine below_set ?_ GE605.out | refine below_set ?_ GE606.out) | exact HB.out)⟩⟩

end Go.Proofs.Ytjeongckkfkehaa.Q

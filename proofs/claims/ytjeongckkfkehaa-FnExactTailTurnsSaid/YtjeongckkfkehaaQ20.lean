/- Written by a program of this session: functions of the translation as plain Lean functions, each with a proof that the call does what the plain function says; the conditions stand in each theorem. -/
import Derived.Test.YtjeongckkfkehaaQ0
import Derived.Test.YtjeongckkfkehaaQ2
import Derived.Test.YtjeongckkfkehaaQ7
import Derived.Test.YtjeongckkfkehaaQ19
namespace Go.Proofs.Ytjeongckkfkehaa.Q
open Go.RowKit Go.Proofs.YtjeongckkfkehaaW.PrintWords Go.Proofs.YtjeongckkfkehaaW.PrintLast Go.Proofs.YtjeongckkfkehaaW.PrintMore
attribute [local go_sem] max2_int min2_int max_two min_two max_three min_three max_four min_four   -- for this text's walks alone
set_option linter.unusedVariables false
set_option linter.unusedSimpArgs false

theorem zu1 {p : Prop} (h : p := by repeat (first | exact (Kd.C_below HR0_2.out HB.out) | (with_reducible refine Kd.C_alloc ?_ _) | (with_reducible refine Kd.C_drewN ?_ _) | (with_reducible refine Kd.C_drew ?_))) : p := h
theorem zu2 {p : Prop} (h : p := by repeat (first | (with_reducible first | exact HB.out | apply below_alloc | apply pw_below_drewN | apply below_drew1) | exact HB.out)) : p := h
theorem zu3 {p : Prop} (h : p := by repeat (first | (with_reducible first | exact HB.out | apply below_alloc | apply pw_below_drewN | apply below_drew1 | refine below_set ?_ GE0.out) | exact HB.out)) : p := h
theorem zu4 {p : Prop} (h : p := by (with_reducible repeat (first | refine blk_drewN ?_ _ | refine blk_drew ?_ | refine blk_alloc ?_ _)); exact BK0.out) : p := h
theorem zu5 {p : Prop} (h : p := by repeat (first | (with_reducible first | exact HB.out | apply below_alloc | apply pw_below_drewN | apply below_drew1 | refine below_set ?_ GE497.out | refine below_set ?_ GE498.out) | exact HB.out)) : p := h
theorem zu6 {p : Prop} (h : p := by repeat (first | exact (Kd.C_below HR0_6.out HB.out) | (with_reducible refine Kd.C_alloc ?_ _) | (with_reducible refine Kd.C_drewN ?_ _) | (with_reducible refine Kd.C_drew ?_))) : p := h
theorem zu7 {p : Prop} (h : p := by repeat (first | exact (Kd.C_below HR0_5.out HB.out) | (with_reducible refine Kd.C_alloc ?_ _) | (with_reducible refine Kd.C_drewN ?_ _) | (with_reducible refine Kd.C_drew ?_))) : p := h
theorem zu8 {p : Prop} (h : p := by repeat (first | (with_reducible first | exact HB.out | apply below_alloc | apply pw_below_drewN | apply below_drew1 | refine below_set ?_ GE463.out | refine below_set ?_ GE464.out) | exact HB.out)) : p := h
theorem zu10 {p : Prop} (h : p := by repeat (first | exact (Kd.C_below HR2.out HB.out) | (with_reducible refine Kd.C_alloc ?_ _) | (with_reducible refine Kd.C_drewN ?_ _) | (with_reducible refine Kd.C_drew ?_))) : p := h
theorem zu11 {p : Prop} (h : p := by (with_reducible repeat (first | refine blk_drewN ?_ _ | refine blk_drew ?_ | refine blk_alloc ?_ _)); exact BK497.out) : p := h
theorem zu12 {p : Prop} (h : p := by repeat (first | (with_reducible first | exact HB.out | apply below_alloc | apply pw_below_drewN | apply below_drew1 | refine below_set ?_ GE469.out | refine below_set ?_ GE470.out) | exact HB.out)) : p := h
theorem zu13 {p : Prop} (h : p := by (try simp only [List.map_toArray, List.map_cons, List.map_nil]); first | done | rfl | (simp only [List.length_drop, List.length_take]; rfl)) : p := h
theorem zu14 {p : Prop} (h : p := by (with_reducible repeat (first | refine blk_drewN ?_ _ | refine blk_drew ?_ | refine blk_alloc ?_ _)); exact BK469.out) : p := h
theorem zu15 {p : Prop} (h : p := by (with_reducible repeat (first | refine blk_drewN ?_ _ | refine blk_drew ?_ | refine blk_alloc ?_ _)); exact BK463.out) : p := h
theorem zu16 {p : Prop} (h : p := by repeat (first | (with_reducible first | exact HB.out | apply below_alloc | apply pw_below_drewN | apply below_drew1 | refine below_set ?_ GE497.out) | exact HB.out)) : p := h
theorem zu17 {p : Prop} (h : p := by repeat (first | (with_reducible first | exact HB.out | apply below_alloc | apply pw_below_drewN | apply below_drew1 | refine below_set ?_ GE469.out) | exact HB.out)) : p := h
theorem zu18 {p : Prop} (h : p := by (with_reducible repeat (first | apply Kd.R_alloc | apply Kd.R_drewN | apply Kd.R_drew)); exact HO_5.out) : p := h
theorem zu19 {p : Prop} (h : p := by (with_reducible repeat (first | refine blk_drewN ?_ _ | refine blk_drew ?_ | refine blk_alloc ?_ _)); exact BK464.out) : p := h
theorem zu20 {p : Prop} (h : p := by first | (with_reducible assumption) | assumption) : p := h
theorem zu21 {p : Prop} (h : p := by (with_reducible repeat (first | refine blk_drewN ?_ _ | refine blk_drew ?_ | refine blk_alloc ?_ _)); exact BK498.out) : p := h
theorem zu22 {p : Prop} (h : p := by first | rfl | (simp [errW_none, errW_some] <;> rfl) | (simp [*, errW_none, errW_some] <;> rfl)) : p := h
theorem zu23 {p : Prop} (h : p := by repeat (first | (with_reducible first | exact HB.out | apply below_alloc | apply pw_below_drewN | apply below_drew1 | refine below_set ?_ GE497.out | refine below_set ?_ GE498.out | refine below_set ?_ GE505.out) | exact HB.out)) : p := h
theorem zu24 {p : Prop} (h : p := by first | exact Kd.R_nil _ _ _ _ _ | exact Kd.N_nil _ _ _ _ _ | exact Kd.V_nil _ _ _ _ _ | exact Kd.Q_nil _ _ _ _ _ | exact Kd.S_nil _ _ _ _ _) : p := h
theorem zu25 {p : Prop} (h : p := by (with_reducible repeat (first | apply Kd.R_alloc | apply Kd.R_drewN | apply Kd.R_drew)); exact HO_7.out) : p := h
theorem zu26 {p : Prop} (h : p := by (with_reducible repeat (first | refine blk_drewN ?_ _ | refine blk_drew ?_ | refine blk_alloc ?_ _)); exact BK458.out) : p := h
theorem zu27 {p : Prop} (h : p := by repeat (first | (with_reducible first | exact HB.out | apply below_alloc | apply pw_below_drewN | apply below_drew1 | refine below_set ?_ GE463.out) | exact HB.out)) : p := h
theorem zu28 {p : Prop} (h : p := by repeat (first | (with_reducible first | exact HB.out | apply below_alloc | apply pw_below_drewN | apply below_drew1 | refine below_set ?_ GE458.out) | exact HB.out)) : p := h
theorem zu29 {p : Prop} (h : p := by (with_reducible repeat (first | refine blk_drewN ?_ _ | refine blk_drew ?_ | refine blk_alloc ?_ _)); exact BK470.out) : p := h
theorem zu30 {p : Prop} (h : p := by first | rfl | (simp; done) | (simp [*]; done)) : p := h
theorem zu31 {p : Prop} (h : p := by repeat (first | (with_reducible first | exact HB.out | apply below_alloc | apply pw_below_drewN | apply below_drew1 | refine below_set ?_ GE458.out | refine below_set ?_ GE459.out) | exact HB.out)) : p := h
theorem zu32 {p : Prop} (h : p := by (with_reducible repeat (first | refine blk_drewN ?_ _ | refine blk_drew ?_ | refine blk_alloc ?_ _)); exact BK505.out) : p := h
theorem zu33 {p : Prop} (h : p := by rw [hg]; exact (below_size zu2)) : p := h
theorem zu34 {p : Prop} (h : p := by rw [hg]; exact Nat.ne_of_lt (blk_lt (g := gb497) (o := .cells #[.int .i64 a0_0, .int .i64 a0_1, .slice A0_2 l0_2.length c0_2] 30 (0, 0)) zu11)) : p := h
theorem zu35 {p : Prop} (h : p := by rw [hg]; exact Nat.ne_of_lt (blk_lt (g := gb469) (o := .cells #[.int .i64 a0_0, .int .i64 a0_1, .slice A0_2 l0_2.length c0_2] 30 (0, 0)) zu14)) : p := h
theorem zu36 {p : Prop} (h : p := by rw [hg]; exact Nat.ne_of_gt (blk_lt (g := gb497) (o := .cells #[.int .i64 a0_0, .int .i64 a0_1, .slice A0_2 l0_2.length c0_2] 30 (0, 0)) zu11)) : p := h
theorem zu37 {p : Prop} (h : p := by rw [hg]; exact Nat.ne_of_gt (blk_lt (g := gb469) (o := .cells #[.int .i64 a0_0, .int .i64 a0_1, .slice A0_2 l0_2.length c0_2] 30 (0, 0)) zu14)) : p := h
/-! ### spec_blCan: function 102 -/
def spec_blCan.f (a0_0 : Int) (a0_1 : Int) (l0_2 : List Int) (a1_0 : Int) (a1_1 : Int) (l2 : List Int) (a3 : Int) : Option (Bool) := if 0 ≤ (wrap64 (a3 - 1)) then (if (wrap64 (a3 - 1)) < (l2.length : Int) then (if 0 ≤ (wrap64 ((l2.length : Int) - 1)) then (if (wrap64 ((l2.length : Int) - 1)) < (l2.length : Int) then ((spec_boIs.f a0_0 a0_1 l0_2 a1_0 a1_1 (rd l2 (wrap64 (a3 - 1))) (rd l2 (wrap64 ((l2.length : Int) - 1)))).bind fun t462 => (some t462)) else (none)) else (none)) else (none)) else (none)
def spec_blCan.T1 : Bool × List (List Nat × List Nat) := (true, [([], []), ([], []), ([], []), ([], []), ([3], [3]), ([2, 4], [2, 4]), ([5], [5]), ([], []), ([], []), ([8], [8]), ([9], [9]), ([7, 10], [7, 10]), ([11], [11]), ([0, 1, 6, 12], [0, 1, 6, 12]), ([13, 13, 0, 1, 2, 3, 4, 5, 6, 7, 8, 9, 10, 11, 12, 13], [13])])
def spec_blCan.B1 : List Nat := [0, 0, 0, 0, 8, 28, 60, 0, 0, 256, 768, 1920, 3968, 8191, 16383]
theorem spec_blCan.tab1 : rtab .any (opsOf Try.f102 1) = spec_blCan.T1 := by kernel_rfl
theorem spec_blCan.bits1 : waitsOk spec_blCan.T1.2 spec_blCan.B1 = true := by kernel_rfl
set_option maxHeartbeats 8000000 in
set_option maxRecDepth 100000 in
theorem spec_blCan.calls (a0_0 : Int) (a0_1 : Int) (A0_2 : Option Addr) (c0_2 : Nat) (l0_2 : List Int) (a1_0 : Int) (a1_1 : Int) (A2 : Option Addr) (c2 : Nat) (l2 : List Int) (a3 : Int) (r : Bool) (w : World) (hr0_2 : Kd.C (Kd.int .i64) w A0_2 l0_2.length l0_2) (hc0_2 : l0_2.length ≤ c0_2) (hr2 : Kd.C (Kd.int .i64) w A2 l2.length l2) (hc2 : l2.length ≤ c2) (h : spec_blCan.f a0_0 a0_1 l0_2 a1_0 a1_1 l2 a3 = some r) :
  Calls Try.prog 102 #[.agg #[.int .i64 a0_0, .int .i64 a0_1, .slice A0_2 l0_2.length c0_2], .agg #[.int .i64 a1_0, .int .i64 a1_1], .slice A2 l2.length c2, .int .i64 a3] w fun e w' => e = .returned (.bool r) ∧ Below w.heap.size w w' := by
 have hu30 := Try.underlying30
 have hu32 := Try.underlying32
 have HR0_2 := Aside0.mk hr0_2
 have HC0_2 := Aside0.mk hc0_2
 clear hr0_2 hc0_2
 have HR2 := Aside0.mk hr2
 have HC2 := Aside0.mk hc2
 clear hr2 hc2
 have HB := Aside0.mk (Below.refl w.heap.size w)
 have H : (if 0 ≤ (wrap64 (a3 - 1)) then (if (wrap64 (a3 - 1)) < (l2.length : Int) then (if 0 ≤ (wrap64 ((l2.length : Int) - 1)) then (if (wrap64 ((l2.length : Int) - 1)) < (l2.length : Int) then ((spec_boIs.f a0_0 a0_1 l0_2 a1_0 a1_1 (rd l2 (wrap64 (a3 - 1))) (rd l2 (wrap64 ((l2.length : Int) - 1)))).bind fun t462 => (some t462)) else (none)) else (none)) else (none)) else (none)) = some r := h
 clear h
 obtain ⟨ji5, hji5⟩ : ∃ j_ : Int, (wrap64 (a3 - 1)) = j_ := ⟨_, rfl⟩
 replace H : (if 0 ≤ (ji5) then (if (ji5) < (l2.length : Int) then (if 0 ≤ (wrap64 ((l2.length : Int) - 1)) then (if (wrap64 ((l2.length : Int) - 1)) < (l2.length : Int) then ((spec_boIs.f a0_0 a0_1 l0_2 a1_0 a1_1 (rd l2 (ji5)) (rd l2 (wrap64 ((l2.length : Int) - 1)))).bind fun t462 => (some t462)) else (none)) else (none)) else (none)) else (none)) = some r := by first | (rw [hji5] at H; exact H) | (simp only [hji5] at H ⊢; exact H)
 have hji5w : (IntKind.i64.wrap (a3 - 1)) = ji5 := (i64_w _).trans hji5
 by_cases c6 : 0 ≤ (ji5)
 rotate_left
 ·rw [if_neg c6] at H
  exact absurd H (by simp)
 rw [if_pos c6] at H
 have c6b0 : decide (0 ≤ (ji5)) = true := decide_eq_true c6
 clear c6
 by_cases c7 : (ji5) < (l2.length : Int)
 rotate_left
 ·rw [if_neg c7] at H
  exact absurd H (by simp)
 rw [if_pos c7] at H
 have c7b0 : decide ((ji5) < (l2.length : Int)) = true := decide_eq_true c7
 clear c7
 obtain ⟨ji8, hji8⟩ : ∃ j_ : Int, (wrap64 ((l2.length : Int) - 1)) = j_ := ⟨_, rfl⟩
 replace H : (if 0 ≤ (ji8) then (if (ji8) < (l2.length : Int) then ((spec_boIs.f a0_0 a0_1 l0_2 a1_0 a1_1 (rd l2 (ji5)) (rd l2 (ji8))).bind fun t462 => (some t462)) else (none)) else (none)) = some r := by first | (rw [hji8] at H; exact H) | (simp only [hji8] at H ⊢; exact H)
 have hji8w : (IntKind.i64.wrap ((l2.length : Int) - 1)) = ji8 := (i64_w _).trans hji8
 by_cases c9 : 0 ≤ (ji8)
 rotate_left
 ·rw [if_neg c9] at H
  exact absurd H (by simp)
 rw [if_pos c9] at H
 have c9b0 : decide (0 ≤ (ji8)) = true := decide_eq_true c9
 clear c9
 by_cases c10 : (ji8) < (l2.length : Int)
 rotate_left
 ·rw [if_neg c10] at H
  exact absurd H (by simp)
 rw [if_pos c10] at H
 have c10b0 : decide ((ji8) < (l2.length : Int)) = true := decide_eq_true c10
 clear c10
 replace H := Option.bind_eq_some_iff.mp H
 obtain ⟨t462, A110, H⟩ := H
 replace H : (some t462) = some r := H
 have A11 := Aside0.mk A110
 clear A110
 obtain rfl := Option.some.inj H
 go_enter Try.func102, Try.ntmps102
 try go_wp2_with (first | ((with_reducible refine gate_dst (N := 4) rfl ?_); refine box_event ?hg (N := 4) ?hd (cs := #[.int .i64 a0_0, .int .i64 a0_1, .slice A0_2 l0_2.length c0_2]) (t := 30) ?hr ?_; (case hd => rfl); (case hg => rfl); (case hr => first | (go_simp; done) | (go_simp; rfl)); intro gb458 hg w12 hbox hb; have n0_ := Aside0.mk (below_step zu2 hb); have n1_ := Aside0.mk (hbox); have n2_ := Aside0.mk ((zu33 : w.heap.size ≤ gb458)); have n3_ := Aside0.mk ((zu33 : w.heap.size ≤ gb458)); clear HB; have HB := n0_; have BK458 := n1_; have GW458 := n2_; have GE458 := n3_; clear n0_ n1_ n2_ n3_; clear hb hbox hg) | ((with_reducible refine gate_dst (N := 5) rfl ?_); refine box_event ?hg (N := 5) ?hd (cs := #[.int .i64 a1_0, .int .i64 a1_1]) (t := 32) ?hr ?_; (case hd => rfl); (case hg => rfl); (case hr => first | (go_simp; done) | (go_simp; rfl)); intro gb459 hg w13 hbox hb; have n0_ := Aside0.mk (blk_below (g := gb458) (o := .cells #[.int .i64 a0_0, .int .i64 a0_1, .slice A0_2 l0_2.length c0_2] 30 (0, 0)) zu26 hb); have n1_ := Aside0.mk (below_step zu28 hb); have n2_ := Aside0.mk (hbox); have n3_ := Aside0.mk ((by rw [hg]; exact (below_size zu28) : w.heap.size ≤ gb459)); have n4_ := Aside0.mk ((by rw [hg]; exact (below_size zu28) : w.heap.size ≤ gb459)); have n5_ := Aside0.mk ((by rw [hg]; exact Nat.ne_of_lt (blk_lt (g := gb458) (o := .cells #[.int .i64 a0_0, .int .i64 a0_1, .slice A0_2 l0_2.length c0_2] 30 (0, 0)) zu26) : gb458 ≠ gb459)); have n6_ := Aside0.mk ((by rw [hg]; exact Nat.ne_of_gt (blk_lt (g := gb458) (o := .cells #[.int .i64 a0_0, .int .i64 a0_1, .slice A0_2 l0_2.length c0_2] 30 (0, 0)) zu26) : gb459 ≠ gb458)); clear BK458; clear HB; have BK458 := n0_; have HB := n1_; have BK459 := n2_; have GW459 := n3_; have GE459 := n4_; have NB458_459 := n5_; have NB459_458 := n6_; clear n0_ n1_ n2_ n3_ n4_ n5_ n6_; clear hb hbox hg))
 have n0_ := Aside0.mk (blk_drew BK458.out)
 have n1_ := Aside0.mk (blk_drew BK459.out)
 have n2_ := Aside0.mk (below_drew1 HB.out)
 clear BK458
 clear BK459
 clear HB
 have BK458 := n0_
 have BK459 := n1_
 have HB := n2_
 clear n0_ n1_ n2_
 have p460 : 0 ≤ ((ji5) : Int) := of_decide_eq_true zu20
 have q460 : (ji5) < (l2.length : Int) := of_decide_eq_true zu20
 obtain ⟨ad460, e460, hx460_0⟩ := Kd.at_int HR2.out (ji5) p460 q460
 have hw460_0 := hx460_0
 cases e460
 (first | replace hx460_0 := (HB.out.cell (World.block_lt_of_cell? w _ hx460_0)).trans hx460_0 | skip)
 replace p460 := eq_true p460
 replace q460 := eq_true q460
 have p461 : 0 ≤ ((ji8) : Int) := of_decide_eq_true zu20
 have q461 : (ji8) < (l2.length : Int) := of_decide_eq_true zu20
 obtain ⟨ad461, e461, hx461_0⟩ := Kd.at_int HR2.out (ji8) p461 q461
 have hw461_0 := hx461_0
 obtain rfl : ad460 = ad461 := (by injection e461)
 (first | replace hx461_0 := (HB.out.cell (World.block_lt_of_cell? w _ hx461_0)).trans hx461_0 | skip)
 replace p461 := eq_true p461
 replace q461 := eq_true q461
 refine start_ (n := 15) (S := fun w' => w'.cell? ⟨gb458, 0, none⟩ = some (.int .i64 a0_0) ∧ w'.cell? ⟨gb458, 1, none⟩ = some (.int .i64 a0_1) ∧ w'.cell? ⟨gb458, 2, none⟩ = some (.slice A0_2 l0_2.length c0_2) ∧ w'.cell? ⟨gb459, 0, none⟩ = some (.int .i64 a1_0) ∧ w'.cell? ⟨gb459, 1, none⟩ = some (.int .i64 a1_1) ∧ w'.cell? (ad460.add ((ji5)).toNat) = some (.int .i64 (rd l2 (ji5))) ∧ w'.cell? (ad460.add ((ji8)).toNat) = some (.int .i64 (rd l2 (ji8)))) (ds := []) #[false, false, false, false, false, false, false, false, false, false, false, false, false, false, false] (by kernel_rfl) rfl rfl ⟨(blk_cell BK458.out 0).trans rfl, (blk_cell BK458.out 1).trans rfl, (blk_cell BK458.out 2).trans rfl, (blk_cell BK459.out 0).trans rfl, (blk_cell BK459.out 1).trans rfl, ((HB.out.cell (World.block_lt_of_cell? w _ hw460_0)).trans hw460_0), ((HB.out.cell (World.block_lt_of_cell? w _ hw461_0)).trans hw461_0)⟩ (fun hHeld => ?_); refine with_tabW spec_blCan.tab1 spec_blCan.bits1 (fun HT_ HW_ => ?_)
 generalize w13.drew = w14 at BK458 BK459 HB hx460_0 hx461_0 hHeld ⊢
 refine pure_ (i := 2) (N := some 11) (v := ?_) (a' := ?_) #[false, false, true, false, false, false, false, false, false, false, false, false, false, false, false] rfl rfl (any_of HT_.out (by kernel_rfl)) (fun _ _ _ h => h) (Or.inl ⟨by rfl, ?_⟩) ?_ ?_
 rotate_left
 ·intro w'
  go_simp
  with_reducible rfl
 rotate_left
 ·simp only [Act.put, List.setIfInBounds_toArray, List.set_cons_zero, List.set_cons_succ, i64_w, i32_w]
  rfl
 refine pure_ (i := 3) (N := some 12) (v := ?_) (a' := ?_) #[false, false, true, true, false, false, false, false, false, false, false, false, false, false, false] rfl rfl (any_of HT_.out (by kernel_rfl)) (fun _ _ _ h => h) (Or.inl ⟨by rfl, ?_⟩) ?_ ?_
 rotate_left
 ·intro w'
  go_simp
  with_reducible rfl
 rotate_left
 ·simp only [Act.put, List.setIfInBounds_toArray, List.set_cons_zero, List.set_cons_succ, i64_w, i32_w]
  rfl
 refine pure_ (i := 4) (N := some 13) (v := ?_) (a' := ?_) #[false, false, true, true, true, false, false, false, false, false, false, false, false, false, false] rfl rfl (any_of HT_.out (by kernel_rfl)) (fun _ _ _ h => h) (Or.inl ⟨by rfl, ?_⟩) ?_ ?_
 rotate_left
 ·intro w'
  go_simp
  with_reducible rfl
 rotate_left
 ·simp only [Act.put, List.setIfInBounds_toArray, List.set_cons_zero, List.set_cons_succ, i64_w, i32_w]
  rfl
 refine pure_ (i := 5) (N := some 14) (v := ?_) (a' := ?_) #[false, false, true, true, true, true, false, false, false, false, false, false, false, false, false] rfl rfl (any_of HT_.out (by kernel_rfl)) (fun _ _ _ h => h) (Or.inl ⟨by rfl, ?_⟩) ?_ ?_
 rotate_left
 ·intro w'
  go_simp
  with_reducible rfl
 rotate_left
 ·simp only [Act.put, List.setIfInBounds_toArray, List.set_cons_zero, List.set_cons_succ, i64_w, i32_w]
  rfl
 refine pure_ (i := 7) (N := some 16) (v := ?_) (a' := ?_) #[false, false, true, true, true, true, false, true, false, false, false, false, false, false, false] rfl rfl (any_of HT_.out (by kernel_rfl)) (fun _ _ _ h => h) (Or.inl ⟨by rfl, ?_⟩) ?_ ?_
 rotate_left
 ·intro w'
  go_simp
  with_reducible rfl
 rotate_left
 ·simp only [Act.put, List.setIfInBounds_toArray, List.set_cons_zero, List.set_cons_succ, i64_w, i32_w]
  rfl
 refine pure_ (i := 8) (N := some 17) (v := ?_) (a' := ?_) #[false, false, true, true, true, true, false, true, true, false, false, false, false, false, false] rfl rfl (any_of HT_.out (by kernel_rfl)) (fun _ _ _ h => h) (Or.inl ⟨by rfl, ?_⟩) ?_ ?_
 rotate_left
 ·intro w'
  go_simp
  with_reducible rfl
 rotate_left
 ·simp only [Act.put, List.setIfInBounds_toArray, List.set_cons_zero, List.set_cons_succ, i64_w, i32_w]
  rfl
 refine pure_ (i := 9) (N := some 18) (v := ?_) (a' := ?_) #[false, false, true, true, true, true, false, true, true, true, false, false, false, false, false] rfl rfl (any_of HT_.out (by kernel_rfl)) (fun _ _ _ h => h) (Or.inl ⟨by rfl, ?_⟩) ?_ ?_
 rotate_left
 ·intro w'
  go_simp
  with_reducible rfl
 rotate_left
 ·simp only [Act.put, List.setIfInBounds_toArray, List.set_cons_zero, List.set_cons_succ, i64_w, i32_w]
  rfl
 refine pure_ (i := 10) (N := some 19) (v := ?_) (a' := ?_) #[false, false, true, true, true, true, false, true, true, true, true, false, false, false, false] rfl rfl (any_of HT_.out (by kernel_rfl)) (fun _ _ _ h => h) (Or.inl ⟨by rfl, ?_⟩) ?_ ?_
 rotate_left
 ·intro w'
  go_simp
  with_reducible rfl
 rotate_left
 ·simp only [Act.put, List.setIfInBounds_toArray, List.set_cons_zero, List.set_cons_succ, i64_w, i32_w]
  rfl
 refine pure_ (i := 11) (N := some 20) (v := ?_) (a' := ?_) #[false, false, true, true, true, true, false, true, true, true, true, true, false, false, false] rfl rfl (any_of HT_.out (by kernel_rfl)) (fun _ _ _ h => h) (Or.inl ⟨by rfl, ?_⟩) ?_ ?_
 rotate_left
 ·intro w'
  go_simp
  with_reducible rfl
 rotate_left
 ·simp only [Act.put, List.setIfInBounds_toArray, List.set_cons_zero, List.set_cons_succ, i64_w, i32_w]
  rfl
 refine take_ (i := 0) (N := some 9) (v := ?_) (a' := ?_) #[true, false, true, true, true, true, false, true, true, true, true, true, false, false, false] rfl rfl (take_ofW HT_.out HW_.out (by kernel_rfl)) (fun _ _ _ h => h) (Or.inl ⟨by rfl, ?_⟩) hHeld ?_ ?_
 rotate_left
 ·rintro w' ⟨s0, s1, s2, s3, s4, s5, s6⟩
  go_simp
  with_reducible rfl
 rotate_left
 ·simp only [Act.put, List.setIfInBounds_toArray, List.set_cons_zero, List.set_cons_succ, i64_w, i32_w]
  rfl
 refine take_ (i := 1) (N := some 10) (v := ?_) (a' := ?_) #[true, true, true, true, true, true, false, true, true, true, true, true, false, false, false] rfl rfl (take_ofW HT_.out HW_.out (by kernel_rfl)) (fun _ _ _ h => h) (Or.inl ⟨by rfl, ?_⟩) hHeld ?_ ?_
 rotate_left
 ·rintro w' ⟨s0, s1, s2, s3, s4, s5, s6⟩
  go_simp
  with_reducible rfl
 rotate_left
 ·simp only [Act.put, List.setIfInBounds_toArray, List.set_cons_zero, List.set_cons_succ, i64_w, i32_w]
  rfl
 refine take_ (i := 6) (N := some 15) (v := ?_) (a' := ?_) #[true, true, true, true, true, true, true, true, true, true, true, true, false, false, false] rfl rfl (take_ofW HT_.out HW_.out (by kernel_rfl)) (fun _ _ _ h => h) (Or.inl ⟨by rfl, ?_⟩) hHeld ?_ ?_
 rotate_left
 ·rintro w' ⟨s0, s1, s2, s3, s4, s5, s6⟩
  go_simp
  with_reducible rfl
 rotate_left
 ·simp only [Act.put, List.setIfInBounds_toArray, List.set_cons_zero, List.set_cons_succ, i64_w, i32_w]
  rfl
 refine take_ (i := 12) (N := some 21) (v := ?_) (a' := ?_) #[true, true, true, true, true, true, true, true, true, true, true, true, true, false, false] rfl rfl (take_ofW HT_.out HW_.out (by kernel_rfl)) (fun _ _ _ h => h) (Or.inl ⟨by rfl, ?_⟩) hHeld ?_ ?_
 rotate_left
 ·rintro w' ⟨s0, s1, s2, s3, s4, s5, s6⟩
  go_simp
  with_reducible rfl
 rotate_left
 ·simp only [Act.put, List.setIfInBounds_toArray, List.set_cons_zero, List.set_cons_succ, i64_w, i32_w]
  rfl
 refine one_ (i := 13) (N := some 22) #[true, true, true, true, true, true, true, true, true, true, true, true, true, true, false] rfl rfl (one_of HT_.out (by kernel_rfl)) (by decide) (fun K hK => ?_)
 refine goes_ Try.func100 (by kernel_rfl) rfl #[.agg #[.int .i64 a0_0, .int .i64 a0_1, .slice A0_2 l0_2.length c0_2], .agg #[.int .i64 a1_0, .int .i64 a1_1], .int .i64 (rd l2 (ji5)), .int .i64 (rd l2 (ji8))] (by rfl) rfl rfl (by (try simp only [List.map_toArray, List.map_cons, List.map_nil]); first | done | (simp only [hji5, hji8]; rfl) | rfl | (simp only [List.length_drop, List.length_take]; rfl)) ?_
 with_reducible refine (spec_boIs.calls a0_0 a0_1 _ _ l0_2 a1_0 a1_1 (rd l2 (ji5)) (rd l2 (ji8)) t462 _ ?side1 ?side2 A11.out).mono ?_
 (case side1 => exact zu1)
 (case side2 => exact HC0_2.out)
 rintro e w15 ⟨rfl, hb⟩
 refine ⟨_, rfl, ?_⟩
 have n0_ := Aside0.mk (blk_below (g := gb458) (o := .cells #[.int .i64 a0_0, .int .i64 a0_1, .slice A0_2 l0_2.length c0_2] 30 (0, 0)) zu26 hb)
 have n1_ := Aside0.mk (blk_below (g := gb459) (o := .cells #[.int .i64 a1_0, .int .i64 a1_1] 32 (0, 0)) (by (with_reducible repeat (first | refine blk_drewN ?_ _ | refine blk_drew ?_ | refine blk_alloc ?_ _)); exact BK459.out) hb)
 have n2_ := Aside0.mk (below_step zu31 hb)
 clear BK458
 clear BK459
 clear HB
 have BK458 := n0_
 have BK459 := n1_
 have HB := n2_
 clear n0_ n1_ n2_
 (try clear hb)
 (try clear hb2)
 (try clear hk)
 (try clear hi)
 (try clear hna_)
 (try clear hnb_)
 refine hK.out _ _ ⟨(blk_cell BK458.out 0).trans rfl, (blk_cell BK458.out 1).trans rfl, (blk_cell BK458.out 2).trans rfl, (blk_cell BK459.out 0).trans rfl, (blk_cell BK459.out 1).trans rfl, ((HB.out.cell (World.block_lt_of_cell? w _ hw460_0)).trans hw460_0), ((HB.out.cell (World.block_lt_of_cell? w _ hw461_0)).trans hw461_0)⟩ (fun hHeld => ?_)
 clear hK K
 refine norm_ (a' := ?_) ?_ ?_
 rotate_left
 ·show Act.put _ (some 22) _ = _
  simp only [Act.put, List.setIfInBounds_toArray, List.set_cons_zero, List.set_cons_succ, i64_w, i32_w]
  rfl
 refine pure_ (i := 14) (N := some 8) (v := ?_) (a' := ?_) #[true, true, true, true, true, true, true, true, true, true, true, true, true, true, true] rfl rfl (any_of HT_.out (by kernel_rfl)) (fun _ _ _ h => h) (Or.inl ⟨by rfl, ?_⟩) ?_ ?_
 rotate_left
 ·intro w'
  go_simp
  with_reducible rfl
 rotate_left
 ·simp only [Act.put, List.setIfInBounds_toArray, List.set_cons_zero, List.set_cons_succ, i64_w, i32_w]
  rfl
 refine done_ (done_of HT_.out (by kernel_rfl)) ?_
 try go_wp2
 go_ret
 exact ⟨by first | rfl | (simp [errW_none, errW_some] <;> rfl) | (simp only [← hji5, ← hji8]; first | rfl | (simp [errW_none, errW_some] <;> rfl)) | (simp [*, errW_none, errW_some] <;> rfl), zu31⟩

/-! ### spec_blTurns: function 61 -/
def spec_blTurns.l0 : Nat → List Int → List Int → Int → Int → Int → List Int → Int → Int → Option (List Int)
 | 0, _, _, _, _, _, _, _, _ => none
 | k + 1, x2, x7, x8, x464000, x464001, x464002, x465000, x465001 => if (wrap64 (x8 + 1)) < (x2.length : Int) then ((spec_blCan.f x464000 x464001 x464002 x465000 x465001 x2 x8).bind fun t465 => (if t465 = true then (if x7.length < 17592186044416 then (spec_blTurns.l0 k x2 (x7 ++ [x8]) (wrap64 (x8 + 1)) x464000 x464001 x464002 x465000 x465001) else (none)) else (spec_blTurns.l0 k x2 x7 (wrap64 (x8 + 1)) x464000 x464001 x464002 x465000 x465001))) else (some x7)
def spec_blTurns.f (k : Nat) (a0_0 : Int) (a0_1 : Int) (l0_2 : List Int) (a1_0 : Int) (a1_1 : Int) (l2 : List Int) : Option (List Int) := spec_blTurns.l0 k l2 ([] : List Int) 1 a0_0 a0_1 l0_2 a1_0 a1_1
set_option maxHeartbeats 8000000 in
set_option maxRecDepth 100000 in
theorem spec_blTurns.calls (k : Nat) (a0_0 : Int) (a0_1 : Int) (A0_2 : Option Addr) (c0_2 : Nat) (l0_2 : List Int) (a1_0 : Int) (a1_1 : Int) (A2 : Option Addr) (c2 : Nat) (l2 : List Int) (r : List Int) (w : World) (hr0_2 : Kd.C (Kd.int .i64) w A0_2 l0_2.length l0_2) (hc0_2 : l0_2.length ≤ c0_2) (hr2 : Kd.C (Kd.int .i64) w A2 l2.length l2) (hc2 : l2.length ≤ c2) (h : spec_blTurns.f k a0_0 a0_1 l0_2 a1_0 a1_1 l2 = some r) :
  Calls Try.prog 61 #[.agg #[.int .i64 a0_0, .int .i64 a0_1, .slice A0_2 l0_2.length c0_2], .agg #[.int .i64 a1_0, .int .i64 a1_1], .slice A2 l2.length c2] w fun e w' => ∃ v0_ : Value, e = .returned (v0_) ∧ Kd.R (Kd.int .i64) 3 w' w.heap.size (fun _ => True) v0_ r ∧ Below w.heap.size w w' := by
 have hu30 := Try.underlying30
 have hu32 := Try.underlying32
 have HR0_2 := Aside0.mk hr0_2
 have HC0_2 := Aside0.mk hc0_2
 clear hr0_2 hc0_2
 have HR2 := Aside0.mk hr2
 have HC2 := Aside0.mk hc2
 clear hr2 hc2
 have HB := Aside0.mk (Below.refl w.heap.size w)
 have H : (spec_blTurns.l0 k l2 ([] : List Int) 1 a0_0 a0_1 l0_2 a1_0 a1_1) = some r := h
 clear h
 have H' := Aside0.mk H
 clear H
 go_enter Try.func61, Try.ntmps61
 go_wp2_with (first | ((with_reducible refine gate_dst (N := 3) rfl ?_); refine box_event ?hg (N := 3) ?hd (cs := #[.int .i64 a0_0, .int .i64 a0_1, .slice A0_2 l0_2.length c0_2]) (t := 30) ?hr ?_; (case hd => rfl); (case hg => rfl); (case hr => first | (go_simp; done) | (go_simp; rfl)); intro gb463 hg w4 hbox hb; have n0_ := Aside0.mk (below_step zu2 hb); have n1_ := Aside0.mk (hbox); have n2_ := Aside0.mk ((zu33 : w.heap.size ≤ gb463)); have n3_ := Aside0.mk ((zu33 : w.heap.size ≤ gb463)); clear HB; have HB := n0_; have BK463 := n1_; have GW463 := n2_; have GE463 := n3_; clear n0_ n1_ n2_ n3_; clear hb hbox hg) | ((with_reducible refine gate_dst (N := 4) rfl ?_); refine box_event ?hg (N := 4) ?hd (cs := #[.int .i64 a1_0, .int .i64 a1_1]) (t := 32) ?hr ?_; (case hd => rfl); (case hg => rfl); (case hr => first | (go_simp; done) | (go_simp; rfl)); intro gb464 hg w5 hbox hb; have n0_ := Aside0.mk (blk_below (g := gb463) (o := .cells #[.int .i64 a0_0, .int .i64 a0_1, .slice A0_2 l0_2.length c0_2] 30 (0, 0)) zu15 hb); have n1_ := Aside0.mk (below_step zu27 hb); have n2_ := Aside0.mk (hbox); have n3_ := Aside0.mk ((by rw [hg]; exact (below_size zu27) : w.heap.size ≤ gb464)); have n4_ := Aside0.mk ((by rw [hg]; exact (below_size zu27) : w.heap.size ≤ gb464)); have n5_ := Aside0.mk ((by rw [hg]; exact Nat.ne_of_lt (blk_lt (g := gb463) (o := .cells #[.int .i64 a0_0, .int .i64 a0_1, .slice A0_2 l0_2.length c0_2] 30 (0, 0)) zu15) : gb463 ≠ gb464)); have n6_ := Aside0.mk ((by rw [hg]; exact Nat.ne_of_gt (blk_lt (g := gb463) (o := .cells #[.int .i64 a0_0, .int .i64 a0_1, .slice A0_2 l0_2.length c0_2] 30 (0, 0)) zu15) : gb464 ≠ gb463)); clear BK463; clear HB; have BK463 := n0_; have HB := n1_; have BK464 := n2_; have GW464 := n3_; have GE464 := n4_; have NB463_464 := n5_; have NB464_463 := n6_; clear n0_ n1_ n2_ n3_ n4_ n5_ n6_; clear hb hbox hg))
 go_loopg [7, 8] k (fun kq v7 v8 w' => ∃ (x7_1 : List Int) (x8_1 : Int), v8 = .int .i64 x8_1 ∧ Aside0 (spec_blTurns.l0 kq l2 x7_1 x8_1 a0_0 a0_1 l0_2 a1_0 a1_1 = some r) ∧ Aside0 (kq ≤ k) ∧ Aside0 (Kd.R (Kd.int .i64) 3 w' w.heap.size (fun _ => True) v7 x7_1) ∧ Aside0 (w'.heap[gb463]? = some (.cells #[.int .i64 a0_0, .int .i64 a0_1, (.slice A0_2 l0_2.length c0_2)] 30 (0, 0))) ∧ Aside0 (w'.heap[gb464]? = some (.cells #[.int .i64 a1_0, .int .i64 a1_1] 32 (0, 0))) ∧ Aside0 (Below w.heap.size w w'))
 case atStart => exact ⟨(([] : List Int)), (1), zu30, H', ⟨Nat.le_refl _⟩, ⟨zu24⟩, ⟨zu15⟩, ⟨zu19⟩, ⟨zu8⟩⟩
 case round =>
  clear H'
  try clear c2; try clear p2
  obtain ⟨x7_1, x8_1, rfl, HA, HK1, HO_7, BK463, BK464, HB⟩ := hrel
  cases gk with
  | zero => exact absurd HA.out (by simp [spec_blTurns.l0])
  | succ k1 =>
   have H := HA.out
   clear HA
   simp only [spec_blTurns.l0] at H
   by_cases c6 : (wrap64 (x8_1 + 1)) < (l2.length : Int)
   rotate_left
   ·rw [if_neg c6] at H
    have c6b0 : decide ((wrap64 (x8_1 + 1)) < (l2.length : Int)) = false := decide_eq_false c6
    clear c6
    obtain rfl := Option.some.inj H
    go_wp2
    go_ret
    exact ⟨_, zu22, zu25, zu8⟩
   rw [if_pos c6] at H
   have c6b0 : decide ((wrap64 (x8_1 + 1)) < (l2.length : Int)) = true := decide_eq_true c6
   clear c6
   replace H := Option.bind_eq_some_iff.mp H
   obtain ⟨t465, A70, H⟩ := H
   replace H : (if t465 = true then (if x7_1.length < 17592186044416 then (spec_blTurns.l0 k1 l2 (x7_1 ++ [x8_1]) (wrap64 (x8_1 + 1)) a0_0 a0_1 l0_2 a1_0 a1_1) else (none)) else (spec_blTurns.l0 k1 l2 x7_1 (wrap64 (x8_1 + 1)) a0_0 a0_1 l0_2 a1_0 a1_1)) = some r := H
   have A7 := Aside0.mk A70
   clear A70
   by_cases c8 : t465 = true
   rotate_left
   ·replace c8 := Bool.eq_false_iff.mpr c8
    subst c8
    have H1 : (spec_blTurns.l0 k1 l2 x7_1 (wrap64 (x8_1 + 1)) a0_0 a0_1 l0_2 a1_0 a1_1) = some r := by rw [if_neg (show ¬ (false = true) by decide)] at H; exact H
    clear H
    have H := H1
    clear H1
    have H' := Aside0.mk H
    clear H
    have hnb15 := NB463_464.out
    have hnc15 := NB464_463.out
    have hcz16_0 : wr.cell? ⟨gb463, 0, none⟩ = some (.int .i64 a0_0) := (blk_cell BK463.out 0).trans rfl
    have hcz16_1 : wr.cell? ⟨gb463, 1, none⟩ = some (.int .i64 a0_1) := (blk_cell BK463.out 1).trans rfl
    have hcz16_2 : wr.cell? ⟨gb463, 2, none⟩ = some (.slice A0_2 l0_2.length c0_2) := (blk_cell BK463.out 2).trans rfl
    have hfz16_0 := blk_frozen BK463.out 0
    have hfz16_1 := blk_frozen BK463.out 1
    have hfz16_2 := blk_frozen BK463.out 2
    have hcz17_0 : wr.cell? ⟨gb464, 0, none⟩ = some (.int .i64 a1_0) := (blk_cell BK464.out 0).trans rfl
    have hcz17_1 : wr.cell? ⟨gb464, 1, none⟩ = some (.int .i64 a1_1) := (blk_cell BK464.out 1).trans rfl
    have hfz17_0 := blk_frozen BK464.out 0
    have hfz17_1 := blk_frozen BK464.out 1
    go_wp2_with (first | ((with_reducible refine gate_callee (f := 102) rfl ?_); refine goesL_ (some 20) rfl rfl Try.func102 (by kernel_rfl) rfl #[.agg #[.int .i64 a0_0, .int .i64 a0_1, .slice A0_2 l0_2.length c0_2], .agg #[.int .i64 a1_0, .int .i64 a1_1], .slice A2 l2.length c2, .int .i64 x8_1] rfl zu13 ?_; (with_reducible refine (spec_blCan.calls a0_0 a0_1 _ _ l0_2 a1_0 a1_1 _ _ l2 x8_1 false _ ?side1 ?side2 ?side3 ?side4 A7.out).mono ?_); (case side1 => exact zu1); (case side2 => exact HC0_2.out); (case side3 => exact zu10); (case side4 => exact HC2.out); rintro e w18 ⟨rfl, hb⟩; refine ⟨_, rfl, ?_⟩; have n0_ := Aside0.mk (Kd.R_below zu25 hb); have n1_ := Aside0.mk (blk_below (g := gb463) (o := .cells #[.int .i64 a0_0, .int .i64 a0_1, .slice A0_2 l0_2.length c0_2] 30 (0, 0)) zu15 hb); have n2_ := Aside0.mk (blk_below (g := gb464) (o := .cells #[.int .i64 a1_0, .int .i64 a1_1] 32 (0, 0)) zu19 hb); have n3_ := Aside0.mk (below_step zu8 hb); clear HO_7; clear BK463; clear BK464; clear HB; have HO_7 := n0_; have BK463 := n1_; have BK464 := n2_; have HB := n3_; clear n0_ n1_ n2_ n3_; (try clear hb); (try clear hb2); (try clear hk); (try clear hi); (try clear hna_); (try clear hnb_)))
    go_roundg k1
    case measure => have := HK1.out; omega
    case rel => exact ⟨(x7_1), (wrap64 (x8_1 + 1)), zu30, H', ⟨by have := HK1.out; omega⟩, ⟨zu25⟩, ⟨zu15⟩, ⟨zu19⟩, ⟨zu8⟩⟩
   subst c8
   have H1 : (if x7_1.length < 17592186044416 then (spec_blTurns.l0 k1 l2 (x7_1 ++ [x8_1]) (wrap64 (x8_1 + 1)) a0_0 a0_1 l0_2 a1_0 a1_1) else (none)) = some r := by rw [if_pos rfl] at H; exact H
   clear H
   have H := H1
   clear H1
   by_cases c9 : x7_1.length < 17592186044416
   rotate_left
   ·rw [if_neg c9] at H
    exact absurd H (by simp)
   rw [if_pos c9] at H
   have LMc9 := Aside0.mk c9
   clear c9
   obtain ⟨y466, hy466⟩ : ∃ y_ : List Int, y_ = (x7_1 ++ [x8_1]) := ⟨_, rfl⟩
   replace H : (spec_blTurns.l0 k1 l2 y466 (wrap64 (x8_1 + 1)) a0_0 a0_1 l0_2 a1_0 a1_1) = some r := by first | (rw [hy466]; with_reducible exact H) | (have H2_ := (Option.bind_some _ _).symm.trans H; rw [hy466]; with_reducible exact H2_) | (have H2_ := (Option.bind_some _ _).symm.trans H; with_reducible exact H2_) | with_reducible exact H | (rw [hy466]; exact H) | exact H
   have Ny466 := Aside0.mk hy466
   clear hy466
   have H' := Aside0.mk H
   clear H
   have hnb10 := NB463_464.out
   have hnc10 := NB464_463.out
   have hcz11_0 : wr.cell? ⟨gb463, 0, none⟩ = some (.int .i64 a0_0) := (blk_cell BK463.out 0).trans rfl
   have hcz11_1 : wr.cell? ⟨gb463, 1, none⟩ = some (.int .i64 a0_1) := (blk_cell BK463.out 1).trans rfl
   have hcz11_2 : wr.cell? ⟨gb463, 2, none⟩ = some (.slice A0_2 l0_2.length c0_2) := (blk_cell BK463.out 2).trans rfl
   have hfz11_0 := blk_frozen BK463.out 0
   have hfz11_1 := blk_frozen BK463.out 1
   have hfz11_2 := blk_frozen BK463.out 2
   have hcz12_0 : wr.cell? ⟨gb464, 0, none⟩ = some (.int .i64 a1_0) := (blk_cell BK464.out 0).trans rfl
   have hcz12_1 : wr.cell? ⟨gb464, 1, none⟩ = some (.int .i64 a1_1) := (blk_cell BK464.out 1).trans rfl
   have hfz12_0 := blk_frozen BK464.out 0
   have hfz12_1 := blk_frozen BK464.out 1
   go_wp2_with (first | ((with_reducible refine gate_callee (f := 102) rfl ?_); refine goesL_ (some 20) rfl rfl Try.func102 (by kernel_rfl) rfl #[.agg #[.int .i64 a0_0, .int .i64 a0_1, .slice A0_2 l0_2.length c0_2], .agg #[.int .i64 a1_0, .int .i64 a1_1], .slice A2 l2.length c2, .int .i64 x8_1] rfl zu13 ?_; (with_reducible refine (spec_blCan.calls a0_0 a0_1 _ _ l0_2 a1_0 a1_1 _ _ l2 x8_1 true _ ?side1 ?side2 ?side3 ?side4 A7.out).mono ?_); (case side1 => exact zu1); (case side2 => exact HC0_2.out); (case side3 => exact zu10); (case side4 => exact HC2.out); rintro e w13 ⟨rfl, hb⟩; refine ⟨_, rfl, ?_⟩; have n0_ := Aside0.mk (Kd.R_below zu25 hb); have n1_ := Aside0.mk (blk_below (g := gb463) (o := .cells #[.int .i64 a0_0, .int .i64 a0_1, .slice A0_2 l0_2.length c0_2] 30 (0, 0)) zu15 hb); have n2_ := Aside0.mk (blk_below (g := gb464) (o := .cells #[.int .i64 a1_0, .int .i64 a1_1] 32 (0, 0)) zu19 hb); have n3_ := Aside0.mk (below_step zu8 hb); clear HO_7; clear BK463; clear BK464; clear HB; have HO_7 := n0_; have BK463 := n1_; have BK464 := n2_; have HB := n3_; clear n0_ n1_ n2_ n3_; (try clear hb); (try clear hb2); (try clear hk); (try clear hi); (try clear hna_); (try clear hnb_)) | ((with_reducible refine gate_builtin (b := .append) (xs := #[.tmp 21, .tmp 23]) rfl ?_); at_builtin; refine Kd.R_append (Kd.int .i64) (w0 := w) w.heap.size rfl (.tmp 21) (.tmp 23) 22 3 (.int .i64 0) 8 rfl Try.underlying22 info3 rfl (by decide) (by omega) u7 x7_1 x8_1 [.int .i64 x8_1] (fun _ => True) (fun _ => False) rfl rfl ?aP (fun _ hk => hk.elim) ?aF ?aO ?aB ?aS ?aL ?_; (case aP => exact rfl); (case aB => exact zu8); (case aF => exact (fun _ _ => trivial)); (case aO => exact zu25); (case aS => exact (below_size zu8)); (case aL => have := LMc9.out; omega); intro v467 w14 ho hb hg hat; rw [← Ny466.out] at ho; have n0_ := Aside0.mk (blk_grown (g := gb463) (o := .cells #[.int .i64 a0_0, .int .i64 a0_1, .slice A0_2 l0_2.length c0_2] 30 (0, 0)) zu15 hg (Kd.R_ne HO_7.out BK463.out (by decide))); have n1_ := Aside0.mk (blk_grown (g := gb464) (o := .cells #[.int .i64 a1_0, .int .i64 a1_1] 32 (0, 0)) zu19 hg (Kd.R_ne HO_7.out BK464.out (by decide))); have n2_ := Aside0.mk (hb); have n3_ := Aside0.mk (ho); clear BK463; clear BK464; clear HB; clear HO_7; have BK463 := n0_; have BK464 := n1_; have HB := n2_; have HO468 := n3_; clear n0_ n1_ n2_ n3_; clear ho hb hg hat))
   go_roundg k1
   case measure => have := HK1.out; omega
   case rel => exact ⟨(y466), (wrap64 (x8_1 + 1)), zu30, H', ⟨by have := HK1.out; omega⟩, ⟨by (with_reducible repeat (first | apply Kd.R_alloc | apply Kd.R_drewN | apply Kd.R_drew)); exact HO468.out⟩, ⟨zu15⟩, ⟨zu19⟩, ⟨zu8⟩⟩

/-! ### spec_TailTurns: function 28 -/
def spec_TailTurns.f (k : Nat) (a0_0 : Int) (a0_1 : Int) (l0_2 : List Int) (a1_0 : Int) (a1_1 : Int) (l2 : List Int) : Option (List Int × Bool) := (spec_blWalk.f k a0_0 a0_1 l0_2 a1_0 a1_1 l2).bind fun t471 => (if t471 = true then ((spec_blTurns.f k a0_0 a0_1 l0_2 a1_0 a1_1 l2).bind fun t472 => (some (t472, true))) else (some (([] : List Int), false)))
set_option maxHeartbeats 8000000 in
set_option maxRecDepth 100000 in
theorem spec_TailTurns.calls (k : Nat) (a0_0 : Int) (a0_1 : Int) (A0_2 : Option Addr) (c0_2 : Nat) (l0_2 : List Int) (a1_0 : Int) (a1_1 : Int) (A2 : Option Addr) (c2 : Nat) (l2 : List Int) (r1 : List Int) (r2 : Bool) (w : World) (hr0_2 : Kd.C (Kd.int .i64) w A0_2 l0_2.length l0_2) (hc0_2 : l0_2.length ≤ c0_2) (hr2 : Kd.C (Kd.int .i64) w A2 l2.length l2) (hc2 : l2.length ≤ c2) (h : spec_TailTurns.f k a0_0 a0_1 l0_2 a1_0 a1_1 l2 = some (r1, r2)) :
  Calls Try.prog 28 #[.agg #[.int .i64 a0_0, .int .i64 a0_1, .slice A0_2 l0_2.length c0_2], .agg #[.int .i64 a1_0, .int .i64 a1_1], .slice A2 l2.length c2] w fun e w' => ∃ v0_ : Value, e = .returned (.tuple #[v0_, .bool r2]) ∧ Kd.R (Kd.int .i64) 3 w' w.heap.size (fun _ => True) v0_ r1 ∧ Below w.heap.size w w' := by
 have hu30 := Try.underlying30
 have hu32 := Try.underlying32
 have HR0_2 := Aside0.mk hr0_2
 have HC0_2 := Aside0.mk hc0_2
 clear hr0_2 hc0_2
 have HR2 := Aside0.mk hr2
 have HC2 := Aside0.mk hc2
 clear hr2 hc2
 have HB := Aside0.mk (Below.refl w.heap.size w)
 have H : ((spec_blWalk.f k a0_0 a0_1 l0_2 a1_0 a1_1 l2).bind fun t471 => (if t471 = true then ((spec_blTurns.f k a0_0 a0_1 l0_2 a1_0 a1_1 l2).bind fun t472 => (some (t472, true))) else (some (([] : List Int), false)))) = some (r1, r2) := h
 clear h
 replace H := Option.bind_eq_some_iff.mp H
 obtain ⟨t471, A40, H⟩ := H
 replace H : (if t471 = true then ((spec_blTurns.f k a0_0 a0_1 l0_2 a1_0 a1_1 l2).bind fun t472 => (some (t472, true))) else (some (([] : List Int), false))) = some (r1, r2) := H
 have A4 := Aside0.mk A40
 clear A40
 by_cases c5 : t471 = true
 rotate_left
 ·replace c5 := Bool.eq_false_iff.mpr c5
  subst c5
  have H1 : (some (([] : List Int), false)) = some (r1, r2) := by rw [if_neg (show ¬ (false = true) by decide)] at H; exact H
  clear H
  have H := H1
  clear H1
  simp only [Option.some.injEq, Prod.mk.injEq] at H
  obtain ⟨rfl, rfl⟩ := H
  go_enter Try.func28, Try.ntmps28
  go_wp2_with (first | ((with_reducible refine gate_dst (N := 3) rfl ?_); refine box_event ?hg (N := 3) ?hd (cs := #[.int .i64 a0_0, .int .i64 a0_1, .slice A0_2 l0_2.length c0_2]) (t := 30) ?hr ?_; (case hd => rfl); (case hg => rfl); (case hr => first | (go_simp; done) | (go_simp; rfl)); intro gb469 hg w16 hbox hb; have n0_ := Aside0.mk (below_step zu2 hb); have n1_ := Aside0.mk (hbox); have n2_ := Aside0.mk ((zu33 : w.heap.size ≤ gb469)); have n3_ := Aside0.mk ((zu33 : w.heap.size ≤ gb469)); clear HB; have HB := n0_; have BK469 := n1_; have GW469 := n2_; have GE469 := n3_; clear n0_ n1_ n2_ n3_; clear hb hbox hg) | ((with_reducible refine gate_dst (N := 4) rfl ?_); refine box_event ?hg (N := 4) ?hd (cs := #[.int .i64 a1_0, .int .i64 a1_1]) (t := 32) ?hr ?_; (case hd => rfl); (case hg => rfl); (case hr => first | (go_simp; done) | (go_simp; rfl)); intro gb470 hg w17 hbox hb; have n0_ := Aside0.mk (blk_below (g := gb469) (o := .cells #[.int .i64 a0_0, .int .i64 a0_1, .slice A0_2 l0_2.length c0_2] 30 (0, 0)) zu14 hb); have n1_ := Aside0.mk (below_step zu17 hb); have n2_ := Aside0.mk (hbox); have n3_ := Aside0.mk ((by rw [hg]; exact (below_size zu17) : w.heap.size ≤ gb470)); have n4_ := Aside0.mk ((by rw [hg]; exact (below_size zu17) : w.heap.size ≤ gb470)); have n5_ := Aside0.mk ((zu35 : gb469 ≠ gb470)); have n6_ := Aside0.mk ((zu37 : gb470 ≠ gb469)); clear BK469; clear HB; have BK469 := n0_; have HB := n1_; have BK470 := n2_; have GW470 := n3_; have GE470 := n4_; have NB469_470 := n5_; have NB470_469 := n6_; clear n0_ n1_ n2_ n3_ n4_ n5_ n6_; clear hb hbox hg; have hnb18 := NB469_470.out; have hnc18 := NB470_469.out; have hcz19_0 : w17.cell? ⟨gb469, 0, none⟩ = some (.int .i64 a0_0) := (blk_cell BK469.out 0).trans rfl; have hcz19_1 : w17.cell? ⟨gb469, 1, none⟩ = some (.int .i64 a0_1) := (blk_cell BK469.out 1).trans rfl; have hcz19_2 : w17.cell? ⟨gb469, 2, none⟩ = some (.slice A0_2 l0_2.length c0_2) := (blk_cell BK469.out 2).trans rfl; have hfz19_0 := blk_frozen BK469.out 0; have hfz19_1 := blk_frozen BK469.out 1; have hfz19_2 := blk_frozen BK469.out 2; have hcz20_0 : w17.cell? ⟨gb470, 0, none⟩ = some (.int .i64 a1_0) := (blk_cell BK470.out 0).trans rfl; have hcz20_1 : w17.cell? ⟨gb470, 1, none⟩ = some (.int .i64 a1_1) := (blk_cell BK470.out 1).trans rfl; have hfz20_0 := blk_frozen BK470.out 0; have hfz20_1 := blk_frozen BK470.out 1) | ((with_reducible refine gate_callee (f := 60) rfl ?_); refine goesL_ (some 11) rfl rfl Try.func60 (by kernel_rfl) rfl #[.agg #[.int .i64 a0_0, .int .i64 a0_1, .slice A0_2 l0_2.length c0_2], .agg #[.int .i64 a1_0, .int .i64 a1_1], .slice A2 l2.length c2] rfl zu13 ?_; (with_reducible refine (spec_blWalk.calls k a0_0 a0_1 _ _ l0_2 a1_0 a1_1 _ _ l2 false _ ?side1 ?side2 ?side3 ?side4 A4.out).mono ?_); (case side1 => exact zu1); (case side2 => exact HC0_2.out); (case side3 => exact zu10); (case side4 => exact HC2.out); rintro e w21 ⟨rfl, hb⟩; refine ⟨_, rfl, ?_⟩; have n0_ := Aside0.mk (blk_below (g := gb469) (o := .cells #[.int .i64 a0_0, .int .i64 a0_1, .slice A0_2 l0_2.length c0_2] 30 (0, 0)) zu14 hb); have n1_ := Aside0.mk (blk_below (g := gb470) (o := .cells #[.int .i64 a1_0, .int .i64 a1_1] 32 (0, 0)) zu29 hb); have n2_ := Aside0.mk (below_step zu12 hb); clear BK469; clear BK470; clear HB; have BK469 := n0_; have BK470 := n1_; have HB := n2_; clear n0_ n1_ n2_; (try clear hb); (try clear hb2); (try clear hk); (try clear hi); (try clear hna_); (try clear hnb_)))
  go_ret2
  exact ⟨_, zu22, zu24, zu12⟩
 subst c5
 have H1 : ((spec_blTurns.f k a0_0 a0_1 l0_2 a1_0 a1_1 l2).bind fun t472 => (some (t472, true))) = some (r1, r2) := by rw [if_pos rfl] at H; exact H
 clear H
 have H := H1
 clear H1
 replace H := Option.bind_eq_some_iff.mp H
 obtain ⟨t472, A60, H⟩ := H
 replace H : (some (t472, true)) = some (r1, r2) := H
 have A6 := Aside0.mk A60
 clear A60
 simp only [Option.some.injEq, Prod.mk.injEq] at H
 obtain ⟨rfl, rfl⟩ := H
 go_enter Try.func28, Try.ntmps28
 go_wp2_with (first | ((with_reducible refine gate_dst (N := 3) rfl ?_); refine box_event ?hg (N := 3) ?hd (cs := #[.int .i64 a0_0, .int .i64 a0_1, .slice A0_2 l0_2.length c0_2]) (t := 30) ?hr ?_; (case hd => rfl); (case hg => rfl); (case hr => first | (go_simp; done) | (go_simp; rfl)); intro gb469 hg w7 hbox hb; have n0_ := Aside0.mk (below_step zu2 hb); have n1_ := Aside0.mk (hbox); have n2_ := Aside0.mk ((zu33 : w.heap.size ≤ gb469)); have n3_ := Aside0.mk ((zu33 : w.heap.size ≤ gb469)); clear HB; have HB := n0_; have BK469 := n1_; have GW469 := n2_; have GE469 := n3_; clear n0_ n1_ n2_ n3_; clear hb hbox hg) | ((with_reducible refine gate_dst (N := 4) rfl ?_); refine box_event ?hg (N := 4) ?hd (cs := #[.int .i64 a1_0, .int .i64 a1_1]) (t := 32) ?hr ?_; (case hd => rfl); (case hg => rfl); (case hr => first | (go_simp; done) | (go_simp; rfl)); intro gb470 hg w8 hbox hb; have n0_ := Aside0.mk (blk_below (g := gb469) (o := .cells #[.int .i64 a0_0, .int .i64 a0_1, .slice A0_2 l0_2.length c0_2] 30 (0, 0)) zu14 hb); have n1_ := Aside0.mk (below_step zu17 hb); have n2_ := Aside0.mk (hbox); have n3_ := Aside0.mk ((by rw [hg]; exact (below_size zu17) : w.heap.size ≤ gb470)); have n4_ := Aside0.mk ((by rw [hg]; exact (below_size zu17) : w.heap.size ≤ gb470)); have n5_ := Aside0.mk ((zu35 : gb469 ≠ gb470)); have n6_ := Aside0.mk ((zu37 : gb470 ≠ gb469)); clear BK469; clear HB; have BK469 := n0_; have HB := n1_; have BK470 := n2_; have GW470 := n3_; have GE470 := n4_; have NB469_470 := n5_; have NB470_469 := n6_; clear n0_ n1_ n2_ n3_ n4_ n5_ n6_; clear hb hbox hg; have hnb9 := NB469_470.out; have hnc9 := NB470_469.out; have hcz10_0 : w8.cell? ⟨gb469, 0, none⟩ = some (.int .i64 a0_0) := (blk_cell BK469.out 0).trans rfl; have hcz10_1 : w8.cell? ⟨gb469, 1, none⟩ = some (.int .i64 a0_1) := (blk_cell BK469.out 1).trans rfl; have hcz10_2 : w8.cell? ⟨gb469, 2, none⟩ = some (.slice A0_2 l0_2.length c0_2) := (blk_cell BK469.out 2).trans rfl; have hfz10_0 := blk_frozen BK469.out 0; have hfz10_1 := blk_frozen BK469.out 1; have hfz10_2 := blk_frozen BK469.out 2; have hcz11_0 : w8.cell? ⟨gb470, 0, none⟩ = some (.int .i64 a1_0) := (blk_cell BK470.out 0).trans rfl; have hcz11_1 : w8.cell? ⟨gb470, 1, none⟩ = some (.int .i64 a1_1) := (blk_cell BK470.out 1).trans rfl; have hfz11_0 := blk_frozen BK470.out 0; have hfz11_1 := blk_frozen BK470.out 1) | ((with_reducible refine gate_callee (f := 60) rfl ?_); refine goesL_ (some 11) rfl rfl Try.func60 (by kernel_rfl) rfl #[.agg #[.int .i64 a0_0, .int .i64 a0_1, .slice A0_2 l0_2.length c0_2], .agg #[.int .i64 a1_0, .int .i64 a1_1], .slice A2 l2.length c2] rfl zu13 ?_; (with_reducible refine (spec_blWalk.calls k a0_0 a0_1 _ _ l0_2 a1_0 a1_1 _ _ l2 true _ ?side1 ?side2 ?side3 ?side4 A4.out).mono ?_); (case side1 => exact zu1); (case side2 => exact HC0_2.out); (case side3 => exact zu10); (case side4 => exact HC2.out); rintro e w12 ⟨rfl, hb⟩; refine ⟨_, rfl, ?_⟩; have n0_ := Aside0.mk (blk_below (g := gb469) (o := .cells #[.int .i64 a0_0, .int .i64 a0_1, .slice A0_2 l0_2.length c0_2] 30 (0, 0)) zu14 hb); have n1_ := Aside0.mk (blk_below (g := gb470) (o := .cells #[.int .i64 a1_0, .int .i64 a1_1] 32 (0, 0)) zu29 hb); have n2_ := Aside0.mk (below_step zu12 hb); clear BK469; clear BK470; clear HB; have BK469 := n0_; have BK470 := n1_; have HB := n2_; clear n0_ n1_ n2_; (try clear hb); (try clear hb2); (try clear hk); (try clear hi); (try clear hna_); (try clear hnb_); have hcz13_0 : w12.cell? ⟨gb469, 0, none⟩ = some (.int .i64 a0_0) := (blk_cell BK469.out 0).trans rfl; have hcz13_1 : w12.cell? ⟨gb469, 1, none⟩ = some (.int .i64 a0_1) := (blk_cell BK469.out 1).trans rfl; have hcz13_2 : w12.cell? ⟨gb469, 2, none⟩ = some (.slice A0_2 l0_2.length c0_2) := (blk_cell BK469.out 2).trans rfl; have hfz13_0 := blk_frozen BK469.out 0; have hfz13_1 := blk_frozen BK469.out 1; have hfz13_2 := blk_frozen BK469.out 2; have hcz14_0 : w12.cell? ⟨gb470, 0, none⟩ = some (.int .i64 a1_0) := (blk_cell BK470.out 0).trans rfl; have hcz14_1 : w12.cell? ⟨gb470, 1, none⟩ = some (.int .i64 a1_1) := (blk_cell BK470.out 1).trans rfl; have hfz14_0 := blk_frozen BK470.out 0; have hfz14_1 := blk_frozen BK470.out 1) | ((with_reducible refine gate_callee (f := 61) rfl ?_); refine goesL_ (some 16) rfl rfl Try.func61 (by kernel_rfl) rfl #[.agg #[.int .i64 a0_0, .int .i64 a0_1, .slice A0_2 l0_2.length c0_2], .agg #[.int .i64 a1_0, .int .i64 a1_1], .slice A2 l2.length c2] rfl zu13 ?_; (with_reducible refine (spec_blTurns.calls k a0_0 a0_1 _ _ l0_2 a1_0 a1_1 _ _ l2 t472 _ ?side1 ?side2 ?side3 ?side4 A6.out).mono ?_); (case side1 => exact zu1); (case side2 => exact HC0_2.out); (case side3 => exact zu10); (case side4 => exact HC2.out); rintro e w15 ⟨v473, rfl, ho0, hb⟩; refine ⟨_, rfl, ?_⟩; have n0_ := Aside0.mk (Kd.R_lower ho0 (below_size zu12)); have n1_ := Aside0.mk (blk_below (g := gb469) (o := .cells #[.int .i64 a0_0, .int .i64 a0_1, .slice A0_2 l0_2.length c0_2] 30 (0, 0)) zu14 hb); have n2_ := Aside0.mk (blk_below (g := gb470) (o := .cells #[.int .i64 a1_0, .int .i64 a1_1] 32 (0, 0)) zu29 hb); have n3_ := Aside0.mk (below_step zu12 hb); clear BK469; clear BK470; clear HB; have HO474 := n0_; have BK469 := n1_; have BK470 := n2_; have HB := n3_; clear n0_ n1_ n2_ n3_; (try clear hb); (try clear hb2); (try clear hk); (try clear hi); (try clear ho0); (try clear hna_); (try clear hnb_)))
 go_ret2
 exact ⟨_, zu22, by (with_reducible repeat (first | apply Kd.R_alloc | apply Kd.R_drewN | apply Kd.R_drew)); exact HO474.out, zu12⟩

/-! ### impl_graph_turns: function 63 -/
def impl_graph_turns.l0 : Nat → List Int → List Int → Int → Int → Int → List Int → Int → Int → List Int → List (List Int) → Option (List Int)
 | 0, _, _, _, _, _, _, _, _, _, _ => none
 | k + 1, x1, x5, x6, x1000, x1001, x1002, x1003, x1004, x1005, x1006 => if (wrap64 (x6 + 1)) < (x1.length : Int) then (if 0 ≤ (wrap64 (x6 - 1)) then (if (wrap64 (x6 - 1)) < (x1.length : Int) then (if 0 ≤ (wrap64 ((x1.length : Int) - 1)) then (if (wrap64 ((x1.length : Int) - 1)) < (x1.length : Int) then ((impl_graph_leaps.f k x1000 x1001 x1002 x1003 x1004 x1005 x1006 (rd x1 (wrap64 (x6 - 1))) (rd x1 (wrap64 ((x1.length : Int) - 1)))).bind fun t493 => (if t493 = true then (if x5.length < 17592186044416 then (impl_graph_turns.l0 k x1 (x5 ++ [x6]) (wrap64 (x6 + 1)) x1000 x1001 x1002 x1003 x1004 x1005 x1006) else (none)) else (impl_graph_turns.l0 k x1 x5 (wrap64 (x6 + 1)) x1000 x1001 x1002 x1003 x1004 x1005 x1006))) else (none)) else (none)) else (none)) else (none)) else (some x5)
def impl_graph_turns.f (k : Nat) (a0_0 : Int) (a0_1 : Int) (l0_2 : List Int) (a0_3 : Int) (a0_4 : Int) (l0_5 : List Int) (l0_6 : List (List Int)) (l1 : List Int) : Option (List Int) := impl_graph_turns.l0 k l1 ([] : List Int) 1 a0_0 a0_1 l0_2 a0_3 a0_4 l0_5 l0_6
set_option maxHeartbeats 8000000 in
set_option maxRecDepth 100000 in
theorem impl_graph_turns.calls (k : Nat) (gb0 : Nat) (a0_0 : Int) (a0_1 : Int) (A0_2 : Option Addr) (c0_2 : Nat) (l0_2 : List Int) (a0_3 : Int) (a0_4 : Int) (A0_5 : Option Addr) (c0_5 : Nat) (l0_5 : List Int) (A0_6 : Option Addr) (c0_6 : Nat) (l0_6 : List (List Int)) (A1 : Option Addr) (c1 : Nat) (l1 : List Int) (r : List Int) (w : World) (hg0 : w.heap[gb0]? = some (.cells #[.int .i64 a0_0, .int .i64 a0_1, .slice A0_2 l0_2.length c0_2, .int .i64 a0_3, .int .i64 a0_4, .slice A0_5 l0_5.length c0_5, .slice A0_6 l0_6.length c0_6] 82 (0, 0))) (hr0_2 : Kd.C (Kd.int .i64) w A0_2 l0_2.length l0_2) (hc0_2 : l0_2.length ≤ c0_2) (hr0_5 : Kd.C (Kd.int .i64) w A0_5 l0_5.length l0_5) (hc0_5 : l0_5.length ≤ c0_5) (hr0_6 : Kd.C (Kd.slice 3 (Kd.int .i64)) w A0_6 l0_6.length l0_6) (hc0_6 : l0_6.length ≤ c0_6) (hr1 : Kd.C (Kd.int .i64) w A1 l1.length l1) (hc1 : l1.length ≤ c1) (h : impl_graph_turns.f k a0_0 a0_1 l0_2 a0_3 a0_4 l0_5 l0_6 l1 = some r) :
  Calls Try.prog 63 #[.pointer (some ⟨gb0, 0, none⟩), .slice A1 l1.length c1] w fun e w' => ∃ v0_ : Value, e = .returned (v0_) ∧ Kd.R (Kd.int .i64) 3 w' w.heap.size (fun _ => True) v0_ r ∧ Below w.heap.size w w' := by
 have HR0_2 := Aside0.mk hr0_2
 have HC0_2 := Aside0.mk hc0_2
 clear hr0_2 hc0_2
 have HR0_5 := Aside0.mk hr0_5
 have HC0_5 := Aside0.mk hc0_5
 clear hr0_5 hc0_5
 have HR0_6 := Aside0.mk hr0_6
 have HC0_6 := Aside0.mk hc0_6
 clear hr0_6 hc0_6
 have HR1 := Aside0.mk hr1
 have HC1 := Aside0.mk hc1
 clear hr1 hc1
 have BK0 := Aside0.mk hg0
 clear hg0
 have HB := Aside0.mk (Below.refl w.heap.size w)
 have H : (impl_graph_turns.l0 k l1 ([] : List Int) 1 a0_0 a0_1 l0_2 a0_3 a0_4 l0_5 l0_6) = some r := h
 clear h
 have H' := Aside0.mk H
 clear H
 go_enter Try.func63, Try.ntmps63
 go_wp2
 repeat ((first | go_quiet (fail) | (refine wp_region_quiet_lit (by kernel_rfl) (by kernel_rfl) ?_; (repeat (any_goals (first | go_big_quiet_step (fail) | quiet_step (fail)))); all_goals (refine wpQuiet_nil ?_; intro _ hw2_; obtain ⟨nq, hw3_⟩ := hw2_; subst hw3_))); try go_wp2)
 go_loopg [5, 6] k (fun kq v5 v6 w' => ∃ (x5_1 : List Int) (x6_1 : Int), v6 = .int .i64 x6_1 ∧ Aside0 (impl_graph_turns.l0 kq l1 x5_1 x6_1 a0_0 a0_1 l0_2 a0_3 a0_4 l0_5 l0_6 = some r) ∧ Aside0 (kq ≤ k) ∧ Aside0 (Kd.R (Kd.int .i64) 3 w' w.heap.size (fun _ => True) v5 x5_1) ∧ Aside0 (w'.heap[gb0]? = some (.cells #[.int .i64 a0_0, .int .i64 a0_1, (.slice A0_2 l0_2.length c0_2), .int .i64 a0_3, .int .i64 a0_4, (.slice A0_5 l0_5.length c0_5), (.slice A0_6 l0_6.length c0_6)] 82 (0, 0))) ∧ Aside0 (Below w.heap.size w w'))
 case atStart => exact ⟨(([] : List Int)), (1), zu30, H', ⟨Nat.le_refl _⟩, ⟨zu24⟩, ⟨zu4⟩, ⟨zu3⟩⟩
 case round =>
  clear H'
  try clear c1; try clear p2
  obtain ⟨x5_1, x6_1, rfl, HA, HK1, HO_5, BK0, HB⟩ := hrel
  cases gk with
  | zero => exact absurd HA.out (by simp [impl_graph_turns.l0])
  | succ k1 =>
   have H := HA.out
   clear HA
   simp only [impl_graph_turns.l0] at H
   by_cases c3 : (wrap64 (x6_1 + 1)) < (l1.length : Int)
   rotate_left
   ·rw [if_neg c3] at H
    have c3b0 : decide ((wrap64 (x6_1 + 1)) < (l1.length : Int)) = false := decide_eq_false c3
    clear c3
    obtain rfl := Option.some.inj H
    go_wp2
    repeat ((first | go_quiet (fail) | (refine wp_region_quiet_lit (by kernel_rfl) (by kernel_rfl) ?_; (repeat (any_goals (first | go_big_quiet_step (fail) | quiet_step (fail)))); all_goals (refine wpQuiet_nil ?_; intro _ hw2_; obtain ⟨nq, hw3_⟩ := hw2_; subst hw3_))); try go_wp2)
    go_ret
    exact ⟨_, zu22, zu18, zu3⟩
   rw [if_pos c3] at H
   have c3b0 : decide ((wrap64 (x6_1 + 1)) < (l1.length : Int)) = true := decide_eq_true c3
   clear c3
   obtain ⟨ji4, hji4⟩ : ∃ j_ : Int, (wrap64 (x6_1 - 1)) = j_ := ⟨_, rfl⟩
   replace H : (if 0 ≤ (ji4) then (if (ji4) < (l1.length : Int) then (if 0 ≤ (wrap64 ((l1.length : Int) - 1)) then (if (wrap64 ((l1.length : Int) - 1)) < (l1.length : Int) then ((impl_graph_leaps.f k1 a0_0 a0_1 l0_2 a0_3 a0_4 l0_5 l0_6 (rd l1 (ji4)) (rd l1 (wrap64 ((l1.length : Int) - 1)))).bind fun t493 => (if t493 = true then (if x5_1.length < 17592186044416 then (impl_graph_turns.l0 k1 l1 (x5_1 ++ [x6_1]) (wrap64 (x6_1 + 1)) a0_0 a0_1 l0_2 a0_3 a0_4 l0_5 l0_6) else (none)) else (impl_graph_turns.l0 k1 l1 x5_1 (wrap64 (x6_1 + 1)) a0_0 a0_1 l0_2 a0_3 a0_4 l0_5 l0_6))) else (none)) else (none)) else (none)) else (none)) = some r := by first | (rw [hji4] at H; exact H) | (simp only [hji4] at H ⊢; exact H)
   have hji4w : (IntKind.i64.wrap (x6_1 - 1)) = ji4 := (i64_w _).trans hji4
   by_cases c5 : 0 ≤ (ji4)
   rotate_left
   ·rw [if_neg c5] at H
    exact absurd H (by simp)
   rw [if_pos c5] at H
   have c5b0 : decide (0 ≤ (ji4)) = true := decide_eq_true c5
   clear c5
   by_cases c6 : (ji4) < (l1.length : Int)
   rotate_left
   ·rw [if_neg c6] at H
    exact absurd H (by simp)
   rw [if_pos c6] at H
   have c6b0 : decide ((ji4) < (l1.length : Int)) = true := decide_eq_true c6
   clear c6
   obtain ⟨ji7, hji7⟩ : ∃ j_ : Int, (wrap64 ((l1.length : Int) - 1)) = j_ := ⟨_, rfl⟩
   replace H : (if 0 ≤ (ji7) then (if (ji7) < (l1.length : Int) then ((impl_graph_leaps.f k1 a0_0 a0_1 l0_2 a0_3 a0_4 l0_5 l0_6 (rd l1 (ji4)) (rd l1 (ji7))).bind fun t493 => (if t493 = true then (if x5_1.length < 17592186044416 then (impl_graph_turns.l0 k1 l1 (x5_1 ++ [x6_1]) (wrap64 (x6_1 + 1)) a0_0 a0_1 l0_2 a0_3 a0_4 l0_5 l0_6) else (none)) else (impl_graph_turns.l0 k1 l1 x5_1 (wrap64 (x6_1 + 1)) a0_0 a0_1 l0_2 a0_3 a0_4 l0_5 l0_6))) else (none)) else (none)) = some r := by first | (rw [hji7] at H; exact H) | (simp only [hji7] at H ⊢; exact H)
   have hji7w : (IntKind.i64.wrap ((l1.length : Int) - 1)) = ji7 := (i64_w _).trans hji7
   by_cases c8 : 0 ≤ (ji7)
   rotate_left
   ·rw [if_neg c8] at H
    exact absurd H (by simp)
   rw [if_pos c8] at H
   have c8b0 : decide (0 ≤ (ji7)) = true := decide_eq_true c8
   clear c8
   by_cases c9 : (ji7) < (l1.length : Int)
   rotate_left
   ·rw [if_neg c9] at H
    exact absurd H (by simp)
   rw [if_pos c9] at H
   have c9b0 : decide ((ji7) < (l1.length : Int)) = true := decide_eq_true c9
   clear c9
   replace H := Option.bind_eq_some_iff.mp H
   obtain ⟨t493, A100, H⟩ := H
   replace H : (if t493 = true then (if x5_1.length < 17592186044416 then (impl_graph_turns.l0 k1 l1 (x5_1 ++ [x6_1]) (wrap64 (x6_1 + 1)) a0_0 a0_1 l0_2 a0_3 a0_4 l0_5 l0_6) else (none)) else (impl_graph_turns.l0 k1 l1 x5_1 (wrap64 (x6_1 + 1)) a0_0 a0_1 l0_2 a0_3 a0_4 l0_5 l0_6)) = some r := H
   have A10 := Aside0.mk A100
   clear A100
   by_cases c11 : t493 = true
   rotate_left
   ·replace c11 := Bool.eq_false_iff.mpr c11
    subst c11
    have H1 : (impl_graph_turns.l0 k1 l1 x5_1 (wrap64 (x6_1 + 1)) a0_0 a0_1 l0_2 a0_3 a0_4 l0_5 l0_6) = some r := by rw [if_neg (show ¬ (false = true) by decide)] at H; exact H
    clear H
    have H := H1
    clear H1
    have H' := Aside0.mk H
    clear H
    have p491 : 0 ≤ ((ji4) : Int) := of_decide_eq_true zu20
    have q491 : (ji4) < (l1.length : Int) := of_decide_eq_true zu20
    obtain ⟨ad491, e491, hx491_0⟩ := Kd.at_int HR1.out (ji4) p491 q491
    cases e491
    (first | replace hx491_0 := (HB.out.cell (World.block_lt_of_cell? w _ hx491_0)).trans hx491_0 | skip)
    replace p491 := eq_true p491
    replace q491 := eq_true q491
    have p492 : 0 ≤ ((ji7) : Int) := of_decide_eq_true zu20
    have q492 : (ji7) < (l1.length : Int) := of_decide_eq_true zu20
    obtain ⟨ad492, e492, hx492_0⟩ := Kd.at_int HR1.out (ji7) p492 q492
    obtain rfl : ad491 = ad492 := (by injection e492)
    (first | replace hx492_0 := (HB.out.cell (World.block_lt_of_cell? w _ hx492_0)).trans hx492_0 | skip)
    replace p492 := eq_true p492
    replace q492 := eq_true q492
    go_wp2_with (first | (go_at_call 96; (with_reducible refine (impl_graph_leaps.calls k1 gb0 a0_0 a0_1 A0_2 c0_2 l0_2 a0_3 a0_4 A0_5 c0_5 l0_5 A0_6 c0_6 l0_6 (rd l1 (ji4)) (rd l1 (ji7)) false _ ?side1 ?side2 ?side3 ?side4 ?side5 ?side6 ?side7 A10.out).mono ?_); (case side1 => exact zu4); (case side2 => exact zu1); (case side3 => exact HC0_2.out); (case side4 => exact zu7); (case side5 => exact HC0_5.out); (case side6 => exact zu6); (case side7 => exact HC0_6.out); rintro e w' ⟨rfl, ⟨nd, rfl⟩⟩; (try first | exact ⟨rfl, _, World.drewN_drewN _ _ _⟩ | exact ⟨rfl, _, Eq.trans (World.drewN_drewN _ _ _) (congrArg (World.drewN _) (Nat.add_assoc _ _ _))⟩)))
    repeat ((first | go_quiet (first | (go_at_call 96; (with_reducible refine (impl_graph_leaps.calls k1 gb0 a0_0 a0_1 A0_2 c0_2 l0_2 a0_3 a0_4 A0_5 c0_5 l0_5 A0_6 c0_6 l0_6 (rd l1 (ji4)) (rd l1 (ji7)) false _ ?side1 ?side2 ?side3 ?side4 ?side5 ?side6 ?side7 A10.out).mono ?_); (case side1 => exact zu4); (case side2 => exact zu1); (case side3 => exact HC0_2.out); (case side4 => exact zu7); (case side5 => exact HC0_5.out); (case side6 => exact zu6); (case side7 => exact HC0_6.out); rintro e w' ⟨rfl, ⟨nd, rfl⟩⟩; (try first | exact ⟨rfl, _, World.drewN_drewN _ _ _⟩ | exact ⟨rfl, _, Eq.trans (World.drewN_drewN _ _ _) (congrArg (World.drewN _) (Nat.add_assoc _ _ _))⟩))) | (refine wp_region_quiet_lit (by kernel_rfl) (by kernel_rfl) ?_; (repeat (any_goals (first | go_big_quiet_step (first | (go_at_call 96; (with_reducible refine (impl_graph_leaps.calls k1 gb0 a0_0 a0_1 A0_2 c0_2 l0_2 a0_3 a0_4 A0_5 c0_5 l0_5 A0_6 c0_6 l0_6 (rd l1 (ji4)) (rd l1 (ji7)) false _ ?side1 ?side2 ?side3 ?side4 ?side5 ?side6 ?side7 A10.out).mono ?_); (case side1 => exact zu4); (case side2 => exact zu1); (case side3 => exact HC0_2.out); (case side4 => exact zu7); (case side5 => exact HC0_5.out); (case side6 => exact zu6); (case side7 => exact HC0_6.out); rintro e w' ⟨rfl, ⟨nd, rfl⟩⟩; (try first | exact ⟨rfl, _, World.drewN_drewN _ _ _⟩ | exact ⟨rfl, _, Eq.trans (World.drewN_drewN _ _ _) (congrArg (World.drewN _) (Nat.add_assoc _ _ _))⟩))) | quiet_step (first | (go_at_call 96; (with_reducible refine (impl_graph_leaps.calls k1 gb0 a0_0 a0_1 A0_2 c0_2 l0_2 a0_3 a0_4 A0_5 c0_5 l0_5 A0_6 c0_6 l0_6 (rd l1 (ji4)) (rd l1 (ji7)) false _ ?side1 ?side2 ?side3 ?side4 ?side5 ?side6 ?side7 A10.out).mono ?_); (case side1 => exact zu4); (case side2 => exact zu1); (case side3 => exact HC0_2.out); (case side4 => exact zu7); (case side5 => exact HC0_5.out); (case side6 => exact zu6); (case side7 => exact HC0_6.out); rintro e w' ⟨rfl, ⟨nd, rfl⟩⟩; (try first | exact ⟨rfl, _, World.drewN_drewN _ _ _⟩ | exact ⟨rfl, _, Eq.trans (World.drewN_drewN _ _ _) (congrArg (World.drewN _) (Nat.add_assoc _ _ _))⟩)))))); all_goals (refine wpQuiet_nil ?_; intro _ hw2_; obtain ⟨nq, hw3_⟩ := hw2_; subst hw3_))); try go_wp2_with (first | (go_at_call 96; (with_reducible refine (impl_graph_leaps.calls k1 gb0 a0_0 a0_1 A0_2 c0_2 l0_2 a0_3 a0_4 A0_5 c0_5 l0_5 A0_6 c0_6 l0_6 (rd l1 (ji4)) (rd l1 (ji7)) false _ ?side1 ?side2 ?side3 ?side4 ?side5 ?side6 ?side7 A10.out).mono ?_); (case side1 => exact zu4); (case side2 => exact zu1); (case side3 => exact HC0_2.out); (case side4 => exact zu7); (case side5 => exact HC0_5.out); (case side6 => exact zu6); (case side7 => exact HC0_6.out); rintro e w' ⟨rfl, ⟨nd, rfl⟩⟩; (try first | exact ⟨rfl, _, World.drewN_drewN _ _ _⟩ | exact ⟨rfl, _, Eq.trans (World.drewN_drewN _ _ _) (congrArg (World.drewN _) (Nat.add_assoc _ _ _))⟩))))
    go_roundg k1
    case measure => have := HK1.out; omega
    case rel => exact ⟨(x5_1), (wrap64 (x6_1 + 1)), zu30, H', ⟨by have := HK1.out; omega⟩, ⟨zu18⟩, ⟨zu4⟩, ⟨zu3⟩⟩
   subst c11
   have H1 : (if x5_1.length < 17592186044416 then (impl_graph_turns.l0 k1 l1 (x5_1 ++ [x6_1]) (wrap64 (x6_1 + 1)) a0_0 a0_1 l0_2 a0_3 a0_4 l0_5 l0_6) else (none)) = some r := by rw [if_pos rfl] at H; exact H
   clear H
   have H := H1
   clear H1
   by_cases c12 : x5_1.length < 17592186044416
   rotate_left
   ·rw [if_neg c12] at H
    exact absurd H (by simp)
   rw [if_pos c12] at H
   have LMc12 := Aside0.mk c12
   clear c12
   obtain ⟨y494, hy494⟩ : ∃ y_ : List Int, y_ = (x5_1 ++ [x6_1]) := ⟨_, rfl⟩
   replace H : (impl_graph_turns.l0 k1 l1 y494 (wrap64 (x6_1 + 1)) a0_0 a0_1 l0_2 a0_3 a0_4 l0_5 l0_6) = some r := by first | (rw [hy494]; with_reducible exact H) | (have H2_ := (Option.bind_some _ _).symm.trans H; rw [hy494]; with_reducible exact H2_) | (have H2_ := (Option.bind_some _ _).symm.trans H; with_reducible exact H2_) | with_reducible exact H | (rw [hy494]; exact H) | exact H
   have Ny494 := Aside0.mk hy494
   clear hy494
   have H' := Aside0.mk H
   clear H
   have p491 : 0 ≤ ((ji4) : Int) := of_decide_eq_true zu20
   have q491 : (ji4) < (l1.length : Int) := of_decide_eq_true zu20
   obtain ⟨ad491, e491, hx491_0⟩ := Kd.at_int HR1.out (ji4) p491 q491
   cases e491
   (first | replace hx491_0 := (HB.out.cell (World.block_lt_of_cell? w _ hx491_0)).trans hx491_0 | skip)
   replace p491 := eq_true p491
   replace q491 := eq_true q491
   have p492 : 0 ≤ ((ji7) : Int) := of_decide_eq_true zu20
   have q492 : (ji7) < (l1.length : Int) := of_decide_eq_true zu20
   obtain ⟨ad492, e492, hx492_0⟩ := Kd.at_int HR1.out (ji7) p492 q492
   obtain rfl : ad491 = ad492 := (by injection e492)
   (first | replace hx492_0 := (HB.out.cell (World.block_lt_of_cell? w _ hx492_0)).trans hx492_0 | skip)
   replace p492 := eq_true p492
   replace q492 := eq_true q492
   go_wp2_with (first | (go_at_call 96; (with_reducible refine (impl_graph_leaps.calls k1 gb0 a0_0 a0_1 A0_2 c0_2 l0_2 a0_3 a0_4 A0_5 c0_5 l0_5 A0_6 c0_6 l0_6 (rd l1 (ji4)) (rd l1 (ji7)) true _ ?side1 ?side2 ?side3 ?side4 ?side5 ?side6 ?side7 A10.out).mono ?_); (case side1 => exact zu4); (case side2 => exact zu1); (case side3 => exact HC0_2.out); (case side4 => exact zu7); (case side5 => exact HC0_5.out); (case side6 => exact zu6); (case side7 => exact HC0_6.out); rintro e w' ⟨rfl, ⟨nd, rfl⟩⟩; (try first | exact ⟨rfl, _, World.drewN_drewN _ _ _⟩ | exact ⟨rfl, _, Eq.trans (World.drewN_drewN _ _ _) (congrArg (World.drewN _) (Nat.add_assoc _ _ _))⟩)) | ((with_reducible refine gate_builtin (b := .append) (xs := #[.tmp 27, .tmp 29]) rfl ?_); at_builtin; refine Kd.R_append (Kd.int .i64) (w0 := w) w.heap.size rfl (.tmp 27) (.tmp 29) 22 3 (.int .i64 0) 8 rfl Try.underlying22 info3 rfl (by decide) (by omega) u5 x5_1 x6_1 [.int .i64 x6_1] (fun _ => True) (fun _ => False) rfl rfl ?aP (fun _ hk => hk.elim) ?aF ?aO ?aB ?aS ?aL ?_; (case aP => exact rfl); (case aB => exact zu3); (case aF => exact (fun _ _ => trivial)); (case aO => exact zu18); (case aS => exact (below_size zu3)); (case aL => have := LMc12.out; omega); intro v495 w13 ho hb hg hat; rw [← Ny494.out] at ho; have n0_ := Aside0.mk (blk_grown (g := gb0) (o := .cells #[.int .i64 a0_0, .int .i64 a0_1, .slice A0_2 l0_2.length c0_2, .int .i64 a0_3, .int .i64 a0_4, .slice A0_5 l0_5.length c0_5, .slice A0_6 l0_6.length c0_6] 82 (0, 0)) zu4 hg (Kd.R_ne HO_5.out BK0.out (by decide))); have n1_ := Aside0.mk (hb); have n2_ := Aside0.mk (ho); clear BK0; clear HB; clear HO_5; have BK0 := n0_; have HB := n1_; have HO496 := n2_; clear n0_ n1_ n2_; clear ho hb hg hat))
   repeat ((first | go_quiet (first | (go_at_call 96; (with_reducible refine (impl_graph_leaps.calls k1 gb0 a0_0 a0_1 A0_2 c0_2 l0_2 a0_3 a0_4 A0_5 c0_5 l0_5 A0_6 c0_6 l0_6 (rd l1 (ji4)) (rd l1 (ji7)) true _ ?side1 ?side2 ?side3 ?side4 ?side5 ?side6 ?side7 A10.out).mono ?_); (case side1 => exact zu4); (case side2 => exact zu1); (case side3 => exact HC0_2.out); (case side4 => exact zu7); (case side5 => exact HC0_5.out); (case side6 => exact zu6); (case side7 => exact HC0_6.out); rintro e w' ⟨rfl, ⟨nd, rfl⟩⟩; (try first | exact ⟨rfl, _, World.drewN_drewN _ _ _⟩ | exact ⟨rfl, _, Eq.trans (World.drewN_drewN _ _ _) (congrArg (World.drewN _) (Nat.add_assoc _ _ _))⟩)) | ((with_reducible refine gate_builtin (b := .append) (xs := #[.tmp 27, .tmp 29]) rfl ?_); at_builtin; refine Kd.R_append (Kd.int .i64) (w0 := w) w.heap.size rfl (.tmp 27) (.tmp 29) 22 3 (.int .i64 0) 8 rfl Try.underlying22 info3 rfl (by decide) (by omega) u5 x5_1 x6_1 [.int .i64 x6_1] (fun _ => True) (fun _ => False) rfl rfl ?aP (fun _ hk => hk.elim) ?aF ?aO ?aB ?aS ?aL ?_; (case aP => exact rfl); (case aB => exact zu3); (case aF => exact (fun _ _ => trivial)); (case aO => exact zu18); (case aS => exact (below_size zu3)); (case aL => have := LMc12.out; omega); intro v495 w13 ho hb hg hat; rw [← Ny494.out] at ho; have n0_ := Aside0.mk (blk_grown (g := gb0) (o := .cells #[.int .i64 a0_0, .int .i64 a0_1, .slice A0_2 l0_2.length c0_2, .int .i64 a0_3, .int .i64 a0_4, .slice A0_5 l0_5.length c0_5, .slice A0_6 l0_6.length c0_6] 82 (0, 0)) zu4 hg (Kd.R_ne HO_5.out BK0.out (by decide))); have n1_ := Aside0.mk (hb); have n2_ := Aside0.mk (ho); clear BK0; clear HB; clear HO_5; have BK0 := n0_; have HB := n1_; have HO496 := n2_; clear n0_ n1_ n2_; clear ho hb hg hat)) | (refine wp_region_quiet_lit (by kernel_rfl) (by kernel_rfl) ?_; (repeat (any_goals (first | go_big_quiet_step (first | (go_at_call 96; (with_reducible refine (impl_graph_leaps.calls k1 gb0 a0_0 a0_1 A0_2 c0_2 l0_2 a0_3 a0_4 A0_5 c0_5 l0_5 A0_6 c0_6 l0_6 (rd l1 (ji4)) (rd l1 (ji7)) true _ ?side1 ?side2 ?side3 ?side4 ?side5 ?side6 ?side7 A10.out).mono ?_); (case side1 => exact zu4); (case side2 => exact zu1); (case side3 => exact HC0_2.out); (case side4 => exact zu7); (case side5 => exact HC0_5.out); (case side6 => exact zu6); (case side7 => exact HC0_6.out); rintro e w' ⟨rfl, ⟨nd, rfl⟩⟩; (try first | exact ⟨rfl, _, World.drewN_drewN _ _ _⟩ | exact ⟨rfl, _, Eq.trans (World.drewN_drewN _ _ _) (congrArg (World.drewN _) (Nat.add_assoc _ _ _))⟩)) | ((with_reducible refine gate_builtin (b := .append) (xs := #[.tmp 27, .tmp 29]) rfl ?_); at_builtin; refine Kd.R_append (Kd.int .i64) (w0 := w) w.heap.size rfl (.tmp 27) (.tmp 29) 22 3 (.int .i64 0) 8 rfl Try.underlying22 info3 rfl (by decide) (by omega) u5 x5_1 x6_1 [.int .i64 x6_1] (fun _ => True) (fun _ => False) rfl rfl ?aP (fun _ hk => hk.elim) ?aF ?aO ?aB ?aS ?aL ?_; (case aP => exact rfl); (case aB => exact zu3); (case aF => exact (fun _ _ => trivial)); (case aO => exact zu18); (case aS => exact (below_size zu3)); (case aL => have := LMc12.out; omega); intro v495 w13 ho hb hg hat; rw [← Ny494.out] at ho; have n0_ := Aside0.mk (blk_grown (g := gb0) (o := .cells #[.int .i64 a0_0, .int .i64 a0_1, .slice A0_2 l0_2.length c0_2, .int .i64 a0_3, .int .i64 a0_4, .slice A0_5 l0_5.length c0_5, .slice A0_6 l0_6.length c0_6] 82 (0, 0)) zu4 hg (Kd.R_ne HO_5.out BK0.out (by decide))); have n1_ := Aside0.mk (hb); have n2_ := Aside0.mk (ho); clear BK0; clear HB; clear HO_5; have BK0 := n0_; have HB := n1_; have HO496 := n2_; clear n0_ n1_ n2_; clear ho hb hg hat)) | quiet_step (first | (go_at_call 96; (with_reducible refine (impl_graph_leaps.calls k1 gb0 a0_0 a0_1 A0_2 c0_2 l0_2 a0_3 a0_4 A0_5 c0_5 l0_5 A0_6 c0_6 l0_6 (rd l1 (ji4)) (rd l1 (ji7)) true _ ?side1 ?side2 ?side3 ?side4 ?side5 ?side6 ?side7 A10.out).mono ?_); (case side1 => exact zu4); (case side2 => exact zu1); (case side3 => exact HC0_2.out); (case side4 => exact zu7); (case side5 => exact HC0_5.out); (case side6 => exact zu6); (case side7 => exact HC0_6.out); rintro e w' ⟨rfl, ⟨nd, rfl⟩⟩; (try first | exact ⟨rfl, _, World.drewN_drewN _ _ _⟩ | exact ⟨rfl, _, Eq.trans (World.drewN_drewN _ _ _) (congrArg (World.drewN _) (Nat.add_assoc _ _ _))⟩)) | ((with_reducible refine gate_builtin (b := .append) (xs := #[.tmp 27, .tmp 29]) rfl ?_); at_builtin; refine Kd.R_append (Kd.int .i64) (w0 := w) w.heap.size rfl (.tmp 27) (.tmp 29) 22 3 (.int .i64 0) 8 rfl Try.underlying22 info3 rfl (by decide) (by omega) u5 x5_1 x6_1 [.int .i64 x6_1] (fun _ => True) (fun _ => False) rfl rfl ?aP (fun _ hk => hk.elim) ?aF ?aO ?aB ?aS ?aL ?_; (case aP => exact rfl); (case aB => exact zu3); (case aF => exact (fun _ _ => trivial)); (case aO => exact zu18); (case aS => exact (below_size zu3)); (case aL => have := LMc12.out; omega); intro v495 w13 ho hb hg hat; rw [← Ny494.out] at ho; have n0_ := Aside0.mk (blk_grown (g := gb0) (o := .cells #[.int .i64 a0_0, .int .i64 a0_1, .slice A0_2 l0_2.length c0_2, .int .i64 a0_3, .int .i64 a0_4, .slice A0_5 l0_5.length c0_5, .slice A0_6 l0_6.length c0_6] 82 (0, 0)) zu4 hg (Kd.R_ne HO_5.out BK0.out (by decide))); have n1_ := Aside0.mk (hb); have n2_ := Aside0.mk (ho); clear BK0; clear HB; clear HO_5; have BK0 := n0_; have HB := n1_; have HO496 := n2_; clear n0_ n1_ n2_; clear ho hb hg hat))))); all_goals (refine wpQuiet_nil ?_; intro _ hw2_; obtain ⟨nq, hw3_⟩ := hw2_; subst hw3_))); try go_wp2_with (first | (go_at_call 96; (with_reducible refine (impl_graph_leaps.calls k1 gb0 a0_0 a0_1 A0_2 c0_2 l0_2 a0_3 a0_4 A0_5 c0_5 l0_5 A0_6 c0_6 l0_6 (rd l1 (ji4)) (rd l1 (ji7)) true _ ?side1 ?side2 ?side3 ?side4 ?side5 ?side6 ?side7 A10.out).mono ?_); (case side1 => exact zu4); (case side2 => exact zu1); (case side3 => exact HC0_2.out); (case side4 => exact zu7); (case side5 => exact HC0_5.out); (case side6 => exact zu6); (case side7 => exact HC0_6.out); rintro e w' ⟨rfl, ⟨nd, rfl⟩⟩; (try first | exact ⟨rfl, _, World.drewN_drewN _ _ _⟩ | exact ⟨rfl, _, Eq.trans (World.drewN_drewN _ _ _) (congrArg (World.drewN _) (Nat.add_assoc _ _ _))⟩)) | ((with_reducible refine gate_builtin (b := .append) (xs := #[.tmp 27, .tmp 29]) rfl ?_); at_builtin; refine Kd.R_append (Kd.int .i64) (w0 := w) w.heap.size rfl (.tmp 27) (.tmp 29) 22 3 (.int .i64 0) 8 rfl Try.underlying22 info3 rfl (by decide) (by omega) u5 x5_1 x6_1 [.int .i64 x6_1] (fun _ => True) (fun _ => False) rfl rfl ?aP (fun _ hk => hk.elim) ?aF ?aO ?aB ?aS ?aL ?_; (case aP => exact rfl); (case aB => exact zu3); (case aF => exact (fun _ _ => trivial)); (case aO => exact zu18); (case aS => exact (below_size zu3)); (case aL => have := LMc12.out; omega); intro v495 w13 ho hb hg hat; rw [← Ny494.out] at ho; have n0_ := Aside0.mk (blk_grown (g := gb0) (o := .cells #[.int .i64 a0_0, .int .i64 a0_1, .slice A0_2 l0_2.length c0_2, .int .i64 a0_3, .int .i64 a0_4, .slice A0_5 l0_5.length c0_5, .slice A0_6 l0_6.length c0_6] 82 (0, 0)) zu4 hg (Kd.R_ne HO_5.out BK0.out (by decide))); have n1_ := Aside0.mk (hb); have n2_ := Aside0.mk (ho); clear BK0; clear HB; clear HO_5; have BK0 := n0_; have HB := n1_; have HO496 := n2_; clear n0_ n1_ n2_; clear ho hb hg hat)))
   go_roundg k1
   case measure => have := HK1.out; omega
   case rel => exact ⟨(y494), (wrap64 (x6_1 + 1)), zu30, H', ⟨by have := HK1.out; omega⟩, ⟨by (with_reducible repeat (first | apply Kd.R_alloc | apply Kd.R_drewN | apply Kd.R_drew)); exact HO496.out⟩, ⟨zu4⟩, ⟨zu3⟩⟩

/-! ### impl_TailTurns: function 29 -/
def impl_TailTurns.f (k : Nat) (a0_0 : Int) (a0_1 : Int) (l0_2 : List Int) (a1_0 : Int) (a1_1 : Int) (l2 : List Int) : Option (List Int × Bool) := (impl_walkGraph.f k a0_0 a0_1 l0_2 a1_0 a1_1 l2).bind fun bt499 => (if bt499.2.2 = true then ((impl_graph_turns.f k a0_0 a0_1 l0_2 a1_0 a1_1 bt499.1 bt499.2.1 l2).bind fun t508 => (some (t508, true))) else (some (([] : List Int), false)))
set_option maxHeartbeats 8000000 in
set_option maxRecDepth 100000 in
theorem impl_TailTurns.calls (k : Nat) (a0_0 : Int) (a0_1 : Int) (A0_2 : Option Addr) (c0_2 : Nat) (l0_2 : List Int) (a1_0 : Int) (a1_1 : Int) (A2 : Option Addr) (c2 : Nat) (l2 : List Int) (r1 : List Int) (r2 : Bool) (w : World) (hr0_2 : Kd.C (Kd.int .i64) w A0_2 l0_2.length l0_2) (hc0_2 : l0_2.length ≤ c0_2) (hr2 : Kd.C (Kd.int .i64) w A2 l2.length l2) (hc2 : l2.length ≤ c2) (h : impl_TailTurns.f k a0_0 a0_1 l0_2 a1_0 a1_1 l2 = some (r1, r2)) :
  Calls Try.prog 29 #[.agg #[.int .i64 a0_0, .int .i64 a0_1, .slice A0_2 l0_2.length c0_2], .agg #[.int .i64 a1_0, .int .i64 a1_1], .slice A2 l2.length c2] w fun e w' => ∃ v0_ : Value, e = .returned (.tuple #[v0_, .bool r2]) ∧ Kd.R (Kd.int .i64) 3 w' w.heap.size (fun _ => True) v0_ r1 ∧ Below w.heap.size w w' := by
 have hu30 := Try.underlying30
 have hu32 := Try.underlying32
 have HR0_2 := Aside0.mk hr0_2
 have HC0_2 := Aside0.mk hc0_2
 clear hr0_2 hc0_2
 have HR2 := Aside0.mk hr2
 have HC2 := Aside0.mk hc2
 clear hr2 hc2
 have HB := Aside0.mk (Below.refl w.heap.size w)
 have H : ((impl_walkGraph.f k a0_0 a0_1 l0_2 a1_0 a1_1 l2).bind fun bt499 => (if bt499.2.2 = true then ((impl_graph_turns.f k a0_0 a0_1 l0_2 a1_0 a1_1 bt499.1 bt499.2.1 l2).bind fun t508 => (some (t508, true))) else (some (([] : List Int), false)))) = some (r1, r2) := h
 clear h
 replace H := Option.bind_eq_some_iff.mp H
 obtain ⟨⟨t499, t502, t507⟩, A40, H⟩ := H
 replace H : (if t507 = true then ((impl_graph_turns.f k a0_0 a0_1 l0_2 a1_0 a1_1 t499 t502 l2).bind fun t508 => (some (t508, true))) else (some (([] : List Int), false))) = some (r1, r2) := H
 have A4 := Aside0.mk A40
 clear A40
 by_cases c5 : t507 = true
 rotate_left
 ·replace c5 := Bool.eq_false_iff.mpr c5
  subst c5
  have H1 : (some (([] : List Int), false)) = some (r1, r2) := by rw [if_neg (show ¬ (false = true) by decide)] at H; exact H
  clear H
  have H := H1
  clear H1
  simp only [Option.some.injEq, Prod.mk.injEq] at H
  obtain ⟨rfl, rfl⟩ := H
  go_enter Try.func29, Try.ntmps29
  go_wp2_with (first | ((with_reducible refine gate_dst (N := 3) rfl ?_); refine box_event ?hg (N := 3) ?hd (cs := #[.int .i64 a0_0, .int .i64 a0_1, .slice A0_2 l0_2.length c0_2]) (t := 30) ?hr ?_; (case hd => rfl); (case hg => rfl); (case hr => first | (go_simp; done) | (go_simp; rfl)); intro gb497 hg w16 hbox hb; have n0_ := Aside0.mk (below_step zu2 hb); have n1_ := Aside0.mk (hbox); have n2_ := Aside0.mk ((zu33 : w.heap.size ≤ gb497)); have n3_ := Aside0.mk ((zu33 : w.heap.size ≤ gb497)); clear HB; have HB := n0_; have BK497 := n1_; have GW497 := n2_; have GE497 := n3_; clear n0_ n1_ n2_ n3_; clear hb hbox hg) | ((with_reducible refine gate_dst (N := 4) rfl ?_); refine box_event ?hg (N := 4) ?hd (cs := #[.int .i64 a1_0, .int .i64 a1_1]) (t := 32) ?hr ?_; (case hd => rfl); (case hg => rfl); (case hr => first | (go_simp; done) | (go_simp; rfl)); intro gb498 hg w17 hbox hb; have n0_ := Aside0.mk (blk_below (g := gb497) (o := .cells #[.int .i64 a0_0, .int .i64 a0_1, .slice A0_2 l0_2.length c0_2] 30 (0, 0)) zu11 hb); have n1_ := Aside0.mk (below_step zu16 hb); have n2_ := Aside0.mk (hbox); have n3_ := Aside0.mk ((by rw [hg]; exact (below_size zu16) : w.heap.size ≤ gb498)); have n4_ := Aside0.mk ((by rw [hg]; exact (below_size zu16) : w.heap.size ≤ gb498)); have n5_ := Aside0.mk ((zu34 : gb497 ≠ gb498)); have n6_ := Aside0.mk ((zu36 : gb498 ≠ gb497)); clear BK497; clear HB; have BK497 := n0_; have HB := n1_; have BK498 := n2_; have GW498 := n3_; have GE498 := n4_; have NB497_498 := n5_; have NB498_497 := n6_; clear n0_ n1_ n2_ n3_ n4_ n5_ n6_; clear hb hbox hg; have hnb18 := NB497_498.out; have hnc18 := NB498_497.out; have hcz19_0 : w17.cell? ⟨gb497, 0, none⟩ = some (.int .i64 a0_0) := (blk_cell BK497.out 0).trans rfl; have hcz19_1 : w17.cell? ⟨gb497, 1, none⟩ = some (.int .i64 a0_1) := (blk_cell BK497.out 1).trans rfl; have hcz19_2 : w17.cell? ⟨gb497, 2, none⟩ = some (.slice A0_2 l0_2.length c0_2) := (blk_cell BK497.out 2).trans rfl; have hfz19_0 := blk_frozen BK497.out 0; have hfz19_1 := blk_frozen BK497.out 1; have hfz19_2 := blk_frozen BK497.out 2; have hcz20_0 : w17.cell? ⟨gb498, 0, none⟩ = some (.int .i64 a1_0) := (blk_cell BK498.out 0).trans rfl; have hcz20_1 : w17.cell? ⟨gb498, 1, none⟩ = some (.int .i64 a1_1) := (blk_cell BK498.out 1).trans rfl; have hfz20_0 := blk_frozen BK498.out 0; have hfz20_1 := blk_frozen BK498.out 1) | ((with_reducible refine gate_callee (f := 62) rfl ?_); refine goesL_ (some 14) rfl rfl Try.func62 (by kernel_rfl) rfl #[.agg #[.int .i64 a0_0, .int .i64 a0_1, .slice A0_2 l0_2.length c0_2], .agg #[.int .i64 a1_0, .int .i64 a1_1], .slice A2 l2.length c2] rfl zu13 ?_; (with_reducible refine (impl_walkGraph.calls k a0_0 a0_1 _ _ l0_2 a1_0 a1_1 _ _ l2 t499 t502 false _ ?side1 ?side2 ?side3 ?side4 A4.out).mono ?_); (case side1 => exact zu1); (case side2 => exact HC0_2.out); (case side3 => exact zu10); (case side4 => exact HC2.out); rintro e w21 ⟨v500, v503, pv506, rfl, hgp, ho0, ho1, hb⟩; refine ⟨_, rfl, ?_⟩; obtain rfl := hgp.2 rfl; have n0_ := Aside0.mk (Kd.R_lower ho0 (below_size zu5)); have n1_ := Aside0.mk (Kd.S_lower ho1 (below_size zu5)); have n2_ := Aside0.mk (blk_below (g := gb497) (o := .cells #[.int .i64 a0_0, .int .i64 a0_1, .slice A0_2 l0_2.length c0_2] 30 (0, 0)) zu11 hb); have n3_ := Aside0.mk (blk_below (g := gb498) (o := .cells #[.int .i64 a1_0, .int .i64 a1_1] 32 (0, 0)) zu21 hb); have n4_ := Aside0.mk (below_step zu5 hb); clear BK497; clear BK498; clear HB; have HO501 := n0_; have HO504 := n1_; have BK497 := n2_; have BK498 := n3_; have HB := n4_; clear n0_ n1_ n2_ n3_ n4_; (try clear hb); (try clear hb2); (try clear hk); (try clear hi); (try clear ho0); (try clear ho1); (try clear hgp); (try clear hbox); (try clear hge); (try clear hna_); (try clear hnb_)))
  go_ret2
  exact ⟨_, zu22, zu24, zu5⟩
 subst c5
 have H1 : ((impl_graph_turns.f k a0_0 a0_1 l0_2 a1_0 a1_1 t499 t502 l2).bind fun t508 => (some (t508, true))) = some (r1, r2) := by rw [if_pos rfl] at H; exact H
 clear H
 have H := H1
 clear H1
 replace H := Option.bind_eq_some_iff.mp H
 obtain ⟨t508, A60, H⟩ := H
 replace H : (some (t508, true)) = some (r1, r2) := H
 have A6 := Aside0.mk A60
 clear A60
 simp only [Option.some.injEq, Prod.mk.injEq] at H
 obtain ⟨rfl, rfl⟩ := H
 go_enter Try.func29, Try.ntmps29
 go_wp2_with (first | ((with_reducible refine gate_dst (N := 3) rfl ?_); refine box_event ?hg (N := 3) ?hd (cs := #[.int .i64 a0_0, .int .i64 a0_1, .slice A0_2 l0_2.length c0_2]) (t := 30) ?hr ?_; (case hd => rfl); (case hg => rfl); (case hr => first | (go_simp; done) | (go_simp; rfl)); intro gb497 hg w7 hbox hb; have n0_ := Aside0.mk (below_step zu2 hb); have n1_ := Aside0.mk (hbox); have n2_ := Aside0.mk ((zu33 : w.heap.size ≤ gb497)); have n3_ := Aside0.mk ((zu33 : w.heap.size ≤ gb497)); clear HB; have HB := n0_; have BK497 := n1_; have GW497 := n2_; have GE497 := n3_; clear n0_ n1_ n2_ n3_; clear hb hbox hg) | ((with_reducible refine gate_dst (N := 4) rfl ?_); refine box_event ?hg (N := 4) ?hd (cs := #[.int .i64 a1_0, .int .i64 a1_1]) (t := 32) ?hr ?_; (case hd => rfl); (case hg => rfl); (case hr => first | (go_simp; done) | (go_simp; rfl)); intro gb498 hg w8 hbox hb; have n0_ := Aside0.mk (blk_below (g := gb497) (o := .cells #[.int .i64 a0_0, .int .i64 a0_1, .slice A0_2 l0_2.length c0_2] 30 (0, 0)) zu11 hb); have n1_ := Aside0.mk (below_step zu16 hb); have n2_ := Aside0.mk (hbox); have n3_ := Aside0.mk ((by rw [hg]; exact (below_size zu16) : w.heap.size ≤ gb498)); have n4_ := Aside0.mk ((by rw [hg]; exact (below_size zu16) : w.heap.size ≤ gb498)); have n5_ := Aside0.mk ((zu34 : gb497 ≠ gb498)); have n6_ := Aside0.mk ((zu36 : gb498 ≠ gb497)); clear BK497; clear HB; have BK497 := n0_; have HB := n1_; have BK498 := n2_; have GW498 := n3_; have GE498 := n4_; have NB497_498 := n5_; have NB498_497 := n6_; clear n0_ n1_ n2_ n3_ n4_ n5_ n6_; clear hb hbox hg; have hnb9 := NB497_498.out; have hnc9 := NB498_497.out; have hcz10_0 : w8.cell? ⟨gb497, 0, none⟩ = some (.int .i64 a0_0) := (blk_cell BK497.out 0).trans rfl; have hcz10_1 : w8.cell? ⟨gb497, 1, none⟩ = some (.int .i64 a0_1) := (blk_cell BK497.out 1).trans rfl; have hcz10_2 : w8.cell? ⟨gb497, 2, none⟩ = some (.slice A0_2 l0_2.length c0_2) := (blk_cell BK497.out 2).trans rfl; have hfz10_0 := blk_frozen BK497.out 0; have hfz10_1 := blk_frozen BK497.out 1; have hfz10_2 := blk_frozen BK497.out 2; have hcz11_0 : w8.cell? ⟨gb498, 0, none⟩ = some (.int .i64 a1_0) := (blk_cell BK498.out 0).trans rfl; have hcz11_1 : w8.cell? ⟨gb498, 1, none⟩ = some (.int .i64 a1_1) := (blk_cell BK498.out 1).trans rfl; have hfz11_0 := blk_frozen BK498.out 0; have hfz11_1 := blk_frozen BK498.out 1) | ((with_reducible refine gate_callee (f := 62) rfl ?_); refine goesL_ (some 14) rfl rfl Try.func62 (by kernel_rfl) rfl #[.agg #[.int .i64 a0_0, .int .i64 a0_1, .slice A0_2 l0_2.length c0_2], .agg #[.int .i64 a1_0, .int .i64 a1_1], .slice A2 l2.length c2] rfl zu13 ?_; (with_reducible refine (impl_walkGraph.calls k a0_0 a0_1 _ _ l0_2 a1_0 a1_1 _ _ l2 t499 t502 true _ ?side1 ?side2 ?side3 ?side4 A4.out).mono ?_); (case side1 => exact zu1); (case side2 => exact HC0_2.out); (case side3 => exact zu10); (case side4 => exact HC2.out); rintro e w12 ⟨v500, v503, pv506, rfl, hgp, ho0, ho1, hb⟩; refine ⟨_, rfl, ?_⟩; obtain ⟨gb505, rfl, hbox, hge⟩ := hgp.1 rfl; have n0_ := Aside0.mk (Kd.R_lower ho0 (below_size zu5)); have n1_ := Aside0.mk (Kd.S_lower ho1 (below_size zu5)); have n2_ := Aside0.mk (blk_below (g := gb497) (o := .cells #[.int .i64 a0_0, .int .i64 a0_1, .slice A0_2 l0_2.length c0_2] 30 (0, 0)) zu11 hb); have n3_ := Aside0.mk (blk_below (g := gb498) (o := .cells #[.int .i64 a1_0, .int .i64 a1_1] 32 (0, 0)) zu21 hb); have n4_ := Aside0.mk (hbox); have n5_ := Aside0.mk ((Nat.le_trans (by exact (below_size zu5)) hge : w.heap.size ≤ gb505)); have n6_ := Aside0.mk ((Nat.le_trans (by exact (below_size zu5)) hge : w.heap.size ≤ gb505)); have n7_ := Aside0.mk ((Nat.ne_of_lt (Nat.lt_of_lt_of_le (blk_lt (g := gb497) (o := .cells #[.int .i64 a0_0, .int .i64 a0_1, .slice A0_2 l0_2.length c0_2] 30 (0, 0)) zu11) hge) : gb497 ≠ gb505)); have n8_ := Aside0.mk ((Nat.ne_of_gt (Nat.lt_of_lt_of_le (blk_lt (g := gb497) (o := .cells #[.int .i64 a0_0, .int .i64 a0_1, .slice A0_2 l0_2.length c0_2] 30 (0, 0)) zu11) hge) : gb505 ≠ gb497)); have n9_ := Aside0.mk ((Nat.ne_of_lt (Nat.lt_of_lt_of_le (blk_lt (g := gb498) (o := .cells #[.int .i64 a1_0, .int .i64 a1_1] 32 (0, 0)) zu21) hge) : gb498 ≠ gb505)); have n10_ := Aside0.mk ((Nat.ne_of_gt (Nat.lt_of_lt_of_le (blk_lt (g := gb498) (o := .cells #[.int .i64 a1_0, .int .i64 a1_1] 32 (0, 0)) zu21) hge) : gb505 ≠ gb498)); have n11_ := Aside0.mk (below_step zu5 hb); clear BK497; clear BK498; clear HB; have HO501 := n0_; have HO504 := n1_; have BK497 := n2_; have BK498 := n3_; have BK505 := n4_; have GW505 := n5_; have GE505 := n6_; have NB497_505 := n7_; have NB505_497 := n8_; have NB498_505 := n9_; have NB505_498 := n10_; have HB := n11_; clear n0_ n1_ n2_ n3_ n4_ n5_ n6_ n7_ n8_ n9_ n10_ n11_; (try clear hb); (try clear hb2); (try clear hk); (try clear hi); (try clear ho0); (try clear ho1); (try clear hgp); (try clear hbox); (try clear hge); (try clear hna_); (try clear hnb_); obtain ⟨Ao13, co13, eo13⟩ := Kd.R_slice HO501.out; subst eo13; obtain ⟨Ao14, co14, eo14⟩ := Kd.S_slice HO504.out; subst eo14) | ((with_reducible refine gate_callee (f := 63) rfl ?_); refine goesL_ (some 21) rfl rfl Try.func63 (by kernel_rfl) rfl #[.pointer (some ⟨gb505, 0, none⟩), .slice A2 l2.length c2] rfl zu13 ?_; (with_reducible refine (impl_graph_turns.calls k gb505 a0_0 a0_1 A0_2 c0_2 l0_2 a1_0 a1_1 Ao13 co13 t499 Ao14 co14 t502 _ _ l2 t508 _ ?side1 ?side2 ?side3 ?side4 ?side5 ?side6 ?side7 ?side8 ?side9 A6.out).mono ?_); (case side1 => exact zu32); (case side2 => exact zu1); (case side3 => exact HC0_2.out); (case side4 => repeat (first | exact (Kd.R_reads' HO501.out).2.2 | (with_reducible refine Kd.C_alloc ?_ _) | (with_reducible refine Kd.C_drewN ?_ _) | (with_reducible refine Kd.C_drew ?_))); (case side5 => exact (Kd.R_reads' HO501.out).2.1); (case side6 => repeat (first | exact (Kd.S_reads' HO504.out).2.2 | (with_reducible refine Kd.C_alloc ?_ _) | (with_reducible refine Kd.C_drewN ?_ _) | (with_reducible refine Kd.C_drew ?_))); (case side7 => exact (Kd.S_reads' HO504.out).2.1); (case side8 => exact zu10); (case side9 => exact HC2.out); rintro e w15 ⟨v509, rfl, ho0, hb⟩; refine ⟨_, rfl, ?_⟩; have n0_ := Aside0.mk (Kd.R_elder' (by (with_reducible repeat (first | apply Kd.R_alloc | apply Kd.R_drewN | apply Kd.R_drew)); exact HO501.out) (Kd.R_base ho0) hb); have n1_ := Aside0.mk (Kd.S_elder' (by (with_reducible repeat (first | apply Kd.S_alloc | apply Kd.S_drewN | apply Kd.S_drew)); exact HO504.out) (Kd.R_base ho0) hb); have n2_ := Aside0.mk (Kd.R_lower (Kd.R_new' ho0 (Kd.R_lt (by (with_reducible repeat (first | apply Kd.R_alloc | apply Kd.R_drewN | apply Kd.R_drew)); exact HO501.out))) (below_size zu23)); have n3_ := Aside0.mk (blk_below (g := gb497) (o := .cells #[.int .i64 a0_0, .int .i64 a0_1, .slice A0_2 l0_2.length c0_2] 30 (0, 0)) zu11 hb); have n4_ := Aside0.mk (blk_below (g := gb498) (o := .cells #[.int .i64 a1_0, .int .i64 a1_1] 32 (0, 0)) zu21 hb); have n5_ := Aside0.mk (blk_below (g := gb505) (o := .cells #[.int .i64 a0_0, .int .i64 a0_1, .slice A0_2 l0_2.length c0_2, .int .i64 a1_0, .int .i64 a1_1, .slice Ao13 t499.length co13, .slice Ao14 t502.length co14] 82 (0, 0)) zu32 hb); have n6_ := Aside0.mk (below_step zu23 hb); clear HO501; clear HO504; clear BK497; clear BK498; clear BK505; clear HB; have HO501 := n0_; have HO504 := n1_; have HO510 := n2_; have BK497 := n3_; have BK498 := n4_; have BK505 := n5_; have HB := n6_; clear n0_ n1_ n2_ n3_ n4_ n5_ n6_; (try clear hb); (try clear hb2); (try clear hk); (try clear hi); (try clear ho0); (try clear hna_); (try clear hnb_)))
 go_ret2
 exact ⟨_, zu22, by (with_reducible repeat (first | apply Kd.R_alloc | apply Kd.R_drewN | apply Kd.R_drew)); exact Kd.R_mono HO510.out (fun _ hk => trivial), zu23⟩

end Go.Proofs.Ytjeongckkfkehaa.Q

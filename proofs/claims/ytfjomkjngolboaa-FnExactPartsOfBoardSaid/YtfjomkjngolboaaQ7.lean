/- Written by a program of this session: functions of the translation as plain Lean functions, each with a proof that the call does what the plain function says; the conditions stand in each theorem. -/
import Derived.Test.YtfjomkjngolboaaQ0
namespace Go.Proofs.Ytfjomkjngolboaa.Q
open Go.RowKit Go.Proofs.YtfjomkjngolboaaW.PrintWords Go.Proofs.YtfjomkjngolboaaW.PrintLast Go.Proofs.YtfjomkjngolboaaW.PrintMore
attribute [local go_sem] max2_int min2_int max_two min_two max_three min_three max_four min_four   -- for this text's walks alone
set_option linter.unusedVariables false
set_option linter.unusedSimpArgs false

theorem zh1 {p : Prop} (h : p := by repeat (first | (with_reducible first | exact HB.out | apply below_alloc | apply pw_below_drewN | apply below_drew1 | refine below_set ?_ GE0.out) | exact HB.out)) : p := h
theorem zh2 {p : Prop} (h : p := by first | (with_reducible assumption) | assumption) : p := h
theorem zh3 {p : Prop} (h : p := by first | exact BK0.out | ((with_reducible repeat (first | refine blk_drewN ?_ _ | refine blk_drew ?_ | refine blk_alloc ?_ _)); exact BK0.out)) : p := h
theorem zh4 {p : Prop} (h : p := by (try simp only [hl5_1]); (try simp only [hl5_2]); (try simp only [hl5_3]); first | exact BK0.out | ((with_reducible repeat (first | refine blk_drewN ?_ _ | refine blk_drew ?_ | refine blk_alloc ?_ _)); exact BK0.out)) : p := h
theorem zh5 {p : Prop} (h : p := by first | exact HO_5.out | ((with_reducible repeat (first | apply Kd.R_alloc | apply Kd.R_drewN | apply Kd.R_drew)); exact HO_5.out)) : p := h
theorem zh6 {p : Prop} (h : p := by (try simp only [hl5_1]); (try simp only [hl5_2]); (try simp only [hl5_3]); first | exact HO_5.out | ((with_reducible repeat (first | apply Kd.R_alloc | apply Kd.R_drewN | apply Kd.R_drew)); exact HO_5.out)) : p := h
theorem zh7 {p : Prop} (h : p := by first | rfl | (simp; done) | (simp [*]; done)) : p := h
theorem zh8 {p : Prop} (h : p := by (try simp only [hl5_1]); first | exact BK0.out | ((with_reducible repeat (first | refine blk_drewN ?_ _ | refine blk_drew ?_ | refine blk_alloc ?_ _)); exact BK0.out)) : p := h
/-! ### impl_graph_far: function 35 -/
mutual
def impl_graph_far.l0 : Nat → Int → List Int → Int → Int → Int → Int → List Int → Int → Int → List Int → List (List Int) → Option (List Int)
 | 0, _, _, _, _, _, _, _, _, _, _, _ => none
 | k + 1, x1, x5, x23, x24, x1000, x1001, x1002, x1003, x1004, x1005, x1006 => if x24 < x23 then (if 0 ≤ x24 then (if x24 < (x5.length : Int) then (impl_graph_far.l0 k x1 (x5.set (x24 : Int).toNat (-1)) x23 (wrap64 (x24 + 1)) x1000 x1001 x1002 x1003 x1004 x1005 x1006) else (none)) else (none)) else (if 0 ≤ x1 then (if x1 < (x5.length : Int) then (impl_graph_far.l1 k (x5.set (x1 : Int).toNat 0) (([x1] : List Int)) x1000 x1001 x1002 x1003 x1004 x1005 x1006) else (none)) else (none))
def impl_graph_far.l1 : Nat → List Int → List Int → Int → Int → List Int → Int → Int → List Int → List (List Int) → Option (List Int)
 | 0, _, _, _, _, _, _, _, _, _ => none
 | k + 1, x5, x7, x1000, x1001, x1002, x1003, x1004, x1005, x1006 => if (x7.length : Int) > 0 then (if 0 < (x7.length : Int) then (if 0 ≤ (rd x7 0) then (if (rd x7 0) < (x1006.length : Int) then (impl_graph_far.l2 k x5 x7 (rd_L1 x1006 (rd x7 0)) ((rd_L1 x1006 (rd x7 0)).length : Int) 0 x1000 x1001 x1002 x1003 x1004 x1005 x1006) else (none)) else (none)) else (none)) else (some x5)
def impl_graph_far.l2 : Nat → List Int → List Int → List Int → Int → Int → Int → Int → List Int → Int → Int → List Int → List (List Int) → Option (List Int)
 | 0, _, _, _, _, _, _, _, _, _, _, _, _ => none
 | k + 1, x5, x7, x49, x50, x51, x1000, x1001, x1002, x1003, x1004, x1005, x1006 => if x51 < x50 then (if 0 ≤ x51 then (if x51 < (x49.length : Int) then (if 0 ≤ (rd x49 x51) then (if (rd x49 x51) < (x5.length : Int) then (if (rd x5 (rd x49 x51)) < 0 then (if 0 < (x7.length : Int) then (if 0 ≤ (rd x7 0) then (if (rd x7 0) < (x5.length : Int) then (if x7.length < 17592186044416 then (impl_graph_far.l2 k (x5.set ((rd x49 x51) : Int).toNat (wrap64 ((rd x5 (rd x7 0)) + 1))) (x7 ++ [rd x49 x51]) x49 x50 (wrap64 (x51 + 1)) x1000 x1001 x1002 x1003 x1004 x1005 x1006) else (none)) else (none)) else (none)) else (none)) else (impl_graph_far.l2 k x5 x7 x49 x50 (wrap64 (x51 + 1)) x1000 x1001 x1002 x1003 x1004 x1005 x1006)) else (none)) else (none)) else (none)) else (none)) else (if 1 ≤ (x7.length : Int) then (impl_graph_far.l1 k x5 (x7.drop (1 : Int).toNat) x1000 x1001 x1002 x1003 x1004 x1005 x1006) else (none))
end
def impl_graph_far.f (k : Nat) (a0_0 : Int) (a0_1 : Int) (l0_2 : List Int) (a0_3 : Int) (a0_4 : Int) (l0_5 : List Int) (l0_6 : List (List Int)) (a1 : Int) : Option (List Int) := if 0 ≤ (wrap64 (a0_0 * a0_1)) then (if (wrap64 (a0_0 * a0_1) : Int).toNat ≤ 35184372088832 then ((some (List.replicate (wrap64 (a0_0 * a0_1) : Int).toNat 0 : List Int)).bind fun y262 => (impl_graph_far.l0 k a1 y262 (y262.length : Int) 0 a0_0 a0_1 l0_2 a0_3 a0_4 l0_5 l0_6)) else (none)) else (none)
def impl_graph_far.T1 : Bool × List (List Nat × List Nat) := (true, [([], []), ([0], [0]), ([1], [1]), ([2], [2]), ([3], [3]), ([], []), ([5], [5]), ([6], [6]), ([7], [7]), ([8], [8]), ([4, 9], [4, 9]), ([10, 10], [10]), ([11, 0, 1, 2, 3, 4, 5, 6, 7, 8, 9, 10, 11], [11])])
def impl_graph_far.B1 : List Nat := [0, 1, 3, 7, 15, 0, 32, 96, 224, 480, 1023, 2047, 4095]
theorem impl_graph_far.tab1 : rtab .any (opsOf Try.f35 1) = impl_graph_far.T1 := by kernel_rfl
theorem impl_graph_far.bits1 : waitsOk impl_graph_far.T1.2 impl_graph_far.B1 = true := by kernel_rfl
def impl_graph_far.T11 : Bool × List (List Nat × List Nat) := (true, [([], []), ([0], [0]), ([1], [1]), ([2], [2]), ([], []), ([4], [4]), ([5], [5]), ([3, 6], [3, 6]), ([7], [7]), ([8], [8]), ([], [])])
def impl_graph_far.B11 : List Nat := [0, 1, 3, 7, 0, 16, 48, 127, 255, 511, 0]
theorem impl_graph_far.tab11 : rtab .any (opsOf Try.f35 11) = impl_graph_far.T11 := by kernel_rfl
theorem impl_graph_far.bits11 : waitsOk impl_graph_far.T11.2 impl_graph_far.B11 = true := by kernel_rfl
set_option maxHeartbeats 8000000 in
set_option maxRecDepth 100000 in
theorem impl_graph_far.calls (k : Nat) (gb0 : Nat) (a0_0 : Int) (a0_1 : Int) (A0_2 : Option Addr) (c0_2 : Nat) (l0_2 : List Int) (a0_3 : Int) (a0_4 : Int) (A0_5 : Option Addr) (c0_5 : Nat) (l0_5 : List Int) (A0_6 : Option Addr) (c0_6 : Nat) (l0_6 : List (List Int)) (a1 : Int) (r : List Int) (w : World) (hg0 : w.heap[gb0]? = some (.cells #[.int .i64 a0_0, .int .i64 a0_1, .slice A0_2 l0_2.length c0_2, .int .i64 a0_3, .int .i64 a0_4, .slice A0_5 l0_5.length c0_5, .slice A0_6 l0_6.length c0_6] 53 (0, 0))) (hr0_2 : Kd.C (Kd.int .i64) w A0_2 l0_2.length l0_2) (hc0_2 : l0_2.length ≤ c0_2) (hr0_5 : Kd.C (Kd.int .i64) w A0_5 l0_5.length l0_5) (hc0_5 : l0_5.length ≤ c0_5) (hr0_6 : Kd.C (Kd.slice 3 (Kd.int .i64)) w A0_6 l0_6.length l0_6) (hc0_6 : l0_6.length ≤ c0_6) (h : impl_graph_far.f k a0_0 a0_1 l0_2 a0_3 a0_4 l0_5 l0_6 a1 = some r) :
  Calls Try.prog 35 #[.pointer (some ⟨gb0, 0, none⟩), .int .i64 a1] w fun e w' => ∃ v0_ : Value, e = .returned (v0_) ∧ Kd.R (Kd.int .i64) 3 w' w.heap.size (fun _ => True) v0_ r ∧ Below w.heap.size w w' := by
 have HR0_2 := Aside0.mk hr0_2
 have HC0_2 := Aside0.mk hc0_2
 clear hr0_2 hc0_2
 have HR0_5 := Aside0.mk hr0_5
 have HC0_5 := Aside0.mk hc0_5
 clear hr0_5 hc0_5
 have HR0_6 := Aside0.mk hr0_6
 have HC0_6 := Aside0.mk hc0_6
 clear hr0_6 hc0_6
 have BK0 := Aside0.mk hg0
 clear hg0
 have HB := Aside0.mk (Below.refl w.heap.size w)
 have H : (if 0 ≤ (wrap64 (a0_0 * a0_1)) then (if (wrap64 (a0_0 * a0_1) : Int).toNat ≤ 35184372088832 then ((some (List.replicate (wrap64 (a0_0 * a0_1) : Int).toNat 0 : List Int)).bind fun y262 => (impl_graph_far.l0 k a1 y262 (y262.length : Int) 0 a0_0 a0_1 l0_2 a0_3 a0_4 l0_5 l0_6)) else (none)) else (none)) = some r := h
 clear h
 obtain ⟨ji3, hji3⟩ : ∃ j_ : Int, (wrap64 (a0_0 * a0_1)) = j_ := ⟨_, rfl⟩
 replace H : (if 0 ≤ (ji3) then (if (ji3 : Int).toNat ≤ 35184372088832 then ((some (List.replicate (ji3 : Int).toNat 0 : List Int)).bind fun y262 => (impl_graph_far.l0 k a1 y262 (y262.length : Int) 0 a0_0 a0_1 l0_2 a0_3 a0_4 l0_5 l0_6)) else (none)) else (none)) = some r := by first | (rw [hji3] at H; exact H) | (simp only [hji3] at H ⊢; exact H)
 have hji3w : (IntKind.i64.wrap (a0_0 * a0_1)) = ji3 := (i64_w _).trans hji3
 by_cases c4 : 0 ≤ (ji3)
 rotate_left
 ·rw [if_neg c4] at H
  exact absurd H (by simp)
 rw [if_pos c4] at H
 have c4b0 := eq_true c4
 have c4b1 : decide (0 ≤ (ji3)) = true := decide_eq_true c4
 clear c4
 by_cases c5 : (ji3 : Int).toNat ≤ 35184372088832
 rotate_left
 ·rw [if_neg c5] at H
  exact absurd H (by simp)
 rw [if_pos c5] at H
 have c5b0 := eq_true c5
 have c5b1 : decide ((ji3 : Int).toNat ≤ 35184372088832) = true := decide_eq_true c5
 clear c5
 obtain ⟨y262, hy262⟩ : ∃ y_ : List Int, y_ = (List.replicate (ji3 : Int).toNat 0) := ⟨_, rfl⟩
 replace H : (impl_graph_far.l0 k a1 y262 (y262.length : Int) 0 a0_0 a0_1 l0_2 a0_3 a0_4 l0_5 l0_6) = some r := by first | (rw [hy262]; with_reducible exact H) | (have H2_ := (Option.bind_some _ _).symm.trans H; rw [hy262]; with_reducible exact H2_) | (have H2_ := (Option.bind_some _ _).symm.trans H; with_reducible exact H2_) | with_reducible exact H | (rw [hy262]; exact H) | exact H
 have Ny262 := Aside0.mk hy262
 clear hy262
 have H' := Aside0.mk H
 clear H
 go_enter Try.func35, Try.ntmps35
 try go_wp2
 have n0_ := Aside0.mk (blk_drew BK0.out)
 have n1_ := Aside0.mk (below_drew1 HB.out)
 clear BK0
 clear HB
 have BK0 := n0_
 have HB := n1_
 clear n0_ n1_
 refine start_ (n := 13) (S := fun w' => w'.cell? ⟨gb0, 0, none⟩ = some (.int .i64 a0_0) ∧ w'.cell? ⟨gb0, 1, none⟩ = some (.int .i64 a0_1) ∧ w'.cell? ⟨gb0, 2, none⟩ = some (.slice A0_2 l0_2.length c0_2) ∧ w'.cell? ⟨gb0, 3, none⟩ = some (.int .i64 a0_3) ∧ w'.cell? ⟨gb0, 4, none⟩ = some (.int .i64 a0_4) ∧ w'.cell? ⟨gb0, 5, none⟩ = some (.slice A0_5 l0_5.length c0_5) ∧ w'.cell? ⟨gb0, 6, none⟩ = some (.slice A0_6 l0_6.length c0_6)) (ds := []) #[false, false, false, false, false, false, false, false, false, false, false, false, false] (by kernel_rfl) rfl rfl ⟨(blk_cell BK0.out 0).trans rfl, (blk_cell BK0.out 1).trans rfl, (blk_cell BK0.out 2).trans rfl, (blk_cell BK0.out 3).trans rfl, (blk_cell BK0.out 4).trans rfl, (blk_cell BK0.out 5).trans rfl, (blk_cell BK0.out 6).trans rfl⟩ (fun hHeld => ?_); refine with_tabW impl_graph_far.tab1 impl_graph_far.bits1 (fun HT_ HW_ => ?_)
 generalize w.drew = w6 at BK0 HB hHeld ⊢
 refine pure_ (i := 0) (N := some 10) (v := ?_) (a' := ?_) #[true, false, false, false, false, false, false, false, false, false, false, false, false] rfl rfl (any_of HT_.out (by kernel_rfl)) (fun _ _ _ h => h) (Or.inl ⟨by rfl, ?_⟩) ?_ ?_
 rotate_left
 ·intro w'
  go_simp
  with_reducible rfl
 rotate_left
 ·simp only [Act.put, List.setIfInBounds_toArray, List.set_cons_zero, List.set_cons_succ, i64_w, i32_w]
  rfl
 refine pure_ (i := 1) (N := some 11) (v := ?_) (a' := ?_) #[true, true, false, false, false, false, false, false, false, false, false, false, false] rfl rfl (any_of HT_.out (by kernel_rfl)) (fun _ _ _ h => h) (Or.inl ⟨by rfl, ?_⟩) ?_ ?_
 rotate_left
 ·intro w'
  go_simp
  with_reducible rfl
 rotate_left
 ·simp only [Act.put, List.setIfInBounds_toArray, List.set_cons_zero, List.set_cons_succ, i64_w, i32_w]
  rfl
 refine pure_ (i := 2) (N := some 12) (v := ?_) (a' := ?_) #[true, true, true, false, false, false, false, false, false, false, false, false, false] rfl rfl (any_of HT_.out (by kernel_rfl)) (fun _ _ _ h => h) (Or.inl ⟨by rfl, ?_⟩) ?_ ?_
 rotate_left
 ·intro w'
  go_simp
  with_reducible rfl
 rotate_left
 ·simp only [Act.put, List.setIfInBounds_toArray, List.set_cons_zero, List.set_cons_succ, i64_w, i32_w]
  rfl
 refine pure_ (i := 3) (N := some 13) (v := ?_) (a' := ?_) #[true, true, true, true, false, false, false, false, false, false, false, false, false] rfl rfl (any_of HT_.out (by kernel_rfl)) (fun _ _ _ h => h) (Or.inl ⟨by rfl, ?_⟩) ?_ ?_
 rotate_left
 ·intro w'
  go_simp
  with_reducible rfl
 rotate_left
 ·simp only [Act.put, List.setIfInBounds_toArray, List.set_cons_zero, List.set_cons_succ, i64_w, i32_w]
  rfl
 refine pure_ (i := 5) (N := some 15) (v := ?_) (a' := ?_) #[true, true, true, true, false, true, false, false, false, false, false, false, false] rfl rfl (any_of HT_.out (by kernel_rfl)) (fun _ _ _ h => h) (Or.inl ⟨by rfl, ?_⟩) ?_ ?_
 rotate_left
 ·intro w'
  go_simp
  with_reducible rfl
 rotate_left
 ·simp only [Act.put, List.setIfInBounds_toArray, List.set_cons_zero, List.set_cons_succ, i64_w, i32_w]
  rfl
 refine pure_ (i := 6) (N := some 16) (v := ?_) (a' := ?_) #[true, true, true, true, false, true, true, false, false, false, false, false, false] rfl rfl (any_of HT_.out (by kernel_rfl)) (fun _ _ _ h => h) (Or.inl ⟨by rfl, ?_⟩) ?_ ?_
 rotate_left
 ·intro w'
  go_simp
  with_reducible rfl
 rotate_left
 ·simp only [Act.put, List.setIfInBounds_toArray, List.set_cons_zero, List.set_cons_succ, i64_w, i32_w]
  rfl
 refine pure_ (i := 7) (N := some 17) (v := ?_) (a' := ?_) #[true, true, true, true, false, true, true, true, false, false, false, false, false] rfl rfl (any_of HT_.out (by kernel_rfl)) (fun _ _ _ h => h) (Or.inl ⟨by rfl, ?_⟩) ?_ ?_
 rotate_left
 ·intro w'
  go_simp
  with_reducible rfl
 rotate_left
 ·simp only [Act.put, List.setIfInBounds_toArray, List.set_cons_zero, List.set_cons_succ, i64_w, i32_w]
  rfl
 refine pure_ (i := 8) (N := some 18) (v := ?_) (a' := ?_) #[true, true, true, true, false, true, true, true, true, false, false, false, false] rfl rfl (any_of HT_.out (by kernel_rfl)) (fun _ _ _ h => h) (Or.inl ⟨by rfl, ?_⟩) ?_ ?_
 rotate_left
 ·intro w'
  go_simp
  with_reducible rfl
 rotate_left
 ·simp only [Act.put, List.setIfInBounds_toArray, List.set_cons_zero, List.set_cons_succ, i64_w, i32_w]
  rfl
 refine take_ (i := 4) (N := some 14) (v := ?_) (a' := ?_) #[true, true, true, true, true, true, true, true, true, false, false, false, false] rfl rfl (take_ofW HT_.out HW_.out (by kernel_rfl)) (fun _ _ _ h => h) (Or.inl ⟨by rfl, ?_⟩) hHeld ?_ ?_
 rotate_left
 ·rintro w' ⟨s0, s1, s2, s3, s4, s5, s6⟩
  go_simp
  with_reducible rfl
 rotate_left
 ·simp only [Act.put, List.setIfInBounds_toArray, List.set_cons_zero, List.set_cons_succ, i64_w, i32_w]
  rfl
 refine take_ (i := 9) (N := some 19) (v := ?_) (a' := ?_) #[true, true, true, true, true, true, true, true, true, true, false, false, false] rfl rfl (take_ofW HT_.out HW_.out (by kernel_rfl)) (fun _ _ _ h => h) (Or.inl ⟨by rfl, ?_⟩) hHeld ?_ ?_
 rotate_left
 ·rintro w' ⟨s0, s1, s2, s3, s4, s5, s6⟩
  go_simp
  with_reducible rfl
 rotate_left
 ·simp only [Act.put, List.setIfInBounds_toArray, List.set_cons_zero, List.set_cons_succ, i64_w, i32_w]
  rfl
 refine pure_ (i := 10) (N := some 20) (v := ?_) (a' := ?_) #[true, true, true, true, true, true, true, true, true, true, true, false, false] rfl rfl (any_of HT_.out (by kernel_rfl)) (fun _ _ _ h => h) (Or.inl ⟨by rfl, ?_⟩) ?_ ?_
 rotate_left
 ·intro w'
  go_simp
  with_reducible rfl
 rotate_left
 ·simp only [Act.put, List.setIfInBounds_toArray, List.set_cons_zero, List.set_cons_succ, i64_w, i32_w]
  rfl
 refine one_ (i := 11) (N := some 21) #[true, true, true, true, true, true, true, true, true, true, true, true, false] rfl rfl (one_of HT_.out (by kernel_rfl)) (by decide) (fun K hK => ?_)
 refine Kd.R_make_step (Kd.int .i64) _ 3 (by rfl) (N := 21) rfl 22 _ _ rfl ji3 rfl rfl Try.underlying22 (.int .i64 0) 8 info3 rfl (by decide) (by omega) 0 (ok := fun _ => True) (okp := fun _ => True) rfl (fun _ hk => hk) trivial (of_decide_eq_true zh2) (Nat.le_trans (Nat.mul_le_mul_right _ (of_decide_eq_true zh2 : ji3.toNat ≤ 35184372088832)) (by omega)) (Below.refl _ _) (Nat.le_refl _) ?_
 intro v263 w7 ho8 hb hg_ hnew_
 clear hg_ hnew_
 (first | rw [← Ny262.out] at ho8 | (simp only [Int.reduceToNat] at ho8; rw [← Ny262.out] at ho8))
 have n0_ := Aside0.mk (Kd.R_lower ho8 (below_size zh1))
 have n1_ := Aside0.mk (blk_below (g := gb0) (o := .cells #[.int .i64 a0_0, .int .i64 a0_1, .slice A0_2 l0_2.length c0_2, .int .i64 a0_3, .int .i64 a0_4, .slice A0_5 l0_5.length c0_5, .slice A0_6 l0_6.length c0_6] 53 (0, 0)) zh3 hb)
 have n2_ := Aside0.mk (below_step zh1 hb)
 clear BK0
 clear HB
 have HO264 := n0_
 have BK0 := n1_
 have HB := n2_
 clear n0_ n1_ n2_
 clear hb ho8
 refine hK.out _ _ ⟨(blk_cell BK0.out 0).trans rfl, (blk_cell BK0.out 1).trans rfl, (blk_cell BK0.out 2).trans rfl, (blk_cell BK0.out 3).trans rfl, (blk_cell BK0.out 4).trans rfl, (blk_cell BK0.out 5).trans rfl, (blk_cell BK0.out 6).trans rfl⟩ (fun hHeld => ?_)
 clear hK K
 refine norm_ (a' := ?_) ?_ ?_
 rotate_left
 ·show Act.put _ (some 21) _ = _
  simp only [Act.put, List.setIfInBounds_toArray, List.set_cons_zero, List.set_cons_succ, i64_w, i32_w]
  rfl
 refine pure_ (i := 12) (N := some 5) (v := ?_) (a' := ?_) #[true, true, true, true, true, true, true, true, true, true, true, true, true] rfl rfl (any_of HT_.out (by kernel_rfl)) (fun _ _ _ h => h) (Or.inl ⟨by rfl, ?_⟩) ?_ ?_
 rotate_left
 ·intro w'
  go_simp
  with_reducible rfl
 rotate_left
 ·simp only [Act.put, List.setIfInBounds_toArray, List.set_cons_zero, List.set_cons_succ, i64_w, i32_w]
  rfl
 refine done_ (done_of HT_.out (by kernel_rfl)) ?_
 obtain ⟨Ao9, co9, eo9⟩ := Kd.R_slice HO264.out
 subst eo9
 try go_wp2
 go_loopg [24] k (fun kq v24 w' => ∃ (x5_1 : List Int) (x24_1 : Int), v24 = .int .i64 x24_1 ∧ Aside0 (impl_graph_far.l0 kq a1 x5_1 (y262.length : Int) x24_1 a0_0 a0_1 l0_2 a0_3 a0_4 l0_5 l0_6 = some r) ∧ Aside0 (kq ≤ k) ∧ Aside0 (Kd.R (Kd.int .i64) 3 w' w.heap.size (fun _ => True) (.slice Ao9 y262.length co9) x5_1) ∧ Aside0 (w'.heap[gb0]? = some (.cells #[.int .i64 a0_0, .int .i64 a0_1, (.slice A0_2 l0_2.length c0_2), .int .i64 a0_3, .int .i64 a0_4, (.slice A0_5 l0_5.length c0_5), (.slice A0_6 l0_6.length c0_6)] 53 (0, 0))) ∧ Aside0 (Below w.heap.size w w'))
 case atStart => exact ⟨(y262), (0), zh7, H', ⟨Nat.le_refl _⟩, ⟨by first | exact HO264.out | ((with_reducible repeat (first | apply Kd.R_alloc | apply Kd.R_drewN | apply Kd.R_drew)); exact HO264.out)⟩, ⟨zh3⟩, ⟨zh1⟩⟩
 case round =>
  clear H'
  try clear p2; try clear c3; try clear c4; try clear c4b0; try clear c4b1; try clear c5; try clear c5b0; try clear c5b1; try clear p6
  obtain ⟨x5_1, x24_1, rfl, HA, HK1, HO_5, BK0, HB⟩ := hrel
  have hl5_1 := (Kd.R_reads' HO_5.out).1
  rw [hl5_1] at HO_5
  (try simp only [hl5_1])
  (try simp only [hl5_1] at BK0)
  cases gk with
  | zero => exact absurd HA.out (by simp [impl_graph_far.l0])
  | succ k1 =>
   have H := HA.out
   clear HA
   simp only [impl_graph_far.l0] at H
   by_cases c10 : x24_1 < (y262.length : Int)
   ·rw [if_pos c10] at H
    have c10b0 : decide (x24_1 < (y262.length : Int)) = true := decide_eq_true c10
    have c10b8 := c10b0
    (try simp only [hl5_1] at c10b8)
    clear c10
    by_cases c11 : 0 ≤ x24_1
    rotate_left
    ·rw [if_neg c11] at H
     exact absurd H (by simp)
    rw [if_pos c11] at H
    have c11b0 : decide (0 ≤ x24_1) = true := decide_eq_true c11
    clear c11
    by_cases c12 : x24_1 < (x5_1.length : Int)
    rotate_left
    ·rw [if_neg c12] at H
     exact absurd H (by simp)
    rw [if_pos c12] at H
    have c12b0 : decide (x24_1 < (x5_1.length : Int)) = true := decide_eq_true c12
    have c12b8 := c12b0
    (try simp only [hl5_1] at c12b8)
    clear c12
    obtain ⟨y265, hy265⟩ : ∃ y_ : List Int, y_ = (x5_1.set (x24_1 : Int).toNat (-1)) := ⟨_, rfl⟩
    replace H : (impl_graph_far.l0 k1 a1 y265 (y262.length : Int) (wrap64 (x24_1 + 1)) a0_0 a0_1 l0_2 a0_3 a0_4 l0_5 l0_6) = some r := by first | (rw [hy265]; with_reducible exact H) | (have H2_ := (Option.bind_some _ _).symm.trans H; rw [hy265]; with_reducible exact H2_) | (have H2_ := (Option.bind_some _ _).symm.trans H; with_reducible exact H2_) | with_reducible exact H | (rw [hy265]; exact H) | exact H
    have Ny265 := Aside0.mk hy265
    clear hy265
    have H' := Aside0.mk H
    clear H
    have p13 : 0 ≤ (x24_1 : Int) := of_decide_eq_true zh2
    have q13 : (x24_1 : Int) < ((x5_1.length : Int) : Int) := of_decide_eq_true zh2
    obtain ⟨go13, co13, eo13, gb13, gl13, cl13, HG13⟩ := Kd.R_form HO_5.out (by omega)
    (first | cases eo13 | (injection eo13 with ea_ en_ ec_; (first | subst ea_ | (injection ea_ with ea_; subst ea_)); subst ec_; clear en_))
    have GB13 := Aside0.mk gb13
    have GG13 := Aside0.mk HG13
    clear gb13 gl13 HG13
    obtain ⟨hx13_0, hf13_0⟩ := Kd.R_celln 0 HO_5.out (x24_1 : Int) p13 q13
    replace p13 := eq_true p13
    replace q13 := eq_true q13
    have HP14 := Kd.R_putg HO_5.out (x24_1 : Int) (-1)
    go_wp2_with (first | ((with_reducible refine gate_store (t := 3) (p := 29) rfl ?_); refine store_event (t := 3) (p := 29) (v := ?vo_w15) (w1 := (wr.setCell ⟨go13, (x24_1 : Int).toNat, none⟩ (.int .i64 (-1)))) ?hg ?ho ?hn ?hr ?_; (case ho => rfl); (case hg => rfl); (case hn => rfl); (case hr => first | (go_simp; done) | (go_simp; rfl)); intro w15 hw; have hg : wr.grownBy w15 (some go13) := (by rw [hw]; exact HP14.2); have hp_ : Kd.R (Kd.int .i64) 3 w15 w.heap.size (fun _ => True) (.slice (some ⟨go13, 0, none⟩) x5_1.length co9) y265 := (by rw [hw, Ny265.out]; exact HP14.1); clear HP14; have n0_ := Aside0.mk (hp_); have n1_ := Aside0.mk (blk_grown (g := gb0) (o := .cells #[.int .i64 a0_0, .int .i64 a0_1, .slice A0_2 l0_2.length c0_2, .int .i64 a0_3, .int .i64 a0_4, .slice A0_5 l0_5.length c0_5, .slice A0_6 l0_6.length c0_6] 53 (0, 0)) zh3 hg (Kd.R_ne HO_5.out BK0.out (by decide))); have n2_ := Aside0.mk ((by rw [hw]; exact below_set (HB.out) GB13.out : Below w.heap.size w w15)); clear HO_5; clear BK0; clear HB; have HO_5 := n0_; have BK0 := n1_; have HB := n2_; clear n0_ n1_ n2_; clear hg hw hp_))
    (try simp only [← hl5_1])
    go_roundg k1
    case measure => have := HK1.out; omega
    case rel => exact ⟨(y265), (wrap64 (x24_1 + 1)), zh7, H', ⟨by have := HK1.out; omega⟩, ⟨by (try simp only [hl5_1]); first | exact HO_5.out | ((with_reducible repeat (first | apply Kd.R_alloc | apply Kd.R_drewN | apply Kd.R_drew)); exact HO_5.out)⟩, ⟨zh8⟩, ⟨zh1⟩⟩
   rw [if_neg c10] at H
   have c10b0 : decide (x24_1 < (y262.length : Int)) = false := decide_eq_false c10
   have c10b8 := c10b0
   (try simp only [hl5_1] at c10b8)
   clear c10
   by_cases c16 : 0 ≤ a1
   rotate_left
   ·rw [if_neg c16] at H
    exact absurd H (by simp)
   rw [if_pos c16] at H
   have c16b0 : decide (0 ≤ a1) = true := decide_eq_true c16
   clear c16
   by_cases c17 : a1 < (x5_1.length : Int)
   rotate_left
   ·rw [if_neg c17] at H
    exact absurd H (by simp)
   rw [if_pos c17] at H
   have c17b0 : decide (a1 < (x5_1.length : Int)) = true := decide_eq_true c17
   have c17b8 := c17b0
   (try simp only [hl5_1] at c17b8)
   clear c17
   obtain ⟨y266, hy266⟩ : ∃ y_ : List Int, y_ = (x5_1.set (a1 : Int).toNat 0) := ⟨_, rfl⟩
   replace H : (impl_graph_far.l1 k1 y266 (([a1] : List Int)) a0_0 a0_1 l0_2 a0_3 a0_4 l0_5 l0_6) = some r := by first | (rw [hy266]; with_reducible exact H) | (have H2_ := (Option.bind_some _ _).symm.trans H; rw [hy266]; with_reducible exact H2_) | (have H2_ := (Option.bind_some _ _).symm.trans H; with_reducible exact H2_) | with_reducible exact H | (rw [hy266]; exact H) | exact H
   have Ny266 := Aside0.mk hy266
   clear hy266
   obtain ⟨y267, hy267⟩ : ∃ y_ : List Int, y_ = (([a1] : List Int)) := ⟨_, rfl⟩
   replace H : (impl_graph_far.l1 k1 y266 y267 a0_0 a0_1 l0_2 a0_3 a0_4 l0_5 l0_6) = some r := by first | (rw [hy267]; with_reducible exact H) | (have H2_ := (Option.bind_some _ _).symm.trans H; rw [hy267]; with_reducible exact H2_) | (have H2_ := (Option.bind_some _ _).symm.trans H; with_reducible exact H2_) | with_reducible exact H | (rw [hy267]; exact H) | exact H
   have Ny267 := Aside0.mk hy267
   clear hy267
   have H' := Aside0.mk H
   clear H
   have p18 : 0 ≤ (a1 : Int) := of_decide_eq_true zh2
   have q18 : (a1 : Int) < ((x5_1.length : Int) : Int) := of_decide_eq_true zh2
   obtain ⟨go18, co18, eo18, gb18, gl18, cl18, HG18⟩ := Kd.R_form HO_5.out (by omega)
   (first | cases eo18 | (injection eo18 with ea_ en_ ec_; (first | subst ea_ | (injection ea_ with ea_; subst ea_)); subst ec_; clear en_))
   have GB18 := Aside0.mk gb18
   have GG18 := Aside0.mk HG18
   clear gb18 gl18 HG18
   obtain ⟨hx18_0, hf18_0⟩ := Kd.R_celln 0 HO_5.out (a1 : Int) p18 q18
   replace p18 := eq_true p18
   replace q18 := eq_true q18
   have HP19 := Kd.R_putg HO_5.out (a1 : Int) 0
   go_wp2_with (first | ((with_reducible refine gate_store (t := 3) (p := 33) rfl ?_); refine store_event (t := 3) (p := 33) (v := ?vo_w20) (w1 := (wr.setCell ⟨go18, (a1 : Int).toNat, none⟩ (.int .i64 0))) ?hg ?ho ?hn ?hr ?_; (case ho => rfl); (case hg => rfl); (case hn => rfl); (case hr => first | (go_simp; done) | (go_simp; rfl)); intro w20 hw; have hg : wr.grownBy w20 (some go18) := (by rw [hw]; exact HP19.2); have hp_ : Kd.R (Kd.int .i64) 3 w20 w.heap.size (fun _ => True) (.slice (some ⟨go18, 0, none⟩) x5_1.length co9) y266 := (by rw [hw, Ny266.out]; exact HP19.1); clear HP19; have n0_ := Aside0.mk (hp_); have n1_ := Aside0.mk (blk_grown (g := gb0) (o := .cells #[.int .i64 a0_0, .int .i64 a0_1, .slice A0_2 l0_2.length c0_2, .int .i64 a0_3, .int .i64 a0_4, .slice A0_5 l0_5.length c0_5, .slice A0_6 l0_6.length c0_6] 53 (0, 0)) zh3 hg (Kd.R_ne HO_5.out BK0.out (by decide))); have n2_ := Aside0.mk ((by rw [hw]; exact below_set (HB.out) GB18.out : Below w.heap.size w w20)); clear HO_5; clear BK0; clear HB; have HO_5 := n0_; have BK0 := n1_; have HB := n2_; clear n0_ n1_ n2_; clear hg hw hp_) | ((with_reducible refine gate_dst (N := 35) rfl ?_); refine Kd.R_lit (Kd.int .i64) _ 3 ?hg (N := 35) ?hd (xs := ([a1] : List Int)) (inner := [.int .i64 a1]) (ok := fun _ => True) (okp := fun _ => True) ?hr ?hp (fun _ hk => hk) trivial (Below.refl _ _) (Nat.le_refl _) (by simp) ?_; (case hd => rfl); (case hg => rfl); (case hr => first | (go_simp; done) | (go_simp; rfl)); (case hp => exact (Reps.one (show Kd.M (Kd.int .i64) _ _ _ a1 [.int .i64 a1] from rfl) (Reps.none _ _))); intro v268 w21 ho22 hb hg_ hnew_; clear hg_ hnew_; (first | rw [← Ny267.out] at ho22 | (simp only [Int.reduceToNat] at ho22; rw [← Ny267.out] at ho22)); have n0_ := Aside0.mk (Kd.R_elder' zh5 (Kd.R_base ho22) hb); have n1_ := Aside0.mk (Kd.R_lower (Kd.R_new' ho22 (Kd.R_lt zh5)) (below_size zh1)); have n2_ := Aside0.mk (blk_below (g := gb0) (o := .cells #[.int .i64 a0_0, .int .i64 a0_1, .slice A0_2 l0_2.length c0_2, .int .i64 a0_3, .int .i64 a0_4, .slice A0_5 l0_5.length c0_5, .slice A0_6 l0_6.length c0_6] 53 (0, 0)) zh3 hb); have n3_ := Aside0.mk (below_step zh1 hb); clear HO_5; clear BK0; clear HB; have HO_5 := n0_; have HO269 := n1_; have BK0 := n2_; have HB := n3_; clear n0_ n1_ n2_ n3_; clear hb ho22))
   go_loopg [7] k1 (fun kq v7 w' => ∃ (x5_2 : List Int) (x7_2 : List Int), Aside0 (impl_graph_far.l1 kq x5_2 x7_2 a0_0 a0_1 l0_2 a0_3 a0_4 l0_5 l0_6 = some r) ∧ Aside0 (kq ≤ k1) ∧ Aside0 (Kd.R (Kd.int .i64) 3 w' w.heap.size (fun k_ => some k_ ≠ (v7 : Value).ownBlock) (.slice (some ⟨go18, 0, none⟩) x5_1.length co9) x5_2) ∧ Aside0 (Kd.Q (Kd.int .i64) 3 w' w.heap.size (fun k_ => some k_ ≠ ((.slice (some ⟨go18, 0, none⟩) x5_1.length co9) : Value).ownBlock) v7 x7_2) ∧ Aside0 (w'.heap[gb0]? = some (.cells #[.int .i64 a0_0, .int .i64 a0_1, (.slice A0_2 l0_2.length c0_2), .int .i64 a0_3, .int .i64 a0_4, (.slice A0_5 l0_5.length c0_5), (.slice A0_6 l0_6.length c0_6)] 53 (0, 0))) ∧ Aside0 (Below w.heap.size w w'))
   case atStart => exact ⟨(y266), (y267), H', ⟨Nat.le_refl _⟩, ⟨by (try simp only [hl5_1]); (with_reducible repeat (first | apply Kd.R_alloc | apply Kd.R_drewN | apply Kd.R_drew)); exact Kd.R_mono HO_5.out (fun _ hk => hk.2)⟩, ⟨Kd.Q_of_R (by (try simp only [hl5_1]); (with_reducible repeat (first | apply Kd.R_alloc | apply Kd.R_drewN | apply Kd.R_drew)); exact Kd.R_mono HO269.out (fun _ hk => hk.2))⟩, ⟨zh8⟩, ⟨zh1⟩⟩
   case round =>
    clear H'
    try clear c1; try clear p1; try clear q1; try clear hx1; try clear p2; try clear c3; try clear c4; try clear c4b0; try clear c4b1; try clear c5; try clear c5b0; try clear c5b1; try clear p6; try clear c10; try clear c10b0; try clear c10b8; try clear c11; try clear c11b0; try clear c12; try clear c12b0; try clear c12b8; try clear p13; try clear q13; try clear hx13; try clear hf13; try clear c16; try clear c16b0; try clear c17; try clear c17b0; try clear c17b8; try clear p18; try clear q18; try clear hx18; try clear hf18; try clear hx13_0; try clear hx18_0; try clear p13; try clear p18; try clear p2
    try clear p6; try clear q13; try clear q18
    obtain ⟨x5_2, x7_2, HA, HK2, HO_5, HO_7, BK0, HB⟩ := hrel
    have hl5_2 := (Kd.R_reads' HO_5.out).1
    rw [hl5_2] at HO_5
    (try simp only [hl5_2])
    (try simp only [hl5_2] at BK0)
    (try simp only [hl5_2] at HO_7)
    cases gk with
    | zero => exact absurd HA.out (by simp [impl_graph_far.l1])
    | succ k2 =>
     have H := HA.out
     clear HA
     simp only [impl_graph_far.l1] at H
     by_cases c23 : (x7_2.length : Int) > 0
     rotate_left
     ·rw [if_neg c23] at H
      have c23b0 : decide (0 < (x7_2.length : Int)) = false := decide_eq_false c23
      have c23b8 := c23b0
      (try simp only [hl5_1, hl5_2] at c23b8)
      have c23b1 : decide (0 < x7_2.length) = false := decide_eq_false (by omega)
      have c23b9 := c23b1
      (try simp only [hl5_1, hl5_2] at c23b9)
      clear c23
      obtain rfl := Option.some.inj H
      obtain ⟨Ao47, co47, eo47, _⟩ := Kd.Q_slice HO_7.out
      subst eo47
      go_wp2
      go_ret
      exact ⟨_, by first | rfl | (simp [errW_none, errW_some] <;> rfl) | (simp only [← hji3]; first | rfl | (simp [errW_none, errW_some] <;> rfl)) | (simp [*, errW_none, errW_some] <;> rfl), by (with_reducible repeat (first | apply Kd.R_alloc | apply Kd.R_drewN | apply Kd.R_drew)); exact Kd.R_mono HO_5.out (fun _ hk => trivial), zh1⟩
     rw [if_pos c23] at H
     have c23b0 : decide (0 < (x7_2.length : Int)) = true := decide_eq_true c23
     have c23b8 := c23b0
     (try simp only [hl5_1, hl5_2] at c23b8)
     have c23b1 : decide (0 < x7_2.length) = true := decide_eq_true (by omega)
     have c23b9 := c23b1
     (try simp only [hl5_1, hl5_2] at c23b9)
     clear c23
     by_cases c24 : 0 < (x7_2.length : Int)
     rotate_left
     ·rw [if_neg c24] at H
      exact absurd H (by simp)
     rw [if_pos c24] at H
     have c24b0 : decide (0 < (x7_2.length : Int)) = true := decide_eq_true c24
     have c24b8 := c24b0
     (try simp only [hl5_1, hl5_2] at c24b8)
     have c24b1 : decide (0 < x7_2.length) = true := decide_eq_true (by omega)
     have c24b9 := c24b1
     (try simp only [hl5_1, hl5_2] at c24b9)
     clear c24
     by_cases c25 : 0 ≤ (rd x7_2 0)
     rotate_left
     ·rw [if_neg c25] at H
      exact absurd H (by simp)
     rw [if_pos c25] at H
     have c25b0 : decide (0 ≤ (rd x7_2 0)) = true := decide_eq_true c25
     clear c25
     by_cases c26 : (rd x7_2 0) < (l0_6.length : Int)
     rotate_left
     ·rw [if_neg c26] at H
      exact absurd H (by simp)
     rw [if_pos c26] at H
     have c26b0 : decide ((rd x7_2 0) < (l0_6.length : Int)) = true := decide_eq_true c26
     have c26b8 := c26b0
     (try simp only [hl5_1, hl5_2] at c26b8)
     clear c26
     have H' := Aside0.mk H
     clear H
     obtain ⟨Ao27, co27, eo27, _⟩ := Kd.Q_slice HO_7.out
     subst eo27
     try go_wp2
     have n0_ := Aside0.mk (Kd.R_drew HO_5.out)
     have n1_ := Aside0.mk (Kd.Q_drew HO_7.out)
     have n2_ := Aside0.mk (blk_drew BK0.out)
     have n3_ := Aside0.mk (below_drew1 HB.out)
     clear HO_5
     clear HO_7
     clear BK0
     clear HB
     have HO_5 := n0_
     have HO_7 := n1_
     have BK0 := n2_
     have HB := n3_
     clear n0_ n1_ n2_ n3_
     have p270 : 0 ≤ (0 : Int) := (by omega)
     have q270 : 0 < (x7_2.length : Int) := of_decide_eq_true zh2
     obtain ⟨ad270, e270, hx270_0⟩ := Kd.at_int (Kd.Q_reads' HO_7.out).2.2 0 p270 q270
     cases e270
     have qi270 : (0 < x7_2.length) = True := eq_true (by omega)
     (try rw [show ((0 : Int)).toNat = 0 from rfl] at hx270_0)
     (try rw [Addr.add_zero'] at hx270_0)
     replace p270 := eq_true p270
     replace q270 := eq_true q270
     have p271 : 0 ≤ ((rd x7_2 0) : Int) := of_decide_eq_true zh2
     have q271 : (rd x7_2 0) < (l0_6.length : Int) := of_decide_eq_true zh2
     obtain ⟨ad271, A271_0, c271_0, e271, hx271_0, hl271_0, hi271_0⟩ := at_L1 HR0_6.out (rd x7_2 0) p271 q271
     have hw271_0 := hx271_0
     cases e271
     (first | replace hx271_0 := (HB.out.cell (World.block_lt_of_cell? w _ hx271_0)).trans hx271_0 | skip)
     have HR271_0 := Aside0.mk hi271_0
     have HC271_0 := Aside0.mk hl271_0
     clear hi271_0 hl271_0
     replace p271 := eq_true p271
     replace q271 := eq_true q271
     refine start_ (n := 11) (S := fun w' => w'.cell? ⟨gb0, 0, none⟩ = some (.int .i64 a0_0) ∧ w'.cell? ⟨gb0, 1, none⟩ = some (.int .i64 a0_1) ∧ w'.cell? ⟨gb0, 2, none⟩ = some (.slice A0_2 l0_2.length c0_2) ∧ w'.cell? ⟨gb0, 3, none⟩ = some (.int .i64 a0_3) ∧ w'.cell? ⟨gb0, 4, none⟩ = some (.int .i64 a0_4) ∧ w'.cell? ⟨gb0, 5, none⟩ = some (.slice A0_5 l0_5.length c0_5) ∧ w'.cell? ⟨gb0, 6, none⟩ = some (.slice (some ad271) l0_6.length c0_6) ∧ w'.cell? ad270 = some (.int .i64 (rd x7_2 0)) ∧ w'.cell? (ad271.add ((rd x7_2 0)).toNat) = some (.slice A271_0 (rd_L1 l0_6 (rd x7_2 0)).length c271_0)) (ds := []) #[false, false, false, false, false, false, false, false, false, false, false] (by kernel_rfl) rfl rfl ⟨(blk_cell BK0.out 0).trans rfl, (blk_cell BK0.out 1).trans rfl, (blk_cell BK0.out 2).trans rfl, (blk_cell BK0.out 3).trans rfl, (blk_cell BK0.out 4).trans rfl, (blk_cell BK0.out 5).trans rfl, (blk_cell BK0.out 6).trans rfl, hx270_0, ((HB.out.cell (World.block_lt_of_cell? w _ hw271_0)).trans hw271_0)⟩ (fun hHeld => ?_); refine with_tabW impl_graph_far.tab11 impl_graph_far.bits11 (fun HT_ HW_ => ?_)
     generalize wr.drew = w28 at HO_5 HO_7 BK0 HB HR271_0 hx270_0 hx271_0 hHeld ⊢
     refine pure_ (i := 0) (N := some 41) (v := ?_) (a' := ?_) #[true, false, false, false, false, false, false, false, false, false, false] rfl rfl (any_of HT_.out (by kernel_rfl)) (fun _ _ _ h => h) (Or.inl ⟨by rfl, ?_⟩) ?_ ?_
     rotate_left
     ·intro w'
      go_simp
      with_reducible rfl
     rotate_left
     ·simp only [Act.put, List.setIfInBounds_toArray, List.set_cons_zero, List.set_cons_succ, i64_w, i32_w]
      rfl
     refine pure_ (i := 1) (N := some 42) (v := ?_) (a' := ?_) #[true, true, false, false, false, false, false, false, false, false, false] rfl rfl (any_of HT_.out (by kernel_rfl)) (fun _ _ _ h => h) (Or.inl ⟨by rfl, ?_⟩) ?_ ?_
     rotate_left
     ·intro w'
      go_simp
      with_reducible rfl
     rotate_left
     ·simp only [Act.put, List.setIfInBounds_toArray, List.set_cons_zero, List.set_cons_succ, i64_w, i32_w]
      rfl
     refine pure_ (i := 2) (N := some 43) (v := ?_) (a' := ?_) #[true, true, true, false, false, false, false, false, false, false, false] rfl rfl (any_of HT_.out (by kernel_rfl)) (fun _ _ _ h => h) (Or.inl ⟨by rfl, ?_⟩) ?_ ?_
     rotate_left
     ·intro w'
      go_simp
      with_reducible rfl
     rotate_left
     ·simp only [Act.put, List.setIfInBounds_toArray, List.set_cons_zero, List.set_cons_succ, i64_w, i32_w]
      rfl
     refine pure_ (i := 4) (N := some 45) (v := ?_) (a' := ?_) #[true, true, true, false, true, false, false, false, false, false, false] rfl rfl (any_of HT_.out (by kernel_rfl)) (fun _ _ _ h => h) (Or.inl ⟨by rfl, ?_⟩) ?_ ?_
     rotate_left
     ·intro w'
      go_simp
      with_reducible rfl
     rotate_left
     ·simp only [Act.put, List.setIfInBounds_toArray, List.set_cons_zero, List.set_cons_succ, i64_w, i32_w]
      rfl
     refine pure_ (i := 5) (N := some 46) (v := ?_) (a' := ?_) #[true, true, true, false, true, true, false, false, false, false, false] rfl rfl (any_of HT_.out (by kernel_rfl)) (fun _ _ _ h => h) (Or.inl ⟨by rfl, ?_⟩) ?_ ?_
     rotate_left
     ·intro w'
      go_simp
      with_reducible rfl
     rotate_left
     ·simp only [Act.put, List.setIfInBounds_toArray, List.set_cons_zero, List.set_cons_succ, i64_w, i32_w]
      rfl
     refine pure_ (i := 10) (N := some 51) (v := ?_) (a' := ?_) #[true, true, true, false, true, true, false, false, false, false, true] rfl rfl (any_of HT_.out (by kernel_rfl)) (fun _ _ _ h => h) (Or.inl ⟨by rfl, ?_⟩) ?_ ?_
     rotate_left
     ·intro w'
      go_simp
      with_reducible rfl
     rotate_left
     ·simp only [Act.put, List.setIfInBounds_toArray, List.set_cons_zero, List.set_cons_succ, i64_w, i32_w]
      rfl
     refine take_ (i := 3) (N := some 44) (v := ?_) (a' := ?_) #[true, true, true, true, true, true, false, false, false, false, true] rfl rfl (take_ofW HT_.out HW_.out (by kernel_rfl)) (fun _ _ _ h => h) (Or.inl ⟨by rfl, ?_⟩) hHeld ?_ ?_
     rotate_left
     ·rintro w' ⟨s0, s1, s2, s3, s4, s5, s6, s7, s8⟩
      go_simp
      with_reducible rfl
     rotate_left
     ·simp only [Act.put, List.setIfInBounds_toArray, List.set_cons_zero, List.set_cons_succ, i64_w, i32_w]
      rfl
     refine take_ (i := 6) (N := some 47) (v := ?_) (a' := ?_) #[true, true, true, true, true, true, true, false, false, false, true] rfl rfl (take_ofW HT_.out HW_.out (by kernel_rfl)) (fun _ _ _ h => h) (Or.inl ⟨by rfl, ?_⟩) hHeld ?_ ?_
     rotate_left
     ·rintro w' ⟨s0, s1, s2, s3, s4, s5, s6, s7, s8⟩
      go_simp
      with_reducible rfl
     rotate_left
     ·simp only [Act.put, List.setIfInBounds_toArray, List.set_cons_zero, List.set_cons_succ, i64_w, i32_w]
      rfl
     refine pure_ (i := 7) (N := some 48) (v := ?_) (a' := ?_) #[true, true, true, true, true, true, true, true, false, false, true] rfl rfl (any_of HT_.out (by kernel_rfl)) (fun _ _ _ h => h) (Or.inl ⟨by rfl, ?_⟩) ?_ ?_
     rotate_left
     ·intro w'
      go_simp
      with_reducible rfl
     rotate_left
     ·simp only [Act.put, List.setIfInBounds_toArray, List.set_cons_zero, List.set_cons_succ, i64_w, i32_w]
      rfl
     refine take_ (i := 8) (N := some 49) (v := ?_) (a' := ?_) #[true, true, true, true, true, true, true, true, true, false, true] rfl rfl (take_ofW HT_.out HW_.out (by kernel_rfl)) (fun _ _ _ h => h) (Or.inl ⟨by rfl, ?_⟩) hHeld ?_ ?_
     rotate_left
     ·rintro w' ⟨s0, s1, s2, s3, s4, s5, s6, s7, s8⟩
      go_simp
      with_reducible rfl
     rotate_left
     ·simp only [Act.put, List.setIfInBounds_toArray, List.set_cons_zero, List.set_cons_succ, i64_w, i32_w]
      rfl
     refine pure_ (i := 9) (N := some 50) (v := ?_) (a' := ?_) #[true, true, true, true, true, true, true, true, true, true, true] rfl rfl (any_of HT_.out (by kernel_rfl)) (fun _ _ _ h => h) (Or.inl ⟨by rfl, ?_⟩) ?_ ?_
     rotate_left
     ·intro w'
      go_simp
      with_reducible rfl
     rotate_left
     ·simp only [Act.put, List.setIfInBounds_toArray, List.set_cons_zero, List.set_cons_succ, i64_w, i32_w]
      rfl
     refine done_ (done_of HT_.out (by kernel_rfl)) ?_
     try go_wp2
     go_loopg [7, 51] k2 (fun kq v7 v51 w' => ∃ (x5_3 : List Int) (x7_3 : List Int) (x51_3 : Int), v51 = .int .i64 x51_3 ∧ Aside0 (impl_graph_far.l2 kq x5_3 x7_3 (rd_L1 l0_6 (rd x7_2 0)) ((rd_L1 l0_6 (rd x7_2 0)).length : Int) x51_3 a0_0 a0_1 l0_2 a0_3 a0_4 l0_5 l0_6 = some r) ∧ Aside0 (kq ≤ k2) ∧ Aside0 (Kd.R (Kd.int .i64) 3 w' w.heap.size (fun k_ => some k_ ≠ (v7 : Value).ownBlock) (.slice (some ⟨go18, 0, none⟩) x5_2.length co9) x5_3) ∧ Aside0 (Kd.Q (Kd.int .i64) 3 w' w.heap.size (fun k_ => some k_ ≠ ((.slice (some ⟨go18, 0, none⟩) x5_2.length co9) : Value).ownBlock) v7 x7_3) ∧ Aside0 (w'.heap[gb0]? = some (.cells #[.int .i64 a0_0, .int .i64 a0_1, (.slice A0_2 l0_2.length c0_2), .int .i64 a0_3, .int .i64 a0_4, (.slice A0_5 l0_5.length c0_5), (.slice (some ad271) l0_6.length c0_6)] 53 (0, 0))) ∧ Aside0 (Below w.heap.size w w'))
     case atStart => exact ⟨(x5_2), (x7_2), (0), zh7, H', ⟨Nat.le_refl _⟩, ⟨by (try simp only [hl5_1]); (try simp only [hl5_2]); first | exact HO_5.out | ((with_reducible repeat (first | apply Kd.R_alloc | apply Kd.R_drewN | apply Kd.R_drew)); exact HO_5.out)⟩, ⟨by (try simp only [hl5_1]); (try simp only [hl5_2]); first | exact HO_7.out | ((with_reducible repeat (first | apply Kd.Q_alloc | apply Kd.Q_drewN | apply Kd.Q_drew)); exact HO_7.out)⟩, ⟨by (try simp only [hl5_1]); (try simp only [hl5_2]); first | exact BK0.out | ((with_reducible repeat (first | refine blk_drewN ?_ _ | refine blk_drew ?_ | refine blk_alloc ?_ _)); exact BK0.out)⟩, ⟨zh1⟩⟩
     case round =>
      clear H'
      try clear c1; try clear p1; try clear q1; try clear hx1; try clear c2; try clear p2; try clear q2; try clear hx2; try clear qi2; try clear c3; try clear c4; try clear c4b0; try clear c4b1; try clear c5; try clear c5b0; try clear c5b1; try clear p6; try clear c10; try clear c10b0; try clear c10b8; try clear c11; try clear c11b0; try clear c12; try clear c12b0; try clear c12b8; try clear p13; try clear q13; try clear hx13; try clear hf13; try clear c16; try clear c16b0; try clear c17; try clear c17b0; try clear c17b8; try clear p18; try clear q18; try clear hx18; try clear hf18; try clear c23; try clear c23b0
      try clear c23b1; try clear c23b8; try clear c23b9; try clear c24; try clear c24b0; try clear c24b1; try clear c24b8; try clear c24b9; try clear c25; try clear c25b0; try clear c26; try clear c26b0; try clear c26b8; try clear c27; try clear p27; try clear q27; try clear hx27; try clear qi27; try clear hx13_0; try clear hx18_0; try clear hx270_0; try clear hx271_0; try clear p1; try clear p13; try clear p18; try clear p2; try clear p270; try clear p271; try clear p6; try clear q1; try clear q13; try clear q18; try clear q270; try clear q271
      obtain ⟨x5_3, x7_3, x51_3, rfl, HA, HK3, HO_5, HO_7, BK0, HB⟩ := hrel
      have hl5_3 := (Kd.R_reads' HO_5.out).1
      rw [hl5_3] at HO_5
      (try simp only [hl5_3])
      (try simp only [hl5_3] at BK0)
      (try simp only [hl5_3] at HO_7)
      cases gk with
      | zero => exact absurd HA.out (by simp [impl_graph_far.l2])
      | succ k3 =>
       have H := HA.out
       clear HA
       simp only [impl_graph_far.l2] at H
       by_cases c29 : x51_3 < ((rd_L1 l0_6 (rd x7_2 0)).length : Int)
       rotate_left
       ·rw [if_neg c29] at H
        have c29b0 : decide (x51_3 < ((rd_L1 l0_6 (rd x7_2 0)).length : Int)) = false := decide_eq_false c29
        have c29b8 := c29b0
        (try simp only [hl5_1, hl5_2, hl5_3] at c29b8)
        clear c29
        by_cases c44 : 1 ≤ (x7_3.length : Int)
        rotate_left
        ·rw [if_neg c44] at H
         exact absurd H (by simp)
        rw [if_pos c44] at H
        have c44b0 := eq_true c44
        have c44b1 : decide (1 ≤ (x7_3.length : Int)) = true := decide_eq_true c44
        clear c44
        obtain ⟨y280, hy280⟩ : ∃ y_ : List Int, y_ = (x7_3.drop (1 : Int).toNat) := ⟨_, rfl⟩
        replace H : (impl_graph_far.l1 k3 x5_3 y280 a0_0 a0_1 l0_2 a0_3 a0_4 l0_5 l0_6) = some r := by first | (rw [hy280]; with_reducible exact H) | (have H2_ := (Option.bind_some _ _).symm.trans H; rw [hy280]; with_reducible exact H2_) | (have H2_ := (Option.bind_some _ _).symm.trans H; with_reducible exact H2_) | with_reducible exact H | (rw [hy280]; exact H) | exact H
        have Ny280 := Aside0.mk hy280
        clear hy280
        have H' := Aside0.mk H
        clear H
        obtain ⟨Ao45, co45, eo45, _⟩ := Kd.Q_slice HO_7.out
        subst eo45
        have q46 : (1 : Int) ≤ ((x7_3.length : Int) : Int) := of_decide_eq_true zh2
        obtain ⟨i046, hi046, _, hsz46, _⟩ := info_parts info3
        have hcut46 := cut_from (P := Try.prog) 22 3 .i64 Try.underlying22 hi046 1 hsz46 Ao45 x7_3.length co45 1 (by omega) q46
        have hr46 := Kd.Q_drop (k := (1 : Int).toNat) HO_7.out (by omega)
        obtain ⟨A46, hA46⟩ : ∃ A1, A1 = (if co45 = (1 : Int).toNat then Ao45 else (Ao45 : Option Addr).map (·.add ((1 : Int).toNat * 1))) := ⟨_, rfl⟩
        obtain ⟨c46, hc46⟩ : ∃ c1, c1 = co45 - (1 : Int).toNat := ⟨_, rfl⟩
        have hy46 : y280.length = x7_3.length - (1 : Int).toNat := (by rw [Ny280.out, List.length_drop])
        rw [← Ny280.out] at hr46
        rw [← hy46, ← hA46, ← hc46] at hcut46
        replace hr46 : Kd.Q (Kd.int .i64) 3 wr w.heap.size (fun k_ => some k_ ≠ (.slice (some ⟨go18, 0, none⟩) x5_3.length co9 : Value).ownBlock) (.slice A46 y280.length c46) y280 := (by rw [hA46, hc46, hy46]; exact hr46)
        have HE46 : Aside0 ((Value.slice A46 y280.length c46).ownBlock = (.slice Ao45 x7_3.length co45 : Value).ownBlock) := ⟨by rw [hA46]; split <;> (cases (Ao45 : Option Addr) <;> rfl)⟩
        clear hy46 hi046 hsz46 HO_7 hA46 hc46
        have HO282 := Aside0.mk hr46
        clear hr46
        replace q46 := eq_true q46
        have n_ := Aside0.mk (Kd.R_mono (ok' := fun k_ => some k_ ≠ (.slice A46 y280.length c46 : Value).ownBlock) HO_5.out (fun k_ hk => (by rw [HE46.out]; exact hk)))
        clear HO_5
        have HO_5 := n_
        clear n_
        go_wp2
        (try simp only [← hl5_2, ← hl5_3])
        go_roundg k3
        case measure => have := HK1.out; have := HK2.out; have := HK3.out; omega
        case rel => exact ⟨(x5_3), (y280), H', ⟨by have := HK1.out; have := HK2.out; have := HK3.out; omega⟩, ⟨zh6⟩, ⟨by (try simp only [hl5_1]); (try simp only [hl5_2]); (try simp only [hl5_3]); first | exact HO282.out | ((with_reducible repeat (first | apply Kd.Q_alloc | apply Kd.Q_drewN | apply Kd.Q_drew)); exact HO282.out)⟩, ⟨zh4⟩, ⟨zh1⟩⟩
       rw [if_pos c29] at H
       have c29b0 : decide (x51_3 < ((rd_L1 l0_6 (rd x7_2 0)).length : Int)) = true := decide_eq_true c29
       have c29b8 := c29b0
       (try simp only [hl5_1, hl5_2, hl5_3] at c29b8)
       clear c29
       by_cases c30 : 0 ≤ x51_3
       rotate_left
       ·rw [if_neg c30] at H
        exact absurd H (by simp)
       rw [if_pos c30] at H
       have c30b0 : decide (0 ≤ x51_3) = true := decide_eq_true c30
       clear c30
       by_cases c31 : x51_3 < ((rd_L1 l0_6 (rd x7_2 0)).length : Int)
       rotate_left
       ·rw [if_neg c31] at H
        exact absurd H (by simp)
       rw [if_pos c31] at H
       have c31b0 : decide (x51_3 < ((rd_L1 l0_6 (rd x7_2 0)).length : Int)) = true := decide_eq_true c31
       have c31b8 := c31b0
       (try simp only [hl5_1, hl5_2, hl5_3] at c31b8)
       clear c31
       by_cases c32 : 0 ≤ (rd (rd_L1 l0_6 (rd x7_2 0)) x51_3)
       rotate_left
       ·rw [if_neg c32] at H
        exact absurd H (by simp)
       rw [if_pos c32] at H
       have c32b0 : decide (0 ≤ (rd (rd_L1 l0_6 (rd x7_2 0)) x51_3)) = true := decide_eq_true c32
       clear c32
       by_cases c33 : (rd (rd_L1 l0_6 (rd x7_2 0)) x51_3) < (x5_3.length : Int)
       rotate_left
       ·rw [if_neg c33] at H
        exact absurd H (by simp)
       rw [if_pos c33] at H
       have c33b0 : decide ((rd (rd_L1 l0_6 (rd x7_2 0)) x51_3) < (x5_3.length : Int)) = true := decide_eq_true c33
       have c33b8 := c33b0
       (try simp only [hl5_1, hl5_2, hl5_3] at c33b8)
       clear c33
       by_cases c34 : (rd x5_3 (rd (rd_L1 l0_6 (rd x7_2 0)) x51_3)) < 0
       rotate_left
       ·rw [if_neg c34] at H
        have c34b0 : decide ((rd x5_3 (rd (rd_L1 l0_6 (rd x7_2 0)) x51_3)) < 0) = false := decide_eq_false c34
        clear c34
        have H' := Aside0.mk H
        clear H
        have p272 : 0 ≤ (x51_3 : Int) := of_decide_eq_true zh2
        have q272 : x51_3 < ((rd_L1 l0_6 (rd x7_2 0)).length : Int) := of_decide_eq_true zh2
        obtain ⟨ad272, e272, hx272_0⟩ := Kd.at_int HR271_0.out x51_3 p272 q272
        cases e272
        (first | replace hx272_0 := (HB.out.cell (World.block_lt_of_cell? w _ hx272_0)).trans hx272_0 | skip)
        replace p272 := eq_true p272
        replace q272 := eq_true q272
        have p273 : 0 ≤ ((rd (rd_L1 l0_6 (rd x7_2 0)) x51_3) : Int) := of_decide_eq_true zh2
        have q273 : (rd (rd_L1 l0_6 (rd x7_2 0)) x51_3) < (x5_3.length : Int) := of_decide_eq_true zh2
        obtain ⟨ad273, e273, hx273_0⟩ := Kd.at_int (Kd.R_reads' HO_5.out).2.2 (rd (rd_L1 l0_6 (rd x7_2 0)) x51_3) p273 q273
        obtain rfl : (⟨go18, 0, none⟩ : Addr) = ad273 := (by injection e273)
        (first | simp only [add_plain] at hx273_0 | simp only [add_at] at hx273_0 | simp only [Addr.add, Nat.zero_add] at hx273_0 | skip)
        replace p273 := eq_true p273
        replace q273 := eq_true q273
        go_wp2
        (try simp only [← hl5_3])
        go_roundg k3
        case measure => have := HK1.out; have := HK2.out; have := HK3.out; omega
        case rel => exact ⟨(x5_3), (x7_3), (wrap64 (x51_3 + 1)), zh7, H', ⟨by have := HK1.out; have := HK2.out; have := HK3.out; omega⟩, ⟨zh6⟩, ⟨by (try simp only [hl5_1]); (try simp only [hl5_2]); (try simp only [hl5_3]); first | exact HO_7.out | ((with_reducible repeat (first | apply Kd.Q_alloc | apply Kd.Q_drewN | apply Kd.Q_drew)); exact HO_7.out)⟩, ⟨zh4⟩, ⟨zh1⟩⟩
       rw [if_pos c34] at H
       have c34b0 : decide ((rd x5_3 (rd (rd_L1 l0_6 (rd x7_2 0)) x51_3)) < 0) = true := decide_eq_true c34
       clear c34
       by_cases c35 : 0 < (x7_3.length : Int)
       rotate_left
       ·rw [if_neg c35] at H
        exact absurd H (by simp)
       rw [if_pos c35] at H
       have c35b0 : decide (0 < (x7_3.length : Int)) = true := decide_eq_true c35
       have c35b8 := c35b0
       (try simp only [hl5_1, hl5_2, hl5_3] at c35b8)
       have c35b1 : decide (0 < x7_3.length) = true := decide_eq_true (by omega)
       have c35b9 := c35b1
       (try simp only [hl5_1, hl5_2, hl5_3] at c35b9)
       clear c35
       by_cases c36 : 0 ≤ (rd x7_3 0)
       rotate_left
       ·rw [if_neg c36] at H
        exact absurd H (by simp)
       rw [if_pos c36] at H
       have c36b0 : decide (0 ≤ (rd x7_3 0)) = true := decide_eq_true c36
       clear c36
       by_cases c37 : (rd x7_3 0) < (x5_3.length : Int)
       rotate_left
       ·rw [if_neg c37] at H
        exact absurd H (by simp)
       rw [if_pos c37] at H
       have c37b0 : decide ((rd x7_3 0) < (x5_3.length : Int)) = true := decide_eq_true c37
       have c37b8 := c37b0
       (try simp only [hl5_1, hl5_2, hl5_3] at c37b8)
       clear c37
       obtain ⟨y276, hy276⟩ : ∃ y_ : List Int, y_ = (x5_3.set ((rd (rd_L1 l0_6 (rd x7_2 0)) x51_3) : Int).toNat (wrap64 ((rd x5_3 (rd x7_3 0)) + 1))) := ⟨_, rfl⟩
       replace H : (if x7_3.length < 17592186044416 then (impl_graph_far.l2 k3 y276 (x7_3 ++ [rd (rd_L1 l0_6 (rd x7_2 0)) x51_3]) (rd_L1 l0_6 (rd x7_2 0)) ((rd_L1 l0_6 (rd x7_2 0)).length : Int) (wrap64 (x51_3 + 1)) a0_0 a0_1 l0_2 a0_3 a0_4 l0_5 l0_6) else (none)) = some r := by first | (rw [hy276]; with_reducible exact H) | (have H2_ := (Option.bind_some _ _).symm.trans H; rw [hy276]; with_reducible exact H2_) | (have H2_ := (Option.bind_some _ _).symm.trans H; with_reducible exact H2_) | with_reducible exact H | (rw [hy276]; exact H) | exact H
       have Ny276 := Aside0.mk hy276
       clear hy276
       by_cases c39 : x7_3.length < 17592186044416
       rotate_left
       ·rw [if_neg c39] at H
        exact absurd H (by simp)
       rw [if_pos c39] at H
       have LMc39 := Aside0.mk c39
       clear c39
       obtain ⟨y277, hy277⟩ : ∃ y_ : List Int, y_ = (x7_3 ++ [rd (rd_L1 l0_6 (rd x7_2 0)) x51_3]) := ⟨_, rfl⟩
       replace H : (impl_graph_far.l2 k3 y276 y277 (rd_L1 l0_6 (rd x7_2 0)) ((rd_L1 l0_6 (rd x7_2 0)).length : Int) (wrap64 (x51_3 + 1)) a0_0 a0_1 l0_2 a0_3 a0_4 l0_5 l0_6) = some r := by first | (rw [hy277]; with_reducible exact H) | (have H2_ := (Option.bind_some _ _).symm.trans H; rw [hy277]; with_reducible exact H2_) | (have H2_ := (Option.bind_some _ _).symm.trans H; with_reducible exact H2_) | with_reducible exact H | (rw [hy277]; exact H) | exact H
       have Ny277 := Aside0.mk hy277
       clear hy277
       have H' := Aside0.mk H
       clear H
       have p272 : 0 ≤ (x51_3 : Int) := of_decide_eq_true zh2
       have q272 : x51_3 < ((rd_L1 l0_6 (rd x7_2 0)).length : Int) := of_decide_eq_true zh2
       obtain ⟨ad272, e272, hx272_0⟩ := Kd.at_int HR271_0.out x51_3 p272 q272
       cases e272
       (first | replace hx272_0 := (HB.out.cell (World.block_lt_of_cell? w _ hx272_0)).trans hx272_0 | skip)
       replace p272 := eq_true p272
       replace q272 := eq_true q272
       have p273 : 0 ≤ ((rd (rd_L1 l0_6 (rd x7_2 0)) x51_3) : Int) := of_decide_eq_true zh2
       have q273 : (rd (rd_L1 l0_6 (rd x7_2 0)) x51_3) < (x5_3.length : Int) := of_decide_eq_true zh2
       obtain ⟨ad273, e273, hx273_0⟩ := Kd.at_int (Kd.R_reads' HO_5.out).2.2 (rd (rd_L1 l0_6 (rd x7_2 0)) x51_3) p273 q273
       obtain rfl : (⟨go18, 0, none⟩ : Addr) = ad273 := (by injection e273)
       (first | simp only [add_plain] at hx273_0 | simp only [add_at] at hx273_0 | simp only [Addr.add, Nat.zero_add] at hx273_0 | skip)
       replace p273 := eq_true p273
       replace q273 := eq_true q273
       obtain ⟨Ao40, co40, eo40, _⟩ := Kd.Q_slice HO_7.out
       subst eo40
       have p274 : 0 ≤ (0 : Int) := (by omega)
       have q274 : 0 < (x7_3.length : Int) := of_decide_eq_true zh2
       obtain ⟨ad274, e274, hx274_0⟩ := Kd.at_int (Kd.Q_reads' HO_7.out).2.2 0 p274 q274
       cases e274
       have qi274 : (0 < x7_3.length) = True := eq_true (by omega)
       (try rw [show ((0 : Int)).toNat = 0 from rfl] at hx274_0)
       (try rw [Addr.add_zero'] at hx274_0)
       replace p274 := eq_true p274
       replace q274 := eq_true q274
       have p275 : 0 ≤ ((rd x7_3 0) : Int) := of_decide_eq_true zh2
       have q275 : (rd x7_3 0) < (x5_3.length : Int) := of_decide_eq_true zh2
       obtain ⟨ad275, e275, hx275_0⟩ := Kd.at_int (Kd.R_reads' HO_5.out).2.2 (rd x7_3 0) p275 q275
       obtain rfl : (⟨go18, 0, none⟩ : Addr) = ad275 := (by injection e275)
       (first | simp only [add_plain] at hx275_0 | simp only [add_at] at hx275_0 | simp only [Addr.add, Nat.zero_add] at hx275_0 | skip)
       replace p275 := eq_true p275
       replace q275 := eq_true q275
       have p38 : 0 ≤ ((rd (rd_L1 l0_6 (rd x7_2 0)) x51_3) : Int) := of_decide_eq_true zh2
       have q38 : ((rd (rd_L1 l0_6 (rd x7_2 0)) x51_3) : Int) < ((x5_3.length : Int) : Int) := of_decide_eq_true zh2
       obtain ⟨hx38_0, hf38_0⟩ := Kd.R_celln 0 HO_5.out ((rd (rd_L1 l0_6 (rd x7_2 0)) x51_3) : Int) p38 q38
       replace p38 := eq_true p38
       replace q38 := eq_true q38
       have HP41 := Kd.R_putg HO_5.out ((rd (rd_L1 l0_6 (rd x7_2 0)) x51_3) : Int) (wrap64 ((rd x5_3 (rd x7_3 0)) + 1))
       go_wp2_with (first | ((with_reducible refine gate_store (t := 3) (p := 69) rfl ?_); refine store_event (t := 3) (p := 69) (v := ?vo_w42) (w1 := (wr.setCell ⟨go18, ((rd (rd_L1 l0_6 (rd x7_2 0)) x51_3) : Int).toNat, none⟩ (.int .i64 (wrap64 ((rd x5_3 (rd x7_3 0)) + 1))))) ?hg ?ho ?hn ?hr ?_; (case ho => rfl); (case hg => rfl); (case hn => rfl); (case hr => first | (go_simp; done) | (go_simp; rfl)); intro w42 hw; have hg : wr.grownBy w42 (some go18) := (by rw [hw]; exact HP41.2); have hp_ : Kd.R (Kd.int .i64) 3 w42 w.heap.size (fun k_ => some k_ ≠ (.slice (some ad274) x7_3.length co40 : Value).ownBlock) (.slice (some ⟨go18, 0, none⟩) x5_3.length co9) y276 := (by rw [hw, Ny276.out]; exact HP41.1); clear HP41; have n0_ := Aside0.mk (hp_); have n1_ := Aside0.mk (Kd.Q_after (v := (.slice (some ⟨go18, 0, none⟩) x5_3.length co9)) (v1 := (.slice (some ⟨go18, 0, none⟩) x5_3.length co9)) (ok := (fun _ => True)) (by (with_reducible repeat (first | apply Kd.Q_alloc | apply Kd.Q_drewN | apply Kd.Q_drew)); exact Kd.Q_mono HO_7.out (fun _ hk => ⟨trivial, hk⟩)) hg (.inl rfl)); have n2_ := Aside0.mk (blk_grown (g := gb0) (o := .cells #[.int .i64 a0_0, .int .i64 a0_1, .slice A0_2 l0_2.length c0_2, .int .i64 a0_3, .int .i64 a0_4, .slice A0_5 l0_5.length c0_5, .slice (some ad271) l0_6.length c0_6] 53 (0, 0)) zh3 hg (Kd.R_ne HO_5.out BK0.out (by decide))); have n3_ := Aside0.mk ((by rw [hw]; exact below_set (HB.out) GB18.out : Below w.heap.size w w42)); clear HO_5; clear HO_7; clear BK0; clear HB; have HO_5 := n0_; have HO_7 := n1_; have BK0 := n2_; have HB := n3_; clear n0_ n1_ n2_ n3_; clear hg hw hp_) | ((with_reducible refine gate_builtin (b := .append) (xs := #[.tmp 70, .tmp 72]) rfl ?_); at_builtin; refine Kd.Q_append (Kd.int .i64) (w0 := w) w.heap.size rfl (.tmp 70) (.tmp 72) 22 3 (.int .i64 0) 8 rfl Try.underlying22 info3 rfl (by decide) (by omega) (.slice (some ad274) x7_3.length co40) x7_3 (rd (rd_L1 l0_6 (rd x7_2 0)) x51_3) [.int .i64 (rd (rd_L1 l0_6 (rd x7_2 0)) x51_3)] (fun k_ => some k_ ≠ (.slice (some ⟨go18, 0, none⟩) x5_3.length co9 : Value).ownBlock) (fun _ => False) rfl rfl ?aP (fun _ hk => hk.elim) ?aF ?aO ?aB ?aS ?aL ?_; (case aP => exact rfl); (case aB => exact zh1); (case aF => exact (fun k_ hk => Kd.fresh' (Kd.R_lt zh5) k_ hk)); (case aO => exact (by (with_reducible repeat (first | apply Kd.Q_alloc | apply Kd.Q_drewN | apply Kd.Q_drew)); exact Kd.Q_mono HO_7.out (fun _ hk => hk.2))); (case aS => exact (below_size zh1)); (case aL => have := LMc39.out; omega); intro v278 w43 ho hb hg hat; rw [← Ny277.out] at ho; have n0_ := Aside0.mk (Kd.R_after (ok := (fun _ => True)) (by (with_reducible repeat (first | apply Kd.R_alloc | apply Kd.R_drewN | apply Kd.R_drew)); exact Kd.R_mono HO_5.out (fun _ hk => ⟨trivial, hk⟩)) hg hat); have n1_ := Aside0.mk (blk_grown (g := gb0) (o := .cells #[.int .i64 a0_0, .int .i64 a0_1, .slice A0_2 l0_2.length c0_2, .int .i64 a0_3, .int .i64 a0_4, .slice A0_5 l0_5.length c0_5, .slice (some ad271) l0_6.length c0_6] 53 (0, 0)) zh3 hg (Kd.Q_ne HO_7.out BK0.out (by decide))); have n2_ := Aside0.mk (hb); have n3_ := Aside0.mk (ho); clear HO_5; clear BK0; clear HB; clear HO_7; have HO_5 := n0_; have BK0 := n1_; have HB := n2_; have HO279 := n3_; clear n0_ n1_ n2_ n3_; clear ho hb hg hat))
       (try simp only [← hl5_3])
       go_roundg k3
       case measure => have := HK1.out; have := HK2.out; have := HK3.out; omega
       case rel => exact ⟨(y276), (y277), (wrap64 (x51_3 + 1)), zh7, H', ⟨by have := HK1.out; have := HK2.out; have := HK3.out; omega⟩, ⟨by (try simp only [hl5_1]); (try simp only [hl5_2]); (try simp only [hl5_3]); (with_reducible repeat (first | apply Kd.R_alloc | apply Kd.R_drewN | apply Kd.R_drew)); exact Kd.R_mono HO_5.out (fun _ hk => hk.2)⟩, ⟨by (try simp only [hl5_1]); (try simp only [hl5_2]); (try simp only [hl5_3]); first | exact HO279.out | ((with_reducible repeat (first | apply Kd.Q_alloc | apply Kd.Q_drewN | apply Kd.Q_drew)); exact HO279.out)⟩, ⟨zh4⟩, ⟨zh1⟩⟩

end Go.Proofs.Ytfjomkjngolboaa.Q

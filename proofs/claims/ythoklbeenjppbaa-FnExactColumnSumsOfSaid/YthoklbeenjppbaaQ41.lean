/- Written by a program of this session: functions of the translation as plain Lean functions, each with a proof that the call does what the plain function says; the conditions stand in each theorem. -/
import Derived.Test.YthoklbeenjppbaaQ0
namespace Go.Proofs.Ythoklbeenjppbaa.Q
open Go.RowKit Go.Proofs.YthoklbeenjppbaaW.PrintWords Go.Proofs.YthoklbeenjppbaaW.PrintLast Go.Proofs.YthoklbeenjppbaaW.PrintMore
attribute [local go_sem] max2_int min2_int max_two min_two max_three min_three max_four min_four   -- for this text's walks alone
set_option linter.unusedVariables false
set_option linter.unusedSimpArgs false

theorem zap1 {p : Prop} (h : p := by repeat (first | (with_reducible first | exact HB.out | apply below_alloc | apply pw_below_drewN | apply below_drew1 | refine below_set ?_ GE1077.out) | exact HB.out)) : p := h
theorem zap2 {p : Prop} (h : p := by (with_reducible repeat (first | refine blk_drewN ?_ _ | refine blk_drew ?_ | refine blk_alloc ?_ _)); exact BK1077.out) : p := h
theorem zap3 {p : Prop} (h : p := by first | (with_reducible assumption) | assumption) : p := h
theorem zap5 {p : Prop} (h : p := by repeat (first | (with_reducible first | exact HB.out | apply below_alloc | apply pw_below_drewN | apply below_drew1) | exact HB.out)) : p := h
theorem zap6 {p : Prop} (h : p := by (with_reducible repeat (first | apply Kd.R_alloc | apply Kd.R_drewN | apply Kd.R_drew)); exact HO1083.out) : p := h
theorem zap7 {p : Prop} (h : p := by (with_reducible repeat (first | apply Kd.R_alloc | apply Kd.R_drewN | apply Kd.R_drew)); exact HO1080.out) : p := h
theorem zap8 {p : Prop} (h : p := by simp only [putAll, Act.put, List.setIfInBounds_toArray, List.set_cons_zero, List.set_cons_succ]) : p := h
theorem zap9 {p : Prop} (h : p := by (with_reducible repeat (first | apply Kd.R_alloc | apply Kd.R_drewN | apply Kd.R_drew)); exact Kd.R_mono HO1083.out (fun _ hk => hk.2)) : p := h
theorem zap10 {p : Prop} (h : p := by (with_reducible repeat (first | apply Kd.R_alloc | apply Kd.R_drewN | apply Kd.R_drew)); exact Kd.R_mono HO1080.out (fun _ hk => hk.2)) : p := h
/-! ### impl_Board_sums: function 81 -/
def impl_Board_sums.l0 : Nat → List Int → List Int → List Int → Int → Int → Int → Int → List Int → Option (List Int × List Int)
 | 0, _, _, _, _, _, _, _, _ => none
 | k + 1, x6, x7, x16, x17, x18, x1078000, x1078001, x1078002 => if x18 < x17 then (if 0 ≤ x18 then (if x18 < (x16.length : Int) then (if x1078000 = 0 then (none) else (if 0 ≤ (wrap64 (Int.tdiv (rd x16 x18) x1078000)) then (if (wrap64 (Int.tdiv (rd x16 x18) x1078000)) < (x6.length : Int) then (if 0 ≤ (Int.tmod (rd x16 x18) x1078000) then (if (Int.tmod (rd x16 x18) x1078000) < (x7.length : Int) then (impl_Board_sums.l0 k (x6.set ((wrap64 (Int.tdiv (rd x16 x18) x1078000)) : Int).toNat (wrap64 ((rd x6 (wrap64 (Int.tdiv (rd x16 x18) x1078000))) + (wrap64 (x18 + 1))))) (x7.set ((Int.tmod (rd x16 x18) x1078000) : Int).toNat (wrap64 ((rd x7 (Int.tmod (rd x16 x18) x1078000)) + (wrap64 (x18 + 1))))) x16 x17 (wrap64 (x18 + 1)) x1078000 x1078001 x1078002) else (none)) else (none)) else (none)) else (none))) else (none)) else (none)) else (some (x6, x7))
def impl_Board_sums.f (k : Nat) (a0_0 : Int) (a0_1 : Int) (l0_2 : List Int) (l1 : List Int) : Option (List Int × List Int) := if 0 ≤ a0_1 then (if (a0_1 : Int).toNat ≤ 35184372088832 then (if 0 ≤ a0_0 then (if (a0_0 : Int).toNat ≤ 35184372088832 then (impl_Board_sums.l0 k (List.replicate (a0_1 : Int).toNat 0) (List.replicate (a0_0 : Int).toNat 0) l1 (l1.length : Int) 0 a0_0 a0_1 l0_2) else (none)) else (none)) else (none)) else (none)
def impl_Board_sums.T1 : Bool × List (List Nat × List Nat) := (true, [([], []), ([0], [0]), ([1, 1], [1]), ([], []), ([3], [3]), ([4, 4], [4]), ([2, 0, 1, 2], [2]), ([5, 6, 0, 1, 2, 3, 4, 5, 6], [5])])
def impl_Board_sums.B1 : List Nat := [0, 1, 3, 0, 8, 24, 7, 127]
theorem impl_Board_sums.tab1 : rtab .any (opsOf Try.f81 1) = impl_Board_sums.T1 := by kernel_rfl
theorem impl_Board_sums.bits1 : waitsOk impl_Board_sums.T1.2 impl_Board_sums.B1 = true := by kernel_rfl
set_option maxHeartbeats 8000000 in
set_option maxRecDepth 100000 in
theorem impl_Board_sums.calls (k : Nat) (a0_0 : Int) (a0_1 : Int) (A0_2 : Option Addr) (c0_2 : Nat) (l0_2 : List Int) (A1 : Option Addr) (c1 : Nat) (l1 : List Int) (r1 : List Int) (r2 : List Int) (w : World) (hr0_2 : Kd.C (Kd.int .i64) w A0_2 l0_2.length l0_2) (hc0_2 : l0_2.length ≤ c0_2) (hr1 : Kd.C (Kd.int .i64) w A1 l1.length l1) (hc1 : l1.length ≤ c1) (h : impl_Board_sums.f k a0_0 a0_1 l0_2 l1 = some (r1, r2)) :
  Calls Try.prog 81 #[.agg #[.int .i64 a0_0, .int .i64 a0_1, .slice A0_2 l0_2.length c0_2], .slice A1 l1.length c1] w fun e w' => ∃ v0_ v1_ : Value, e = .returned (.tuple #[v0_, v1_]) ∧ Kd.R (Kd.int .i64) 3 w' w.heap.size (fun k_ => some k_ ≠ (v1_ : Value).ownBlock) v0_ r1 ∧ Kd.R (Kd.int .i64) 3 w' w.heap.size (fun k_ => some k_ ≠ (v0_ : Value).ownBlock) v1_ r2 ∧ Below w.heap.size w w' := by
 have hu30 := Try.underlying30
 have HR0_2 := Aside0.mk hr0_2
 have HC0_2 := Aside0.mk hc0_2
 clear hr0_2 hc0_2
 have HR1 := Aside0.mk hr1
 have HC1 := Aside0.mk hc1
 clear hr1 hc1
 have HB := Aside0.mk (Below.refl w.heap.size w)
 have H : (if 0 ≤ a0_1 then (if (a0_1 : Int).toNat ≤ 35184372088832 then (if 0 ≤ a0_0 then (if (a0_0 : Int).toNat ≤ 35184372088832 then (impl_Board_sums.l0 k (List.replicate (a0_1 : Int).toNat 0) (List.replicate (a0_0 : Int).toNat 0) l1 (l1.length : Int) 0 a0_0 a0_1 l0_2) else (none)) else (none)) else (none)) else (none)) = some (r1, r2) := h
 clear h
 by_cases c3 : 0 ≤ a0_1
 rotate_left
 ·rw [if_neg c3] at H
  exact absurd H (by simp)
 rw [if_pos c3] at H
 have c3b0 := eq_true c3
 have c3b1 : decide (0 ≤ a0_1) = true := decide_eq_true c3
 clear c3
 by_cases c4 : (a0_1 : Int).toNat ≤ 35184372088832
 rotate_left
 ·rw [if_neg c4] at H
  exact absurd H (by simp)
 rw [if_pos c4] at H
 have c4b0 := eq_true c4
 have c4b1 : decide ((a0_1 : Int).toNat ≤ 35184372088832) = true := decide_eq_true c4
 clear c4
 obtain ⟨y1078, hy1078⟩ : ∃ y_ : List Int, y_ = (List.replicate (a0_1 : Int).toNat 0) := ⟨_, rfl⟩
 replace H : (if 0 ≤ a0_0 then (if (a0_0 : Int).toNat ≤ 35184372088832 then (impl_Board_sums.l0 k y1078 (List.replicate (a0_0 : Int).toNat 0) l1 (l1.length : Int) 0 a0_0 a0_1 l0_2) else (none)) else (none)) = some (r1, r2) := by first | (rw [hy1078]; with_reducible exact H) | (have H2_ := (Option.bind_some _ _).symm.trans H; rw [hy1078]; with_reducible exact H2_) | (have H2_ := (Option.bind_some _ _).symm.trans H; with_reducible exact H2_) | with_reducible exact H | (rw [hy1078]; exact H) | exact H
 have Ny1078 := Aside0.mk hy1078
 clear hy1078
 by_cases c5 : 0 ≤ a0_0
 rotate_left
 ·rw [if_neg c5] at H
  exact absurd H (by simp)
 rw [if_pos c5] at H
 have c5b0 := eq_true c5
 have c5b1 : decide (0 ≤ a0_0) = true := decide_eq_true c5
 clear c5
 by_cases c6 : (a0_0 : Int).toNat ≤ 35184372088832
 rotate_left
 ·rw [if_neg c6] at H
  exact absurd H (by simp)
 rw [if_pos c6] at H
 have c6b0 := eq_true c6
 have c6b1 : decide ((a0_0 : Int).toNat ≤ 35184372088832) = true := decide_eq_true c6
 clear c6
 obtain ⟨y1081, hy1081⟩ : ∃ y_ : List Int, y_ = (List.replicate (a0_0 : Int).toNat 0) := ⟨_, rfl⟩
 replace H : (impl_Board_sums.l0 k y1078 y1081 l1 (l1.length : Int) 0 a0_0 a0_1 l0_2) = some (r1, r2) := by first | (rw [hy1081]; with_reducible exact H) | (have H2_ := (Option.bind_some _ _).symm.trans H; rw [hy1081]; with_reducible exact H2_) | (have H2_ := (Option.bind_some _ _).symm.trans H; with_reducible exact H2_) | with_reducible exact H | (rw [hy1081]; exact H) | exact H
 have Ny1081 := Aside0.mk hy1081
 clear hy1081
 have H' := Aside0.mk H
 clear H
 go_enter Try.func81, Try.ntmps81
 try go_wp2_with (first | ((with_reducible refine gate_dst (N := 2) rfl ?_); refine box_event ?hg (N := 2) ?hd (cs := #[.int .i64 a0_0, .int .i64 a0_1, .slice A0_2 l0_2.length c0_2]) (t := 30) ?hr ?_; (case hd => rfl); (case hg => rfl); (case hr => first | (go_simp; done) | (go_simp; rfl)); intro gb1077 hg w7 hbox hb; have n0_ := Aside0.mk (below_step zap5 hb); have n1_ := Aside0.mk (hbox); have n2_ := Aside0.mk ((by rw [hg]; exact (below_size zap5) : w.heap.size ≤ gb1077)); have n3_ := Aside0.mk ((by rw [hg]; exact (below_size zap5) : w.heap.size ≤ gb1077)); clear HB; have HB := n0_; have BK1077 := n1_; have GW1077 := n2_; have GE1077 := n3_; clear n0_ n1_ n2_ n3_; clear hb hbox hg))
 have n0_ := Aside0.mk (blk_drew BK1077.out)
 have n1_ := Aside0.mk (below_drew1 HB.out)
 clear BK1077
 clear HB
 have BK1077 := n0_
 have HB := n1_
 clear n0_ n1_
 refine start_ (n := 8) (S := fun w' => w'.cell? ⟨gb1077, 0, none⟩ = some (.int .i64 a0_0) ∧ w'.cell? ⟨gb1077, 1, none⟩ = some (.int .i64 a0_1) ∧ w'.cell? ⟨gb1077, 2, none⟩ = some (.slice A0_2 l0_2.length c0_2)) (ds := []) #[false, false, false, false, false, false, false, false] (by kernel_rfl) rfl rfl ⟨(blk_cell BK1077.out 0).trans rfl, (blk_cell BK1077.out 1).trans rfl, (blk_cell BK1077.out 2).trans rfl⟩ (fun hHeld => ?_); refine with_tabW impl_Board_sums.tab1 impl_Board_sums.bits1 (fun HT_ HW_ => ?_)
 generalize w7.drew = w8 at BK1077 HB hHeld ⊢
 refine pure_ (i := 0) (N := some 10) (v := ?_) (a' := ?_) #[true, false, false, false, false, false, false, false] rfl rfl (any_of HT_.out (by kernel_rfl)) (fun _ _ _ h => h) (Or.inl ⟨by rfl, ?_⟩) ?_ ?_
 rotate_left
 ·intro w'
  go_simp
  with_reducible rfl
 rotate_left
 ·simp only [Act.put, List.setIfInBounds_toArray, List.set_cons_zero, List.set_cons_succ, i64_w, i32_w]
  rfl
 refine pure_ (i := 3) (N := some 13) (v := ?_) (a' := ?_) #[true, false, false, true, false, false, false, false] rfl rfl (any_of HT_.out (by kernel_rfl)) (fun _ _ _ h => h) (Or.inl ⟨by rfl, ?_⟩) ?_ ?_
 rotate_left
 ·intro w'
  go_simp
  with_reducible rfl
 rotate_left
 ·simp only [Act.put, List.setIfInBounds_toArray, List.set_cons_zero, List.set_cons_succ, i64_w, i32_w]
  rfl
 refine take_ (i := 1) (N := some 11) (v := ?_) (a' := ?_) #[true, true, false, true, false, false, false, false] rfl rfl (take_ofW HT_.out HW_.out (by kernel_rfl)) (fun _ _ _ h => h) (Or.inl ⟨by rfl, ?_⟩) hHeld ?_ ?_
 rotate_left
 ·rintro w' ⟨s0, s1, s2⟩
  go_simp
  with_reducible rfl
 rotate_left
 ·simp only [Act.put, List.setIfInBounds_toArray, List.set_cons_zero, List.set_cons_succ, i64_w, i32_w]
  rfl
 refine take_ (i := 4) (N := some 14) (v := ?_) (a' := ?_) #[true, true, false, true, true, false, false, false] rfl rfl (take_ofW HT_.out HW_.out (by kernel_rfl)) (fun _ _ _ h => h) (Or.inl ⟨by rfl, ?_⟩) hHeld ?_ ?_
 rotate_left
 ·rintro w' ⟨s0, s1, s2⟩
  go_simp
  with_reducible rfl
 rotate_left
 ·simp only [Act.put, List.setIfInBounds_toArray, List.set_cons_zero, List.set_cons_succ, i64_w, i32_w]
  rfl
 refine join_ (σ := Value × Value) 1 #[true, true, true, true, true, true, true, false] (fun s_ => [(12, s_.1), (15, s_.2), (6, s_.1)]) (fun s_ w' => (w'.cell? ⟨gb1077, 0, none⟩ = some (.int .i64 a0_0) ∧ w'.cell? ⟨gb1077, 1, none⟩ = some (.int .i64 a0_1) ∧ w'.cell? ⟨gb1077, 2, none⟩ = some (.slice A0_2 l0_2.length c0_2)) ∧ (Kd.R (Kd.int .i64) 3 w' w.heap.size (fun k_ => some k_ ≠ (s_.2 : Value).ownBlock) s_.1 y1078) ∧ (Kd.R (Kd.int .i64) 3 w' w.heap.size (fun k_ => some k_ ≠ (s_.1 : Value).ownBlock) s_.2 y1081) ∧ (w'.heap[gb1077]? = some (.cells #[.int .i64 a0_0, .int .i64 a0_1, .slice A0_2 l0_2.length c0_2] 30 (0, 0))) ∧ (Below w.heap.size w w')) ?_ ?_
 rotate_left
 ·intro hCont
  refine two_ (i := 2) (j := 5) (Ni := some 12) (Nj := some 15) #[true, true, true, true, true, false, false, false] #[true, true, false, true, true, true, false, false] rfl rfl rfl rfl (two_of HT_.out (by kernel_rfl)) (by decide) (by decide) (fun K hK => ?_) (fun K hK => ?_)
  ·skip
   refine Kd.R_make_step (Kd.int .i64) _ 3 (by rfl) (N := 12) rfl 22 _ _ rfl a0_1 rfl rfl Try.underlying22 (.int .i64 0) 8 info3 rfl (by decide) (by omega) 0 (ok := fun _ => True) (okp := fun _ => True) rfl (fun _ hk => hk) trivial (of_decide_eq_true zap3) (Nat.le_trans (Nat.mul_le_mul_right _ (of_decide_eq_true zap3 : a0_1.toNat ≤ 35184372088832)) (by omega)) (Below.refl _ _) (Nat.le_refl _) ?_
   intro v1079 w9 ho10 hb hg_ hnew_
   clear hg_ hnew_
   (first | rw [← Ny1078.out] at ho10 | (simp only [Int.reduceToNat] at ho10; rw [← Ny1078.out] at ho10))
   have n0_ := Aside0.mk (Kd.R_lower ho10 (below_size zap1))
   have n1_ := Aside0.mk (blk_below (g := gb1077) (o := .cells #[.int .i64 a0_0, .int .i64 a0_1, .slice A0_2 l0_2.length c0_2] 30 (0, 0)) zap2 hb)
   have n2_ := Aside0.mk (below_step zap1 hb)
   clear BK1077
   clear HB
   have HO1080 := n0_
   have BK1077 := n1_
   have HB := n2_
   clear n0_ n1_ n2_
   clear hb ho10
   refine hK.out _ _ ⟨(blk_cell BK1077.out 0).trans rfl, (blk_cell BK1077.out 1).trans rfl, (blk_cell BK1077.out 2).trans rfl⟩ (fun hHeld => ?_)
   clear hK K
   refine norm_ (a' := ?_) ?_ ?_
   rotate_left
   ·show Act.put _ (some 12) _ = _
    simp only [Act.put, List.setIfInBounds_toArray, List.set_cons_zero, List.set_cons_succ, i64_w, i32_w]
    rfl
   refine pure_ (i := 6) (N := some 6) (v := ?_) (a' := ?_) #[true, true, true, true, true, false, true, false] rfl rfl (any_of HT_.out (by kernel_rfl)) (fun _ _ _ h => h) (Or.inl ⟨by rfl, ?_⟩) ?_ ?_
   rotate_left
   ·intro w'
    go_simp
    with_reducible rfl
   rotate_left
   ·simp only [Act.put, List.setIfInBounds_toArray, List.set_cons_zero, List.set_cons_succ, i64_w, i32_w]
    rfl
   refine one_ (i := 5) (N := some 15) #[true, true, true, true, true, true, true, false] rfl rfl (one_of HT_.out (by kernel_rfl)) (by decide) (fun K hK => ?_)
   refine Kd.R_make_step (Kd.int .i64) _ 3 (by rfl) (N := 15) rfl 22 _ _ rfl a0_0 rfl rfl Try.underlying22 (.int .i64 0) 8 info3 rfl (by decide) (by omega) 0 (ok := fun _ => True) (okp := fun _ => True) rfl (fun _ hk => hk) trivial (of_decide_eq_true zap3) (Nat.le_trans (Nat.mul_le_mul_right _ (of_decide_eq_true zap3 : a0_0.toNat ≤ 35184372088832)) (by omega)) (Below.refl _ _) (Nat.le_refl _) ?_
   intro v1082 w11 ho12 hb hg_ hnew_
   clear hg_ hnew_
   (first | rw [← Ny1081.out] at ho12 | (simp only [Int.reduceToNat] at ho12; rw [← Ny1081.out] at ho12))
   have n0_ := Aside0.mk (Kd.R_elder' zap7 (Kd.R_base ho12) hb)
   have n1_ := Aside0.mk (Kd.R_lower (Kd.R_new' ho12 (Kd.R_lt zap7)) (below_size zap1))
   have n2_ := Aside0.mk (blk_below (g := gb1077) (o := .cells #[.int .i64 a0_0, .int .i64 a0_1, .slice A0_2 l0_2.length c0_2] 30 (0, 0)) zap2 hb)
   have n3_ := Aside0.mk (below_step zap1 hb)
   clear HO1080
   clear BK1077
   clear HB
   have HO1080 := n0_
   have HO1083 := n1_
   have BK1077 := n2_
   have HB := n3_
   clear n0_ n1_ n2_ n3_
   clear hb ho12
   refine hK.out _ _ ⟨(blk_cell BK1077.out 0).trans rfl, (blk_cell BK1077.out 1).trans rfl, (blk_cell BK1077.out 2).trans rfl⟩ (fun hHeld => ?_)
   clear hK K
   refine norm_ (a' := ?_) ?_ ?_
   rotate_left
   ·show Act.put _ (some 15) _ = _
    simp only [Act.put, List.setIfInBounds_toArray, List.set_cons_zero, List.set_cons_succ, i64_w, i32_w]
    rfl
   exact norm_ zap8 (hCont (v1079, v1082) _ ⟨hHeld, zap10, zap9, zap2, zap1⟩)
  skip
  refine Kd.R_make_step (Kd.int .i64) _ 3 (by rfl) (N := 15) rfl 22 _ _ rfl a0_0 rfl rfl Try.underlying22 (.int .i64 0) 8 info3 rfl (by decide) (by omega) 0 (ok := fun _ => True) (okp := fun _ => True) rfl (fun _ hk => hk) trivial (of_decide_eq_true zap3) (Nat.le_trans (Nat.mul_le_mul_right _ (of_decide_eq_true zap3 : a0_0.toNat ≤ 35184372088832)) (by omega)) (Below.refl _ _) (Nat.le_refl _) ?_
  intro v1082 w9 ho10 hb hg_ hnew_
  clear hg_ hnew_
  (first | rw [← Ny1081.out] at ho10 | (simp only [Int.reduceToNat] at ho10; rw [← Ny1081.out] at ho10))
  have n0_ := Aside0.mk (Kd.R_lower ho10 (below_size zap1))
  have n1_ := Aside0.mk (blk_below (g := gb1077) (o := .cells #[.int .i64 a0_0, .int .i64 a0_1, .slice A0_2 l0_2.length c0_2] 30 (0, 0)) zap2 hb)
  have n2_ := Aside0.mk (below_step zap1 hb)
  clear BK1077
  clear HB
  have HO1083 := n0_
  have BK1077 := n1_
  have HB := n2_
  clear n0_ n1_ n2_
  clear hb ho10
  refine hK.out _ _ ⟨(blk_cell BK1077.out 0).trans rfl, (blk_cell BK1077.out 1).trans rfl, (blk_cell BK1077.out 2).trans rfl⟩ (fun hHeld => ?_)
  clear hK K
  refine norm_ (a' := ?_) ?_ ?_
  rotate_left
  ·show Act.put _ (some 15) _ = _
   simp only [Act.put, List.setIfInBounds_toArray, List.set_cons_zero, List.set_cons_succ, i64_w, i32_w]
   rfl
  refine one_ (i := 2) (N := some 12) #[true, true, true, true, true, true, false, false] rfl rfl (one_of HT_.out (by kernel_rfl)) (by decide) (fun K hK => ?_)
  refine Kd.R_make_step (Kd.int .i64) _ 3 (by rfl) (N := 12) rfl 22 _ _ rfl a0_1 rfl rfl Try.underlying22 (.int .i64 0) 8 info3 rfl (by decide) (by omega) 0 (ok := fun _ => True) (okp := fun _ => True) rfl (fun _ hk => hk) trivial (of_decide_eq_true zap3) (Nat.le_trans (Nat.mul_le_mul_right _ (of_decide_eq_true zap3 : a0_1.toNat ≤ 35184372088832)) (by omega)) (Below.refl _ _) (Nat.le_refl _) ?_
  intro v1079 w11 ho12 hb hg_ hnew_
  clear hg_ hnew_
  (first | rw [← Ny1078.out] at ho12 | (simp only [Int.reduceToNat] at ho12; rw [← Ny1078.out] at ho12))
  have n0_ := Aside0.mk (Kd.R_elder' zap6 (Kd.R_base ho12) hb)
  have n1_ := Aside0.mk (Kd.R_lower (Kd.R_new' ho12 (Kd.R_lt zap6)) (below_size zap1))
  have n2_ := Aside0.mk (blk_below (g := gb1077) (o := .cells #[.int .i64 a0_0, .int .i64 a0_1, .slice A0_2 l0_2.length c0_2] 30 (0, 0)) zap2 hb)
  have n3_ := Aside0.mk (below_step zap1 hb)
  clear HO1083
  clear BK1077
  clear HB
  have HO1083 := n0_
  have HO1080 := n1_
  have BK1077 := n2_
  have HB := n3_
  clear n0_ n1_ n2_ n3_
  clear hb ho12
  refine hK.out _ _ ⟨(blk_cell BK1077.out 0).trans rfl, (blk_cell BK1077.out 1).trans rfl, (blk_cell BK1077.out 2).trans rfl⟩ (fun hHeld => ?_)
  clear hK K
  refine norm_ (a' := ?_) ?_ ?_
  rotate_left
  ·show Act.put _ (some 12) _ = _
   simp only [Act.put, List.setIfInBounds_toArray, List.set_cons_zero, List.set_cons_succ, i64_w, i32_w]
   rfl
  refine pure_ (i := 6) (N := some 6) (v := ?_) (a' := ?_) #[true, true, true, true, true, true, true, false] rfl rfl (any_of HT_.out (by kernel_rfl)) (fun _ _ _ h => h) (Or.inl ⟨by rfl, ?_⟩) ?_ ?_
  rotate_left
  ·intro w'
   go_simp
   with_reducible rfl
  rotate_left
  ·simp only [Act.put, List.setIfInBounds_toArray, List.set_cons_zero, List.set_cons_succ, i64_w, i32_w]
   rfl
  exact norm_ zap8 (hCont (v1079, v1082) _ ⟨hHeld, zap10, zap9, zap2, zap1⟩)
 rintro ⟨v1079, v1082⟩ w13 ⟨hS_, h0_, h1_, h2_, h3_⟩
 have n0_ : Aside0 (Kd.R (Kd.int .i64) 3 w13 w.heap.size (fun k_ => some k_ ≠ (v1082 : Value).ownBlock) v1079 y1078) := ⟨h0_⟩
 have n1_ : Aside0 (Kd.R (Kd.int .i64) 3 w13 w.heap.size (fun k_ => some k_ ≠ (v1079 : Value).ownBlock) v1082 y1081) := ⟨h1_⟩
 have n2_ : Aside0 (w13.heap[gb1077]? = some (.cells #[.int .i64 a0_0, .int .i64 a0_1, .slice A0_2 l0_2.length c0_2] 30 (0, 0))) := ⟨h2_⟩
 have n3_ : Aside0 (Below w.heap.size w w13) := ⟨h3_⟩
 clear BK1077
 clear HB
 clear h0_ h1_ h2_ h3_
 have HO1080 := n0_
 have HO1083 := n1_
 have BK1077 := n2_
 have HB := n3_
 clear n0_ n1_ n2_ n3_
 have hHeld : w13.cell? ⟨gb1077, 0, none⟩ = some (.int .i64 a0_0) ∧ w13.cell? ⟨gb1077, 1, none⟩ = some (.int .i64 a0_1) ∧ w13.cell? ⟨gb1077, 2, none⟩ = some (.slice A0_2 l0_2.length c0_2) := hS_
 refine norm_ (a' := ?_) ?_ ?_
 rotate_left
 ·simp only [putAll, Act.put, List.setIfInBounds_toArray, List.set_cons_zero, List.set_cons_succ]
  rfl
 refine pure_ (i := 7) (N := some 7) (v := ?_) (a' := ?_) #[true, true, true, true, true, true, true, true] rfl rfl (any_of HT_.out (by kernel_rfl)) (fun _ _ _ h => h) (Or.inl ⟨by rfl, ?_⟩) ?_ ?_
 rotate_left
 ·intro w'
  go_simp
  with_reducible rfl
 rotate_left
 ·simp only [Act.put, List.setIfInBounds_toArray, List.set_cons_zero, List.set_cons_succ, i64_w, i32_w]
  rfl
 refine done_ (done_of HT_.out (by kernel_rfl)) ?_
 try go_wp2
 go_loopg [18] k (fun kq v18 w' => ∃ (x6_1 : List Int) (x7_1 : List Int) (x18_1 : Int), v18 = .int .i64 x18_1 ∧ Aside0 (impl_Board_sums.l0 kq x6_1 x7_1 l1 (l1.length : Int) x18_1 a0_0 a0_1 l0_2 = some (r1, r2)) ∧ Aside0 (kq ≤ k) ∧ Aside0 (Kd.R (Kd.int .i64) 3 w' w.heap.size (fun k_ => some k_ ≠ (v1082 : Value).ownBlock) v1079 x6_1) ∧ Aside0 (Kd.R (Kd.int .i64) 3 w' w.heap.size (fun k_ => some k_ ≠ (v1079 : Value).ownBlock) v1082 x7_1) ∧ Aside0 (w'.heap[gb1077]? = some (.cells #[.int .i64 a0_0, .int .i64 a0_1, (.slice A0_2 l0_2.length c0_2)] 30 (0, 0))) ∧ Aside0 (Below w.heap.size w w'))
 case atStart => exact ⟨(y1078), (y1081), (0), (by first | rfl | (simp; done) | (simp [*]; done)), H', ⟨Nat.le_refl _⟩, ⟨zap7⟩, ⟨zap6⟩, ⟨zap2⟩, ⟨zap1⟩⟩
 case round =>
  clear H'
  try clear c1; try clear p2; try clear c3; try clear c3b0; try clear c3b1; try clear c4; try clear c4b0; try clear c4b1; try clear c5; try clear c5b0; try clear c5b1; try clear c6; try clear c6b0; try clear c6b1; try clear c8
  obtain ⟨x6_1, x7_1, x18_1, rfl, HA, HK1, HO_6, HO_7, BK1077, HB⟩ := hrel
  cases gk with
  | zero => exact absurd HA.out (by simp [impl_Board_sums.l0])
  | succ k1 =>
   have H := HA.out
   clear HA
   simp only [impl_Board_sums.l0] at H
   by_cases c14 : x18_1 < (l1.length : Int)
   rotate_left
   ·rw [if_neg c14] at H
    have c14b0 : decide (x18_1 < (l1.length : Int)) = false := decide_eq_false c14
    clear c14
    simp only [Option.some.injEq, Prod.mk.injEq] at H
    obtain ⟨rfl, rfl⟩ := H
    go_wp2
    go_ret2
    exact ⟨_, _, by first | rfl | (simp [errW_none, errW_some] <;> rfl) | (simp [*, errW_none, errW_some] <;> rfl), by (with_reducible repeat (first | apply Kd.R_alloc | apply Kd.R_drewN | apply Kd.R_drew)); exact HO_6.out, by (with_reducible repeat (first | apply Kd.R_alloc | apply Kd.R_drewN | apply Kd.R_drew)); exact HO_7.out, zap1⟩
   rw [if_pos c14] at H
   have c14b0 : decide (x18_1 < (l1.length : Int)) = true := decide_eq_true c14
   clear c14
   by_cases c15 : 0 ≤ x18_1
   rotate_left
   ·rw [if_neg c15] at H
    exact absurd H (by simp)
   rw [if_pos c15] at H
   have c15b0 : decide (0 ≤ x18_1) = true := decide_eq_true c15
   clear c15
   by_cases c16 : x18_1 < (l1.length : Int)
   rotate_left
   ·rw [if_neg c16] at H
    exact absurd H (by simp)
   rw [if_pos c16] at H
   have c16b0 : decide (x18_1 < (l1.length : Int)) = true := decide_eq_true c16
   clear c16
   by_cases c17 : a0_0 = 0
   ·rw [if_pos c17] at H
    exact absurd H (by simp)
   rw [if_neg c17] at H
   have c17b0 : (a0_0 == 0) = false := beq_eq_false_iff_ne.mpr c17
   have c17b1 : (a0_0 != 0) = true := bne_iff_ne.mpr c17
   obtain ⟨ji18, hji18⟩ : ∃ j_ : Int, (wrap64 (Int.tdiv (rd l1 x18_1) a0_0)) = j_ := ⟨_, rfl⟩
   replace H : (if 0 ≤ (ji18) then (if (ji18) < (x6_1.length : Int) then (if 0 ≤ (Int.tmod (rd l1 x18_1) a0_0) then (if (Int.tmod (rd l1 x18_1) a0_0) < (x7_1.length : Int) then (impl_Board_sums.l0 k1 (x6_1.set ((ji18) : Int).toNat (wrap64 ((rd x6_1 (ji18)) + (wrap64 (x18_1 + 1))))) (x7_1.set ((Int.tmod (rd l1 x18_1) a0_0) : Int).toNat (wrap64 ((rd x7_1 (Int.tmod (rd l1 x18_1) a0_0)) + (wrap64 (x18_1 + 1))))) l1 (l1.length : Int) (wrap64 (x18_1 + 1)) a0_0 a0_1 l0_2) else (none)) else (none)) else (none)) else (none)) = some (r1, r2) := by first | (rw [hji18] at H; exact H) | (simp only [hji18] at H ⊢; exact H)
   have hji18w : (IntKind.i64.wrap (Int.tdiv (rd l1 x18_1) a0_0)) = ji18 := (i64_w _).trans hji18
   by_cases c19 : 0 ≤ (ji18)
   rotate_left
   ·rw [if_neg c19] at H
    exact absurd H (by simp)
   rw [if_pos c19] at H
   have c19b0 : decide (0 ≤ (ji18)) = true := decide_eq_true c19
   clear c19
   by_cases c20 : (ji18) < (x6_1.length : Int)
   rotate_left
   ·rw [if_neg c20] at H
    exact absurd H (by simp)
   rw [if_pos c20] at H
   have c20b0 : decide ((ji18) < (x6_1.length : Int)) = true := decide_eq_true c20
   clear c20
   obtain ⟨y1086, hy1086⟩ : ∃ y_ : List Int, y_ = (x6_1.set ((ji18) : Int).toNat (wrap64 ((rd x6_1 (ji18)) + (wrap64 (x18_1 + 1))))) := ⟨_, rfl⟩
   replace H : (if 0 ≤ (Int.tmod (rd l1 x18_1) a0_0) then (if (Int.tmod (rd l1 x18_1) a0_0) < (x7_1.length : Int) then (impl_Board_sums.l0 k1 y1086 (x7_1.set ((Int.tmod (rd l1 x18_1) a0_0) : Int).toNat (wrap64 ((rd x7_1 (Int.tmod (rd l1 x18_1) a0_0)) + (wrap64 (x18_1 + 1))))) l1 (l1.length : Int) (wrap64 (x18_1 + 1)) a0_0 a0_1 l0_2) else (none)) else (none)) = some (r1, r2) := by first | (rw [hy1086]; with_reducible exact H) | (have H2_ := (Option.bind_some _ _).symm.trans H; rw [hy1086]; with_reducible exact H2_) | (have H2_ := (Option.bind_some _ _).symm.trans H; with_reducible exact H2_) | with_reducible exact H | (rw [hy1086]; exact H) | exact H
   have Ny1086 := Aside0.mk hy1086
   clear hy1086
   obtain ⟨ji22, hji22⟩ : ∃ j_ : Int, (Int.tmod (rd l1 x18_1) a0_0) = j_ := ⟨_, rfl⟩
   replace H : (if 0 ≤ (ji22) then (if (ji22) < (x7_1.length : Int) then (impl_Board_sums.l0 k1 y1086 (x7_1.set ((ji22) : Int).toNat (wrap64 ((rd x7_1 (ji22)) + (wrap64 (x18_1 + 1))))) l1 (l1.length : Int) (wrap64 (x18_1 + 1)) a0_0 a0_1 l0_2) else (none)) else (none)) = some (r1, r2) := by first | (rw [hji22] at H; exact H) | (simp only [hji22] at H ⊢; exact H)
   by_cases c23 : 0 ≤ (ji22)
   rotate_left
   ·rw [if_neg c23] at H
    exact absurd H (by simp)
   rw [if_pos c23] at H
   have c23b0 : decide (0 ≤ (ji22)) = true := decide_eq_true c23
   clear c23
   by_cases c24 : (ji22) < (x7_1.length : Int)
   rotate_left
   ·rw [if_neg c24] at H
    exact absurd H (by simp)
   rw [if_pos c24] at H
   have c24b0 : decide ((ji22) < (x7_1.length : Int)) = true := decide_eq_true c24
   clear c24
   obtain ⟨y1088, hy1088⟩ : ∃ y_ : List Int, y_ = (x7_1.set ((ji22) : Int).toNat (wrap64 ((rd x7_1 (ji22)) + (wrap64 (x18_1 + 1))))) := ⟨_, rfl⟩
   replace H : (impl_Board_sums.l0 k1 y1086 y1088 l1 (l1.length : Int) (wrap64 (x18_1 + 1)) a0_0 a0_1 l0_2) = some (r1, r2) := by first | (rw [hy1088]; with_reducible exact H) | (have H2_ := (Option.bind_some _ _).symm.trans H; rw [hy1088]; with_reducible exact H2_) | (have H2_ := (Option.bind_some _ _).symm.trans H; with_reducible exact H2_) | with_reducible exact H | (rw [hy1088]; exact H) | exact H
   have Ny1088 := Aside0.mk hy1088
   clear hy1088
   have H' := Aside0.mk H
   clear H
   have p1084 : 0 ≤ (x18_1 : Int) := of_decide_eq_true zap3
   have q1084 : x18_1 < (l1.length : Int) := of_decide_eq_true zap3
   obtain ⟨ad1084, e1084, hx1084_0⟩ := Kd.at_int HR1.out x18_1 p1084 q1084
   cases e1084
   (first | replace hx1084_0 := (HB.out.cell (World.block_lt_of_cell? w _ hx1084_0)).trans hx1084_0 | skip)
   replace p1084 := eq_true p1084
   replace q1084 := eq_true q1084
   have hcz26_0 : wr.cell? ⟨gb1077, 0, none⟩ = some (.int .i64 a0_0) := (blk_cell BK1077.out 0).trans rfl
   have hcz26_1 : wr.cell? ⟨gb1077, 1, none⟩ = some (.int .i64 a0_1) := (blk_cell BK1077.out 1).trans rfl
   have hcz26_2 : wr.cell? ⟨gb1077, 2, none⟩ = some (.slice A0_2 l0_2.length c0_2) := (blk_cell BK1077.out 2).trans rfl
   have hfz26_0 := blk_frozen BK1077.out 0
   have hfz26_1 := blk_frozen BK1077.out 1
   have hfz26_2 := blk_frozen BK1077.out 2
   obtain ⟨Ao27, co27, eo27⟩ := Kd.R_slice HO_6.out
   subst eo27
   have p1085 : 0 ≤ ((ji18) : Int) := of_decide_eq_true zap3
   have q1085 : (ji18) < (x6_1.length : Int) := of_decide_eq_true zap3
   obtain ⟨ad1085, e1085, hx1085_0⟩ := Kd.at_int (Kd.R_reads' HO_6.out).2.2 (ji18) p1085 q1085
   cases e1085
   replace p1085 := eq_true p1085
   replace q1085 := eq_true q1085
   have p21 : 0 ≤ ((ji18) : Int) := of_decide_eq_true zap3
   have q21 : ((ji18) : Int) < ((x6_1.length : Int) : Int) := of_decide_eq_true zap3
   obtain ⟨go21, co21, eo21, gb21, gl21, cl21, HG21⟩ := Kd.R_form HO_6.out (by omega)
   (first | cases eo21 | (injection eo21 with ea_ en_ ec_; (first | subst ea_ | (injection ea_ with ea_; subst ea_)); subst ec_; clear en_))
   have GB21 := Aside0.mk gb21
   have GG21 := Aside0.mk HG21
   clear gb21 gl21 HG21
   (try simp only [add_plain] at *)
   (first | simp only [add_plain] at hx1085_0 | skip)
   obtain ⟨hx21_0, hf21_0⟩ := Kd.R_celln 0 HO_6.out ((ji18) : Int) p21 q21
   replace p21 := eq_true p21
   replace q21 := eq_true q21
   have HP28 := Kd.R_putg HO_6.out ((ji18) : Int) (wrap64 ((rd x6_1 (ji18)) + (wrap64 (x18_1 + 1))))
   go_wp2_with (first | ((with_reducible refine gate_store (t := 3) (p := 33) rfl ?_); refine store_event (t := 3) (p := 33) (v := ?vo_w29) (w1 := (wr.setCell ⟨go21, ((ji18) : Int).toNat, none⟩ (.int .i64 (wrap64 ((rd x6_1 (ji18)) + (wrap64 (x18_1 + 1))))))) ?hg ?ho ?hn ?hr ?_; (case ho => rfl); (case hg => rfl); (case hn => rfl); (case hr => first | (go_simp; done) | (go_simp; rfl)); intro w29 hw; have hg : wr.grownBy w29 (some go21) := (by rw [hw]; exact HP28.2); have hp_ : Kd.R (Kd.int .i64) 3 w29 w.heap.size (fun k_ => some k_ ≠ (v1082 : Value).ownBlock) (.slice (some ⟨go21, 0, none⟩) x6_1.length co27) y1086 := (by rw [hw, Ny1086.out]; exact HP28.1); clear HP28; have n0_ := Aside0.mk (hp_); have n1_ := Aside0.mk (Kd.R_after (v := (.slice (some ⟨go21, 0, none⟩) x6_1.length co27)) (v1 := (.slice (some ⟨go21, 0, none⟩) x6_1.length co27)) (ok := (fun _ => True)) (by (with_reducible repeat (first | apply Kd.R_alloc | apply Kd.R_drewN | apply Kd.R_drew)); exact Kd.R_mono HO_7.out (fun _ hk => ⟨trivial, hk⟩)) hg (.inl rfl)); have n2_ := Aside0.mk (blk_grown (g := gb1077) (o := .cells #[.int .i64 a0_0, .int .i64 a0_1, .slice A0_2 l0_2.length c0_2] 30 (0, 0)) zap2 hg (Kd.R_ne HO_6.out BK1077.out (by decide))); have n3_ := Aside0.mk ((by rw [hw]; exact below_set (HB.out) GB21.out : Below w.heap.size w w29)); clear HO_6; clear HO_7; clear BK1077; clear HB; have HO_6 := n0_; have HO_7 := n1_; have BK1077 := n2_; have HB := n3_; clear n0_ n1_ n2_ n3_; clear hg hw hp_; have hcz30_0 : w29.cell? ⟨gb1077, 0, none⟩ = some (.int .i64 a0_0) := (blk_cell BK1077.out 0).trans rfl; have hcz30_1 : w29.cell? ⟨gb1077, 1, none⟩ = some (.int .i64 a0_1) := (blk_cell BK1077.out 1).trans rfl; have hcz30_2 : w29.cell? ⟨gb1077, 2, none⟩ = some (.slice A0_2 l0_2.length c0_2) := (blk_cell BK1077.out 2).trans rfl; have hfz30_0 := blk_frozen BK1077.out 0; have hfz30_1 := blk_frozen BK1077.out 1; have hfz30_2 := blk_frozen BK1077.out 2; obtain ⟨Ao31, co31, eo31⟩ := Kd.R_slice HO_7.out; subst eo31; have p1087 : 0 ≤ ((ji22) : Int) := of_decide_eq_true zap3; have q1087 : (ji22) < (x7_1.length : Int) := of_decide_eq_true zap3; obtain ⟨ad1087, e1087, hx1087_0⟩ := Kd.at_int (Kd.R_reads' HO_7.out).2.2 (ji22) p1087 q1087; cases e1087; replace p1087 := eq_true p1087; replace q1087 := eq_true q1087; have p25 : 0 ≤ ((ji22) : Int) := of_decide_eq_true zap3; have q25 : ((ji22) : Int) < ((x7_1.length : Int) : Int) := of_decide_eq_true zap3; obtain ⟨go25, co25, eo25, gb25, gl25, cl25, HG25⟩ := Kd.R_form HO_7.out (by omega); (first | cases eo25 | (injection eo25 with ea_ en_ ec_; (first | subst ea_ | (injection ea_ with ea_; subst ea_)); subst ec_; clear en_)); have GB25 := Aside0.mk gb25; have GG25 := Aside0.mk HG25; clear gb25 gl25 HG25; (try simp only [add_plain] at *); (first | simp only [add_plain] at hx1087_0 | skip); obtain ⟨hx25_0, hf25_0⟩ := Kd.R_celln 0 HO_7.out ((ji22) : Int) p25 q25; replace p25 := eq_true p25; replace q25 := eq_true q25; have n_ := Aside0.mk (Kd.R_mono (ok' := (fun k_ => some k_ ≠ (.slice (some ⟨go21, 0, none⟩) x6_1.length co27 : Value).ownBlock)) HO_7.out (fun k_ hk => hk.2)); clear HO_7; have HO_7 := n_; clear n_; obtain ⟨hy32_, hz32_⟩ := Kd.R_celln 0 HO_7.out ((ji22) : Int) (of_decide_eq_true zap3) (of_decide_eq_true zap3); have HP32 := Kd.R_putg HO_7.out ((ji22) : Int) (wrap64 ((rd x7_1 (ji22)) + (wrap64 (x18_1 + 1))))) | ((with_reducible refine gate_store (t := 3) (p := 44) rfl ?_); refine store_event (t := 3) (p := 44) (v := ?vo_w33) (w1 := (w29.setCell ⟨go25, ((ji22) : Int).toNat, none⟩ (.int .i64 (wrap64 ((rd x7_1 (ji22)) + (wrap64 (x18_1 + 1))))))) ?hg ?ho ?hn ?hr ?_; (case ho => rfl); (case hg => rfl); (case hn => rfl); (case hr => first | (go_simp; done) | (go_simp; rfl)); intro w33 hw; have hg : w29.grownBy w33 (some go25) := (by rw [hw]; exact HP32.2); have hp_ : Kd.R (Kd.int .i64) 3 w33 w.heap.size (fun k_ => some k_ ≠ (.slice (some ⟨go21, 0, none⟩) x6_1.length co27 : Value).ownBlock) (.slice (some ⟨go25, 0, none⟩) x7_1.length co31) y1088 := (by rw [hw, Ny1088.out]; exact HP32.1); clear HP32; have n0_ := Aside0.mk (Kd.R_after (v := (.slice (some ⟨go25, 0, none⟩) x7_1.length co31)) (v1 := (.slice (some ⟨go25, 0, none⟩) x7_1.length co31)) (ok := (fun _ => True)) (by (with_reducible repeat (first | apply Kd.R_alloc | apply Kd.R_drewN | apply Kd.R_drew)); exact Kd.R_mono HO_6.out (fun _ hk => ⟨trivial, hk⟩)) hg (.inl rfl)); have n1_ := Aside0.mk (hp_); have n2_ := Aside0.mk (blk_grown (g := gb1077) (o := .cells #[.int .i64 a0_0, .int .i64 a0_1, .slice A0_2 l0_2.length c0_2] 30 (0, 0)) zap2 hg (Kd.R_ne HO_7.out BK1077.out (by decide))); have n3_ := Aside0.mk ((by rw [hw]; exact below_set (HB.out) GB25.out : Below w.heap.size w w33)); clear HO_6; clear HO_7; clear BK1077; clear HB; have HO_6 := n0_; have HO_7 := n1_; have BK1077 := n2_; have HB := n3_; clear n0_ n1_ n2_ n3_; clear hg hw hp_))
   go_roundg k1
   case measure => have := HK1.out; omega
   case rel => exact ⟨(y1086), (y1088), (wrap64 (x18_1 + 1)), (by first | rfl | (simp; done) | (simp [*]; done)), H', ⟨by have := HK1.out; omega⟩, ⟨by (with_reducible repeat (first | apply Kd.R_alloc | apply Kd.R_drewN | apply Kd.R_drew)); exact Kd.R_mono HO_6.out (fun _ hk => hk.2)⟩, ⟨by (with_reducible repeat (first | apply Kd.R_alloc | apply Kd.R_drewN | apply Kd.R_drew)); exact HO_7.out⟩, ⟨zap2⟩, ⟨zap1⟩⟩

end Go.Proofs.Ythoklbeenjppbaa.Q

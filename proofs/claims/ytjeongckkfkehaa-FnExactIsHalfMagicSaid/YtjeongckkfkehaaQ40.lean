/- Written by a program of this session: functions of the translation as plain Lean functions, each with a proof that the call does what the plain function says; the conditions stand in each theorem. -/
import Derived.Test.YtjeongckkfkehaaQ0
import Derived.Test.YtjeongckkfkehaaQ19
import Derived.Test.YtjeongckkfkehaaQ38
import Derived.Test.YtjeongckkfkehaaHSort
namespace Go.Proofs.Ytjeongckkfkehaa.Q
open Go.RowKit Go.Proofs.YtjeongckkfkehaaW.PrintWords Go.Proofs.YtjeongckkfkehaaW.PrintLast Go.Proofs.YtjeongckkfkehaaW.PrintMore
attribute [local go_sem] max2_int min2_int max_two min_two max_three min_three max_four min_four   -- for this text's walks alone
set_option linter.unusedVariables false
set_option linter.unusedSimpArgs false

theorem zao1 {p : Prop} (h : p := by repeat (first | (with_reducible first | exact HB.out | apply below_alloc | apply pw_below_drewN | apply below_drew1 | refine below_set ?_ GE1152.out | refine below_set ?_ GE1153.out) | exact HB.out)) : p := h
theorem zao2 {p : Prop} (h : p := by repeat (first | (with_reducible first | exact HB.out | apply below_alloc | apply pw_below_drewN | apply below_drew1 | refine below_set ?_ GE1152.out | refine below_set ?_ GE1153.out | refine below_set ?_ GE1160.out) | exact HB.out)) : p := h
theorem zao3 {p : Prop} (h : p := by (with_reducible repeat (first | refine blk_drewN ?_ _ | refine blk_drew ?_ | refine blk_alloc ?_ _)); exact BK1152.out) : p := h
theorem zao4 {p : Prop} (h : p := by repeat (first | (with_reducible first | exact HB.out | apply below_alloc | apply pw_below_drewN | apply below_drew1 | refine below_set ?_ GE1139.out) | exact HB.out)) : p := h
theorem zao5 {p : Prop} (h : p := by repeat (first | (with_reducible first | exact HB.out | apply below_alloc | apply pw_below_drewN | apply below_drew1) | exact HB.out)) : p := h
theorem zao6 {p : Prop} (h : p := by repeat (first | (with_reducible first | exact HB.out | apply below_alloc | apply pw_below_drewN | apply below_drew1 | refine below_set ?_ GE1152.out) | exact HB.out)) : p := h
theorem zao7 {p : Prop} (h : p := by (with_reducible repeat (first | refine blk_drewN ?_ _ | refine blk_drew ?_ | refine blk_alloc ?_ _)); exact BK1153.out) : p := h
theorem zao8 {p : Prop} (h : p := by repeat (first | exact (Kd.C_below HR0_2.out HB.out) | (with_reducible refine Kd.C_alloc ?_ _) | (with_reducible refine Kd.C_drewN ?_ _) | (with_reducible refine Kd.C_drew ?_))) : p := h
theorem zao9 {p : Prop} (h : p := by repeat (first | exact (Kd.C_below HR2.out HB.out) | (with_reducible refine Kd.C_alloc ?_ _) | (with_reducible refine Kd.C_drewN ?_ _) | (with_reducible refine Kd.C_drew ?_))) : p := h
theorem zao10 {p : Prop} (h : p := by (try simp only [List.map_toArray, List.map_cons, List.map_nil]); first | done | rfl | (simp only [List.length_drop, List.length_take]; rfl)) : p := h
theorem zao11 {p : Prop} (h : p := by (with_reducible repeat (first | apply Kd.R_alloc | apply Kd.R_drewN | apply Kd.R_drew)); exact HO1156.out) : p := h
theorem zao12 {p : Prop} (h : p := by (with_reducible repeat (first | refine blk_drewN ?_ _ | refine blk_drew ?_ | refine blk_alloc ?_ _)); exact BK1139.out) : p := h
theorem zao13 {p : Prop} (h : p := by (with_reducible repeat (first | refine blk_drewN ?_ _ | refine blk_drew ?_ | refine blk_alloc ?_ _)); exact BK1160.out) : p := h
theorem zao14 {p : Prop} (h : p := by first | (with_reducible assumption) | assumption) : p := h
theorem zao16 {p : Prop} (h : p := by (with_reducible repeat (first | apply Kd.S_alloc | apply Kd.S_drewN | apply Kd.S_drew)); exact HO1159.out) : p := h
theorem zao17 {p : Prop} (h : p := by repeat (first | exact (Kd.R_reads' HO1165.out).2.2 | (with_reducible refine Kd.C_alloc ?_ _) | (with_reducible refine Kd.C_drewN ?_ _) | (with_reducible refine Kd.C_drew ?_))) : p := h
theorem zao18 {p : Prop} (h : p := by first | rfl | (simp [errW_none, errW_some] <;> rfl) | (simp [*, errW_none, errW_some] <;> rfl)) : p := h
theorem zao19 {p : Prop} (h : p := by repeat (first | exact (Kd.S_reads' HO1159.out).2.2 | (with_reducible refine Kd.C_alloc ?_ _) | (with_reducible refine Kd.C_drewN ?_ _) | (with_reducible refine Kd.C_drew ?_))) : p := h
theorem zao20 {p : Prop} (h : p := by repeat (first | exact (Kd.R_reads' HO1156.out).2.2 | (with_reducible refine Kd.C_alloc ?_ _) | (with_reducible refine Kd.C_drewN ?_ _) | (with_reducible refine Kd.C_drew ?_))) : p := h
theorem zao21 {p : Prop} (h : p := by (with_reducible repeat (first | apply Kd.R_alloc | apply Kd.R_drewN | apply Kd.R_drew)); exact HO1168.out) : p := h
theorem zao22 {p : Prop} (h : p := by (with_reducible repeat (first | apply Kd.R_alloc | apply Kd.R_drewN | apply Kd.R_drew)); exact HO1165.out) : p := h
theorem zao23 {p : Prop} (h : p := by (with_reducible repeat (first | apply Kd.R_alloc | apply Kd.R_drewN | apply Kd.R_drew)); exact HO1145.out) : p := h
theorem zao24 {p : Prop} (h : p := by (with_reducible repeat (first | apply Kd.R_alloc | apply Kd.R_drewN | apply Kd.R_drew)); exact HO1142.out) : p := h
theorem zao25 {p : Prop} (h : p := by simp only [putAll, Act.put, List.setIfInBounds_toArray, List.set_cons_zero, List.set_cons_succ]) : p := h
theorem zao26 {p : Prop} (h : p := by repeat (first | exact (Kd.R_reads' HO1168.out).2.2 | (with_reducible refine Kd.C_alloc ?_ _) | (with_reducible refine Kd.C_drewN ?_ _) | (with_reducible refine Kd.C_drew ?_))) : p := h
theorem zao27 {p : Prop} (h : p := by (with_reducible repeat (first | apply Kd.R_alloc | apply Kd.R_drewN | apply Kd.R_drew)); exact Kd.R_mono HO1145.out (fun _ hk => hk.2)) : p := h
theorem zao28 {p : Prop} (h : p := by (with_reducible repeat (first | apply Kd.R_alloc | apply Kd.R_drewN | apply Kd.R_drew)); exact Kd.R_mono HO1142.out (fun _ hk => hk.2)) : p := h
theorem zao29 {p : Prop} (h : p := by rw [hg]; exact Nat.ne_of_lt (blk_lt (g := gb1152) (o := .cells #[.int .i64 a0_0, .int .i64 a0_1, .slice A0_2 l0_2.length c0_2] 30 (0, 0)) zao3)) : p := h
theorem zao30 {p : Prop} (h : p := by rw [hg]; exact Nat.ne_of_gt (blk_lt (g := gb1152) (o := .cells #[.int .i64 a0_0, .int .i64 a0_1, .slice A0_2 l0_2.length c0_2] 30 (0, 0)) zao3)) : p := h
theorem zao31 {p : Prop} (h : p := by rw [hg]; exact (below_size zao5)) : p := h
theorem zao32 {p : Prop} (h : p := by rw [hg]; exact (below_size zao6)) : p := h
/-! ### impl_Board_sums: function 81 -/
def impl_Board_sums.l0 : Nat → List Int → List Int → List Int → Int → Int → Int → Int → List Int → Option (List Int × List Int)
 | 0, _, _, _, _, _, _, _, _ => none
 | k + 1, x6, x7, x16, x17, x18, x1140000, x1140001, x1140002 => if x18 < x17 then (if 0 ≤ x18 then (if x18 < (x16.length : Int) then (if x1140000 = 0 then (none) else (if 0 ≤ (wrap64 (Int.tdiv (rd x16 x18) x1140000)) then (if (wrap64 (Int.tdiv (rd x16 x18) x1140000)) < (x6.length : Int) then (if 0 ≤ (Int.tmod (rd x16 x18) x1140000) then (if (Int.tmod (rd x16 x18) x1140000) < (x7.length : Int) then (impl_Board_sums.l0 k (x6.set ((wrap64 (Int.tdiv (rd x16 x18) x1140000)) : Int).toNat (wrap64 ((rd x6 (wrap64 (Int.tdiv (rd x16 x18) x1140000))) + (wrap64 (x18 + 1))))) (x7.set ((Int.tmod (rd x16 x18) x1140000) : Int).toNat (wrap64 ((rd x7 (Int.tmod (rd x16 x18) x1140000)) + (wrap64 (x18 + 1))))) x16 x17 (wrap64 (x18 + 1)) x1140000 x1140001 x1140002) else (none)) else (none)) else (none)) else (none))) else (none)) else (none)) else (some (x6, x7))
def impl_Board_sums.f (k : Nat) (a0_0 : Int) (a0_1 : Int) (l0_2 : List Int) (l1 : List Int) : Option (List Int × List Int) := if 0 ≤ a0_1 then (if (a0_1 : Int).toNat ≤ 35184372088832 then (if 0 ≤ a0_0 then (if (a0_0 : Int).toNat ≤ 35184372088832 then (impl_Board_sums.l0 k (List.replicate (a0_1 : Int).toNat 0) (List.replicate (a0_0 : Int).toNat 0) l1 (l1.length : Int) 0 a0_0 a0_1 l0_2) else (none)) else (none)) else (none)) else (none)
def impl_Board_sums.T1 : Bool × List (List Nat × List Nat) := (true, [([], []), ([0], [0]), ([1, 1], [1]), ([], []), ([3], [3]), ([4, 4], [4]), ([2, 0, 1, 2], [2]), ([5, 6, 0, 1, 2, 3, 4, 5, 6], [5])])
def impl_Board_sums.B1 : List Nat := [0, 1, 3, 0, 8, 24, 7, 127]
theorem impl_Board_sums.tab1 : rtab .any (opsOf Try.f81 1) = impl_Board_sums.T1 := by kernel_rfl
theorem impl_Board_sums.bits1 : waitsOk impl_Board_sums.T1.2 impl_Board_sums.B1 = true := by kernel_rfl
set_option maxHeartbeats 8000000 in
set_option maxRecDepth 100000 in
theorem impl_Board_sums.calls (k : Nat) (a0_0 : Int) (a0_1 : Int) (A0_2 : Option Addr) (c0_2 : Nat) (l0_2 : List Int) (A1 : Option Addr) (c1 : Nat) (l1 : List Int) (r1 : List Int) (r2 : List Int) (w : World) (hr0_2 : Kd.C (Kd.int .i64) w A0_2 l0_2.length l0_2) (hc0_2 : l0_2.length ≤ c0_2) (hr1 : Kd.C (Kd.int .i64) w A1 l1.length l1) (hc1 : l1.length ≤ c1) (h : impl_Board_sums.f k a0_0 a0_1 l0_2 l1 = some (r1, r2)) :
  Calls Try.prog 81 #[.agg #[.int .i64 a0_0, .int .i64 a0_1, .slice A0_2 l0_2.length c0_2], .slice A1 l1.length c1] w fun e w' => ∃ v0_ v1_ : Value, e = .returned (.tuple #[v0_, v1_]) ∧ Kd.R (Kd.int .i64) 3 w' w.heap.size (fun k_ => some k_ ≠ (v1_ : Value).ownBlock) v0_ r1 ∧ Kd.R (Kd.int .i64) 3 w' w.heap.size (fun k_ => some k_ ≠ (v0_ : Value).ownBlock) v1_ r2 ∧ Below w.heap.size w w' := by
 have hu30 := Try.underlying30
 have HR0_2 := Aside0.mk hr0_2
 have HC0_2 := Aside0.mk hc0_2
 clear hr0_2 hc0_2
 have HR1 := Aside0.mk hr1
 have HC1 := Aside0.mk hc1
 clear hr1 hc1
 have HB := Aside0.mk (Below.refl w.heap.size w)
 have H : (if 0 ≤ a0_1 then (if (a0_1 : Int).toNat ≤ 35184372088832 then (if 0 ≤ a0_0 then (if (a0_0 : Int).toNat ≤ 35184372088832 then (impl_Board_sums.l0 k (List.replicate (a0_1 : Int).toNat 0) (List.replicate (a0_0 : Int).toNat 0) l1 (l1.length : Int) 0 a0_0 a0_1 l0_2) else (none)) else (none)) else (none)) else (none)) = some (r1, r2) := h
 clear h
 by_cases c3 : 0 ≤ a0_1
 rotate_left
 ·rw [if_neg c3] at H
  exact absurd H (by simp)
 rw [if_pos c3] at H
 have c3b0 := eq_true c3
 have c3b1 : decide (0 ≤ a0_1) = true := decide_eq_true c3
 clear c3
 by_cases c4 : (a0_1 : Int).toNat ≤ 35184372088832
 rotate_left
 ·rw [if_neg c4] at H
  exact absurd H (by simp)
 rw [if_pos c4] at H
 have c4b0 := eq_true c4
 have c4b1 : decide ((a0_1 : Int).toNat ≤ 35184372088832) = true := decide_eq_true c4
 clear c4
 obtain ⟨y1140, hy1140⟩ : ∃ y_ : List Int, y_ = (List.replicate (a0_1 : Int).toNat 0) := ⟨_, rfl⟩
 replace H : (if 0 ≤ a0_0 then (if (a0_0 : Int).toNat ≤ 35184372088832 then (impl_Board_sums.l0 k y1140 (List.replicate (a0_0 : Int).toNat 0) l1 (l1.length : Int) 0 a0_0 a0_1 l0_2) else (none)) else (none)) = some (r1, r2) := by first | (rw [hy1140]; with_reducible exact H) | (have H2_ := (Option.bind_some _ _).symm.trans H; rw [hy1140]; with_reducible exact H2_) | (have H2_ := (Option.bind_some _ _).symm.trans H; with_reducible exact H2_) | with_reducible exact H | (rw [hy1140]; exact H) | exact H
 have Ny1140 := Aside0.mk hy1140
 clear hy1140
 by_cases c5 : 0 ≤ a0_0
 rotate_left
 ·rw [if_neg c5] at H
  exact absurd H (by simp)
 rw [if_pos c5] at H
 have c5b0 := eq_true c5
 have c5b1 : decide (0 ≤ a0_0) = true := decide_eq_true c5
 clear c5
 by_cases c6 : (a0_0 : Int).toNat ≤ 35184372088832
 rotate_left
 ·rw [if_neg c6] at H
  exact absurd H (by simp)
 rw [if_pos c6] at H
 have c6b0 := eq_true c6
 have c6b1 : decide ((a0_0 : Int).toNat ≤ 35184372088832) = true := decide_eq_true c6
 clear c6
 obtain ⟨y1143, hy1143⟩ : ∃ y_ : List Int, y_ = (List.replicate (a0_0 : Int).toNat 0) := ⟨_, rfl⟩
 replace H : (impl_Board_sums.l0 k y1140 y1143 l1 (l1.length : Int) 0 a0_0 a0_1 l0_2) = some (r1, r2) := by first | (rw [hy1143]; with_reducible exact H) | (have H2_ := (Option.bind_some _ _).symm.trans H; rw [hy1143]; with_reducible exact H2_) | (have H2_ := (Option.bind_some _ _).symm.trans H; with_reducible exact H2_) | with_reducible exact H | (rw [hy1143]; exact H) | exact H
 have Ny1143 := Aside0.mk hy1143
 clear hy1143
 have H' := Aside0.mk H
 clear H
 go_enter Try.func81, Try.ntmps81
 try go_wp2_with (first | ((with_reducible refine gate_dst (N := 2) rfl ?_); refine box_event ?hg (N := 2) ?hd (cs := #[.int .i64 a0_0, .int .i64 a0_1, .slice A0_2 l0_2.length c0_2]) (t := 30) ?hr ?_; (case hd => rfl); (case hg => rfl); (case hr => first | (go_simp; done) | (go_simp; rfl)); intro gb1139 hg w7 hbox hb; have n0_ := Aside0.mk (below_step zao5 hb); have n1_ := Aside0.mk (hbox); have n2_ := Aside0.mk ((zao31 : w.heap.size ≤ gb1139)); have n3_ := Aside0.mk ((zao31 : w.heap.size ≤ gb1139)); clear HB; have HB := n0_; have BK1139 := n1_; have GW1139 := n2_; have GE1139 := n3_; clear n0_ n1_ n2_ n3_; clear hb hbox hg))
 have n0_ := Aside0.mk (blk_drew BK1139.out)
 have n1_ := Aside0.mk (below_drew1 HB.out)
 clear BK1139
 clear HB
 have BK1139 := n0_
 have HB := n1_
 clear n0_ n1_
 refine start_ (n := 8) (S := fun w' => w'.cell? ⟨gb1139, 0, none⟩ = some (.int .i64 a0_0) ∧ w'.cell? ⟨gb1139, 1, none⟩ = some (.int .i64 a0_1) ∧ w'.cell? ⟨gb1139, 2, none⟩ = some (.slice A0_2 l0_2.length c0_2)) (ds := []) #[false, false, false, false, false, false, false, false] (by kernel_rfl) rfl rfl ⟨(blk_cell BK1139.out 0).trans rfl, (blk_cell BK1139.out 1).trans rfl, (blk_cell BK1139.out 2).trans rfl⟩ (fun hHeld => ?_); refine with_tabW impl_Board_sums.tab1 impl_Board_sums.bits1 (fun HT_ HW_ => ?_)
 generalize w7.drew = w8 at BK1139 HB hHeld ⊢
 refine pure_ (i := 0) (N := some 10) (v := ?_) (a' := ?_) #[true, false, false, false, false, false, false, false] rfl rfl (any_of HT_.out (by kernel_rfl)) (fun _ _ _ h => h) (Or.inl ⟨by rfl, ?_⟩) ?_ ?_
 rotate_left
 ·intro w'
  go_simp
  with_reducible rfl
 rotate_left
 ·simp only [Act.put, List.setIfInBounds_toArray, List.set_cons_zero, List.set_cons_succ, i64_w, i32_w]
  rfl
 refine pure_ (i := 3) (N := some 13) (v := ?_) (a' := ?_) #[true, false, false, true, false, false, false, false] rfl rfl (any_of HT_.out (by kernel_rfl)) (fun _ _ _ h => h) (Or.inl ⟨by rfl, ?_⟩) ?_ ?_
 rotate_left
 ·intro w'
  go_simp
  with_reducible rfl
 rotate_left
 ·simp only [Act.put, List.setIfInBounds_toArray, List.set_cons_zero, List.set_cons_succ, i64_w, i32_w]
  rfl
 refine take_ (i := 1) (N := some 11) (v := ?_) (a' := ?_) #[true, true, false, true, false, false, false, false] rfl rfl (take_ofW HT_.out HW_.out (by kernel_rfl)) (fun _ _ _ h => h) (Or.inl ⟨by rfl, ?_⟩) hHeld ?_ ?_
 rotate_left
 ·rintro w' ⟨s0, s1, s2⟩
  go_simp
  with_reducible rfl
 rotate_left
 ·simp only [Act.put, List.setIfInBounds_toArray, List.set_cons_zero, List.set_cons_succ, i64_w, i32_w]
  rfl
 refine take_ (i := 4) (N := some 14) (v := ?_) (a' := ?_) #[true, true, false, true, true, false, false, false] rfl rfl (take_ofW HT_.out HW_.out (by kernel_rfl)) (fun _ _ _ h => h) (Or.inl ⟨by rfl, ?_⟩) hHeld ?_ ?_
 rotate_left
 ·rintro w' ⟨s0, s1, s2⟩
  go_simp
  with_reducible rfl
 rotate_left
 ·simp only [Act.put, List.setIfInBounds_toArray, List.set_cons_zero, List.set_cons_succ, i64_w, i32_w]
  rfl
 refine join_ (σ := Value × Value) 1 #[true, true, true, true, true, true, true, false] (fun s_ => [(12, s_.1), (15, s_.2), (6, s_.1)]) (fun s_ w' => (w'.cell? ⟨gb1139, 0, none⟩ = some (.int .i64 a0_0) ∧ w'.cell? ⟨gb1139, 1, none⟩ = some (.int .i64 a0_1) ∧ w'.cell? ⟨gb1139, 2, none⟩ = some (.slice A0_2 l0_2.length c0_2)) ∧ (Kd.R (Kd.int .i64) 3 w' w.heap.size (fun k_ => some k_ ≠ (s_.2 : Value).ownBlock) s_.1 y1140) ∧ (Kd.R (Kd.int .i64) 3 w' w.heap.size (fun k_ => some k_ ≠ (s_.1 : Value).ownBlock) s_.2 y1143) ∧ (w'.heap[gb1139]? = some (.cells #[.int .i64 a0_0, .int .i64 a0_1, .slice A0_2 l0_2.length c0_2] 30 (0, 0))) ∧ (Below w.heap.size w w')) ?_ ?_
 rotate_left
 ·intro hCont
  refine two_ (i := 2) (j := 5) (Ni := some 12) (Nj := some 15) #[true, true, true, true, true, false, false, false] #[true, true, false, true, true, true, false, false] rfl rfl rfl rfl (two_of HT_.out (by kernel_rfl)) (by decide) (by decide) (fun K hK => ?_) (fun K hK => ?_)
  ·skip
   refine Kd.R_make_step (Kd.int .i64) _ 3 (by rfl) (N := 12) rfl 22 _ _ rfl a0_1 rfl rfl Try.underlying22 (.int .i64 0) 8 info3 rfl (by decide) (by omega) 0 (ok := fun _ => True) (okp := fun _ => True) rfl (fun _ hk => hk) trivial (of_decide_eq_true zao14) (Nat.le_trans (Nat.mul_le_mul_right _ (of_decide_eq_true zao14 : a0_1.toNat ≤ 35184372088832)) (by omega)) (Below.refl _ _) (Nat.le_refl _) ?_
   intro v1141 w9 ho10 hb hg_ hnew_
   clear hg_ hnew_
   (first | rw [← Ny1140.out] at ho10 | (simp only [Int.reduceToNat] at ho10; rw [← Ny1140.out] at ho10))
   have n0_ := Aside0.mk (Kd.R_lower ho10 (below_size zao4))
   have n1_ := Aside0.mk (blk_below (g := gb1139) (o := .cells #[.int .i64 a0_0, .int .i64 a0_1, .slice A0_2 l0_2.length c0_2] 30 (0, 0)) zao12 hb)
   have n2_ := Aside0.mk (below_step zao4 hb)
   clear BK1139
   clear HB
   have HO1142 := n0_
   have BK1139 := n1_
   have HB := n2_
   clear n0_ n1_ n2_
   clear hb ho10
   refine hK.out _ _ ⟨(blk_cell BK1139.out 0).trans rfl, (blk_cell BK1139.out 1).trans rfl, (blk_cell BK1139.out 2).trans rfl⟩ (fun hHeld => ?_)
   clear hK K
   refine norm_ (a' := ?_) ?_ ?_
   rotate_left
   ·show Act.put _ (some 12) _ = _
    simp only [Act.put, List.setIfInBounds_toArray, List.set_cons_zero, List.set_cons_succ, i64_w, i32_w]
    rfl
   refine pure_ (i := 6) (N := some 6) (v := ?_) (a' := ?_) #[true, true, true, true, true, false, true, false] rfl rfl (any_of HT_.out (by kernel_rfl)) (fun _ _ _ h => h) (Or.inl ⟨by rfl, ?_⟩) ?_ ?_
   rotate_left
   ·intro w'
    go_simp
    with_reducible rfl
   rotate_left
   ·simp only [Act.put, List.setIfInBounds_toArray, List.set_cons_zero, List.set_cons_succ, i64_w, i32_w]
    rfl
   refine one_ (i := 5) (N := some 15) #[true, true, true, true, true, true, true, false] rfl rfl (one_of HT_.out (by kernel_rfl)) (by decide) (fun K hK => ?_)
   refine Kd.R_make_step (Kd.int .i64) _ 3 (by rfl) (N := 15) rfl 22 _ _ rfl a0_0 rfl rfl Try.underlying22 (.int .i64 0) 8 info3 rfl (by decide) (by omega) 0 (ok := fun _ => True) (okp := fun _ => True) rfl (fun _ hk => hk) trivial (of_decide_eq_true zao14) (Nat.le_trans (Nat.mul_le_mul_right _ (of_decide_eq_true zao14 : a0_0.toNat ≤ 35184372088832)) (by omega)) (Below.refl _ _) (Nat.le_refl _) ?_
   intro v1144 w11 ho12 hb hg_ hnew_
   clear hg_ hnew_
   (first | rw [← Ny1143.out] at ho12 | (simp only [Int.reduceToNat] at ho12; rw [← Ny1143.out] at ho12))
   have n0_ := Aside0.mk (Kd.R_elder' zao24 (Kd.R_base ho12) hb)
   have n1_ := Aside0.mk (Kd.R_lower (Kd.R_new' ho12 (Kd.R_lt zao24)) (below_size zao4))
   have n2_ := Aside0.mk (blk_below (g := gb1139) (o := .cells #[.int .i64 a0_0, .int .i64 a0_1, .slice A0_2 l0_2.length c0_2] 30 (0, 0)) zao12 hb)
   have n3_ := Aside0.mk (below_step zao4 hb)
   clear HO1142
   clear BK1139
   clear HB
   have HO1142 := n0_
   have HO1145 := n1_
   have BK1139 := n2_
   have HB := n3_
   clear n0_ n1_ n2_ n3_
   clear hb ho12
   refine hK.out _ _ ⟨(blk_cell BK1139.out 0).trans rfl, (blk_cell BK1139.out 1).trans rfl, (blk_cell BK1139.out 2).trans rfl⟩ (fun hHeld => ?_)
   clear hK K
   refine norm_ (a' := ?_) ?_ ?_
   rotate_left
   ·show Act.put _ (some 15) _ = _
    simp only [Act.put, List.setIfInBounds_toArray, List.set_cons_zero, List.set_cons_succ, i64_w, i32_w]
    rfl
   exact norm_ zao25 (hCont (v1141, v1144) _ ⟨hHeld, zao28, zao27, zao12, zao4⟩)
  skip
  refine Kd.R_make_step (Kd.int .i64) _ 3 (by rfl) (N := 15) rfl 22 _ _ rfl a0_0 rfl rfl Try.underlying22 (.int .i64 0) 8 info3 rfl (by decide) (by omega) 0 (ok := fun _ => True) (okp := fun _ => True) rfl (fun _ hk => hk) trivial (of_decide_eq_true zao14) (Nat.le_trans (Nat.mul_le_mul_right _ (of_decide_eq_true zao14 : a0_0.toNat ≤ 35184372088832)) (by omega)) (Below.refl _ _) (Nat.le_refl _) ?_
  intro v1144 w9 ho10 hb hg_ hnew_
  clear hg_ hnew_
  (first | rw [← Ny1143.out] at ho10 | (simp only [Int.reduceToNat] at ho10; rw [← Ny1143.out] at ho10))
  have n0_ := Aside0.mk (Kd.R_lower ho10 (below_size zao4))
  have n1_ := Aside0.mk (blk_below (g := gb1139) (o := .cells #[.int .i64 a0_0, .int .i64 a0_1, .slice A0_2 l0_2.length c0_2] 30 (0, 0)) zao12 hb)
  have n2_ := Aside0.mk (below_step zao4 hb)
  clear BK1139
  clear HB
  have HO1145 := n0_
  have BK1139 := n1_
  have HB := n2_
  clear n0_ n1_ n2_
  clear hb ho10
  refine hK.out _ _ ⟨(blk_cell BK1139.out 0).trans rfl, (blk_cell BK1139.out 1).trans rfl, (blk_cell BK1139.out 2).trans rfl⟩ (fun hHeld => ?_)
  clear hK K
  refine norm_ (a' := ?_) ?_ ?_
  rotate_left
  ·show Act.put _ (some 15) _ = _
   simp only [Act.put, List.setIfInBounds_toArray, List.set_cons_zero, List.set_cons_succ, i64_w, i32_w]
   rfl
  refine one_ (i := 2) (N := some 12) #[true, true, true, true, true, true, false, false] rfl rfl (one_of HT_.out (by kernel_rfl)) (by decide) (fun K hK => ?_)
  refine Kd.R_make_step (Kd.int .i64) _ 3 (by rfl) (N := 12) rfl 22 _ _ rfl a0_1 rfl rfl Try.underlying22 (.int .i64 0) 8 info3 rfl (by decide) (by omega) 0 (ok := fun _ => True) (okp := fun _ => True) rfl (fun _ hk => hk) trivial (of_decide_eq_true zao14) (Nat.le_trans (Nat.mul_le_mul_right _ (of_decide_eq_true zao14 : a0_1.toNat ≤ 35184372088832)) (by omega)) (Below.refl _ _) (Nat.le_refl _) ?_
  intro v1141 w11 ho12 hb hg_ hnew_
  clear hg_ hnew_
  (first | rw [← Ny1140.out] at ho12 | (simp only [Int.reduceToNat] at ho12; rw [← Ny1140.out] at ho12))
  have n0_ := Aside0.mk (Kd.R_elder' zao23 (Kd.R_base ho12) hb)
  have n1_ := Aside0.mk (Kd.R_lower (Kd.R_new' ho12 (Kd.R_lt zao23)) (below_size zao4))
  have n2_ := Aside0.mk (blk_below (g := gb1139) (o := .cells #[.int .i64 a0_0, .int .i64 a0_1, .slice A0_2 l0_2.length c0_2] 30 (0, 0)) zao12 hb)
  have n3_ := Aside0.mk (below_step zao4 hb)
  clear HO1145
  clear BK1139
  clear HB
  have HO1145 := n0_
  have HO1142 := n1_
  have BK1139 := n2_
  have HB := n3_
  clear n0_ n1_ n2_ n3_
  clear hb ho12
  refine hK.out _ _ ⟨(blk_cell BK1139.out 0).trans rfl, (blk_cell BK1139.out 1).trans rfl, (blk_cell BK1139.out 2).trans rfl⟩ (fun hHeld => ?_)
  clear hK K
  refine norm_ (a' := ?_) ?_ ?_
  rotate_left
  ·show Act.put _ (some 12) _ = _
   simp only [Act.put, List.setIfInBounds_toArray, List.set_cons_zero, List.set_cons_succ, i64_w, i32_w]
   rfl
  refine pure_ (i := 6) (N := some 6) (v := ?_) (a' := ?_) #[true, true, true, true, true, true, true, false] rfl rfl (any_of HT_.out (by kernel_rfl)) (fun _ _ _ h => h) (Or.inl ⟨by rfl, ?_⟩) ?_ ?_
  rotate_left
  ·intro w'
   go_simp
   with_reducible rfl
  rotate_left
  ·simp only [Act.put, List.setIfInBounds_toArray, List.set_cons_zero, List.set_cons_succ, i64_w, i32_w]
   rfl
  exact norm_ zao25 (hCont (v1141, v1144) _ ⟨hHeld, zao28, zao27, zao12, zao4⟩)
 rintro ⟨v1141, v1144⟩ w13 ⟨hS_, h0_, h1_, h2_, h3_⟩
 have n0_ : Aside0 (Kd.R (Kd.int .i64) 3 w13 w.heap.size (fun k_ => some k_ ≠ (v1144 : Value).ownBlock) v1141 y1140) := ⟨h0_⟩
 have n1_ : Aside0 (Kd.R (Kd.int .i64) 3 w13 w.heap.size (fun k_ => some k_ ≠ (v1141 : Value).ownBlock) v1144 y1143) := ⟨h1_⟩
 have n2_ : Aside0 (w13.heap[gb1139]? = some (.cells #[.int .i64 a0_0, .int .i64 a0_1, .slice A0_2 l0_2.length c0_2] 30 (0, 0))) := ⟨h2_⟩
 have n3_ : Aside0 (Below w.heap.size w w13) := ⟨h3_⟩
 clear BK1139
 clear HB
 clear h0_ h1_ h2_ h3_
 have HO1142 := n0_
 have HO1145 := n1_
 have BK1139 := n2_
 have HB := n3_
 clear n0_ n1_ n2_ n3_
 have hHeld : w13.cell? ⟨gb1139, 0, none⟩ = some (.int .i64 a0_0) ∧ w13.cell? ⟨gb1139, 1, none⟩ = some (.int .i64 a0_1) ∧ w13.cell? ⟨gb1139, 2, none⟩ = some (.slice A0_2 l0_2.length c0_2) := hS_
 refine norm_ (a' := ?_) ?_ ?_
 rotate_left
 ·simp only [putAll, Act.put, List.setIfInBounds_toArray, List.set_cons_zero, List.set_cons_succ]
  rfl
 refine pure_ (i := 7) (N := some 7) (v := ?_) (a' := ?_) #[true, true, true, true, true, true, true, true] rfl rfl (any_of HT_.out (by kernel_rfl)) (fun _ _ _ h => h) (Or.inl ⟨by rfl, ?_⟩) ?_ ?_
 rotate_left
 ·intro w'
  go_simp
  with_reducible rfl
 rotate_left
 ·simp only [Act.put, List.setIfInBounds_toArray, List.set_cons_zero, List.set_cons_succ, i64_w, i32_w]
  rfl
 refine done_ (done_of HT_.out (by kernel_rfl)) ?_
 try go_wp2
 go_loopg [18] k (fun kq v18 w' => ∃ (x6_1 : List Int) (x7_1 : List Int) (x18_1 : Int), v18 = .int .i64 x18_1 ∧ Aside0 (impl_Board_sums.l0 kq x6_1 x7_1 l1 (l1.length : Int) x18_1 a0_0 a0_1 l0_2 = some (r1, r2)) ∧ Aside0 (kq ≤ k) ∧ Aside0 (Kd.R (Kd.int .i64) 3 w' w.heap.size (fun k_ => some k_ ≠ (v1144 : Value).ownBlock) v1141 x6_1) ∧ Aside0 (Kd.R (Kd.int .i64) 3 w' w.heap.size (fun k_ => some k_ ≠ (v1141 : Value).ownBlock) v1144 x7_1) ∧ Aside0 (w'.heap[gb1139]? = some (.cells #[.int .i64 a0_0, .int .i64 a0_1, (.slice A0_2 l0_2.length c0_2)] 30 (0, 0))) ∧ Aside0 (Below w.heap.size w w'))
 case atStart => exact ⟨(y1140), (y1143), (0), (by first | rfl | (simp; done) | (simp [*]; done)), H', ⟨Nat.le_refl _⟩, ⟨zao24⟩, ⟨zao23⟩, ⟨zao12⟩, ⟨zao4⟩⟩
 case round =>
  clear H'
  try clear c1; try clear p2; try clear c3; try clear c3b0; try clear c3b1; try clear c4; try clear c4b0; try clear c4b1; try clear c5; try clear c5b0; try clear c5b1; try clear c6; try clear c6b0; try clear c6b1; try clear c8
  obtain ⟨x6_1, x7_1, x18_1, rfl, HA, HK1, HO_6, HO_7, BK1139, HB⟩ := hrel
  cases gk with
  | zero => exact absurd HA.out (by simp [impl_Board_sums.l0])
  | succ k1 =>
   have H := HA.out
   clear HA
   simp only [impl_Board_sums.l0] at H
   by_cases c14 : x18_1 < (l1.length : Int)
   rotate_left
   ·rw [if_neg c14] at H
    have c14b0 : decide (x18_1 < (l1.length : Int)) = false := decide_eq_false c14
    clear c14
    simp only [Option.some.injEq, Prod.mk.injEq] at H
    obtain ⟨rfl, rfl⟩ := H
    go_wp2
    go_ret2
    exact ⟨_, _, zao18, by (with_reducible repeat (first | apply Kd.R_alloc | apply Kd.R_drewN | apply Kd.R_drew)); exact HO_6.out, by (with_reducible repeat (first | apply Kd.R_alloc | apply Kd.R_drewN | apply Kd.R_drew)); exact HO_7.out, zao4⟩
   rw [if_pos c14] at H
   have c14b0 : decide (x18_1 < (l1.length : Int)) = true := decide_eq_true c14
   clear c14
   by_cases c15 : 0 ≤ x18_1
   rotate_left
   ·rw [if_neg c15] at H
    exact absurd H (by simp)
   rw [if_pos c15] at H
   have c15b0 : decide (0 ≤ x18_1) = true := decide_eq_true c15
   clear c15
   by_cases c16 : x18_1 < (l1.length : Int)
   rotate_left
   ·rw [if_neg c16] at H
    exact absurd H (by simp)
   rw [if_pos c16] at H
   have c16b0 : decide (x18_1 < (l1.length : Int)) = true := decide_eq_true c16
   clear c16
   by_cases c17 : a0_0 = 0
   ·rw [if_pos c17] at H
    exact absurd H (by simp)
   rw [if_neg c17] at H
   have c17b0 : (a0_0 == 0) = false := beq_eq_false_iff_ne.mpr c17
   have c17b1 : (a0_0 != 0) = true := bne_iff_ne.mpr c17
   obtain ⟨ji18, hji18⟩ : ∃ j_ : Int, (wrap64 (Int.tdiv (rd l1 x18_1) a0_0)) = j_ := ⟨_, rfl⟩
   replace H : (if 0 ≤ (ji18) then (if (ji18) < (x6_1.length : Int) then (if 0 ≤ (Int.tmod (rd l1 x18_1) a0_0) then (if (Int.tmod (rd l1 x18_1) a0_0) < (x7_1.length : Int) then (impl_Board_sums.l0 k1 (x6_1.set ((ji18) : Int).toNat (wrap64 ((rd x6_1 (ji18)) + (wrap64 (x18_1 + 1))))) (x7_1.set ((Int.tmod (rd l1 x18_1) a0_0) : Int).toNat (wrap64 ((rd x7_1 (Int.tmod (rd l1 x18_1) a0_0)) + (wrap64 (x18_1 + 1))))) l1 (l1.length : Int) (wrap64 (x18_1 + 1)) a0_0 a0_1 l0_2) else (none)) else (none)) else (none)) else (none)) = some (r1, r2) := by first | (rw [hji18] at H; exact H) | (simp only [hji18] at H ⊢; exact H)
   have hji18w : (IntKind.i64.wrap (Int.tdiv (rd l1 x18_1) a0_0)) = ji18 := (i64_w _).trans hji18
   by_cases c19 : 0 ≤ (ji18)
   rotate_left
   ·rw [if_neg c19] at H
    exact absurd H (by simp)
   rw [if_pos c19] at H
   have c19b0 : decide (0 ≤ (ji18)) = true := decide_eq_true c19
   clear c19
   by_cases c20 : (ji18) < (x6_1.length : Int)
   rotate_left
   ·rw [if_neg c20] at H
    exact absurd H (by simp)
   rw [if_pos c20] at H
   have c20b0 : decide ((ji18) < (x6_1.length : Int)) = true := decide_eq_true c20
   clear c20
   obtain ⟨y1148, hy1148⟩ : ∃ y_ : List Int, y_ = (x6_1.set ((ji18) : Int).toNat (wrap64 ((rd x6_1 (ji18)) + (wrap64 (x18_1 + 1))))) := ⟨_, rfl⟩
   replace H : (if 0 ≤ (Int.tmod (rd l1 x18_1) a0_0) then (if (Int.tmod (rd l1 x18_1) a0_0) < (x7_1.length : Int) then (impl_Board_sums.l0 k1 y1148 (x7_1.set ((Int.tmod (rd l1 x18_1) a0_0) : Int).toNat (wrap64 ((rd x7_1 (Int.tmod (rd l1 x18_1) a0_0)) + (wrap64 (x18_1 + 1))))) l1 (l1.length : Int) (wrap64 (x18_1 + 1)) a0_0 a0_1 l0_2) else (none)) else (none)) = some (r1, r2) := by first | (rw [hy1148]; with_reducible exact H) | (have H2_ := (Option.bind_some _ _).symm.trans H; rw [hy1148]; with_reducible exact H2_) | (have H2_ := (Option.bind_some _ _).symm.trans H; with_reducible exact H2_) | with_reducible exact H | (rw [hy1148]; exact H) | exact H
   have Ny1148 := Aside0.mk hy1148
   clear hy1148
   obtain ⟨ji22, hji22⟩ : ∃ j_ : Int, (Int.tmod (rd l1 x18_1) a0_0) = j_ := ⟨_, rfl⟩
   replace H : (if 0 ≤ (ji22) then (if (ji22) < (x7_1.length : Int) then (impl_Board_sums.l0 k1 y1148 (x7_1.set ((ji22) : Int).toNat (wrap64 ((rd x7_1 (ji22)) + (wrap64 (x18_1 + 1))))) l1 (l1.length : Int) (wrap64 (x18_1 + 1)) a0_0 a0_1 l0_2) else (none)) else (none)) = some (r1, r2) := by first | (rw [hji22] at H; exact H) | (simp only [hji22] at H ⊢; exact H)
   by_cases c23 : 0 ≤ (ji22)
   rotate_left
   ·rw [if_neg c23] at H
    exact absurd H (by simp)
   rw [if_pos c23] at H
   have c23b0 : decide (0 ≤ (ji22)) = true := decide_eq_true c23
   clear c23
   by_cases c24 : (ji22) < (x7_1.length : Int)
   rotate_left
   ·rw [if_neg c24] at H
    exact absurd H (by simp)
   rw [if_pos c24] at H
   have c24b0 : decide ((ji22) < (x7_1.length : Int)) = true := decide_eq_true c24
   clear c24
   obtain ⟨y1150, hy1150⟩ : ∃ y_ : List Int, y_ = (x7_1.set ((ji22) : Int).toNat (wrap64 ((rd x7_1 (ji22)) + (wrap64 (x18_1 + 1))))) := ⟨_, rfl⟩
   replace H : (impl_Board_sums.l0 k1 y1148 y1150 l1 (l1.length : Int) (wrap64 (x18_1 + 1)) a0_0 a0_1 l0_2) = some (r1, r2) := by first | (rw [hy1150]; with_reducible exact H) | (have H2_ := (Option.bind_some _ _).symm.trans H; rw [hy1150]; with_reducible exact H2_) | (have H2_ := (Option.bind_some _ _).symm.trans H; with_reducible exact H2_) | with_reducible exact H | (rw [hy1150]; exact H) | exact H
   have Ny1150 := Aside0.mk hy1150
   clear hy1150
   have H' := Aside0.mk H
   clear H
   have p1146 : 0 ≤ (x18_1 : Int) := of_decide_eq_true zao14
   have q1146 : x18_1 < (l1.length : Int) := of_decide_eq_true zao14
   obtain ⟨ad1146, e1146, hx1146_0⟩ := Kd.at_int HR1.out x18_1 p1146 q1146
   cases e1146
   (first | replace hx1146_0 := (HB.out.cell (World.block_lt_of_cell? w _ hx1146_0)).trans hx1146_0 | skip)
   replace p1146 := eq_true p1146
   replace q1146 := eq_true q1146
   have hcz26_0 : wr.cell? ⟨gb1139, 0, none⟩ = some (.int .i64 a0_0) := (blk_cell BK1139.out 0).trans rfl
   have hcz26_1 : wr.cell? ⟨gb1139, 1, none⟩ = some (.int .i64 a0_1) := (blk_cell BK1139.out 1).trans rfl
   have hcz26_2 : wr.cell? ⟨gb1139, 2, none⟩ = some (.slice A0_2 l0_2.length c0_2) := (blk_cell BK1139.out 2).trans rfl
   have hfz26_0 := blk_frozen BK1139.out 0
   have hfz26_1 := blk_frozen BK1139.out 1
   have hfz26_2 := blk_frozen BK1139.out 2
   obtain ⟨Ao27, co27, eo27⟩ := Kd.R_slice HO_6.out
   subst eo27
   have p1147 : 0 ≤ ((ji18) : Int) := of_decide_eq_true zao14
   have q1147 : (ji18) < (x6_1.length : Int) := of_decide_eq_true zao14
   obtain ⟨ad1147, e1147, hx1147_0⟩ := Kd.at_int (Kd.R_reads' HO_6.out).2.2 (ji18) p1147 q1147
   cases e1147
   replace p1147 := eq_true p1147
   replace q1147 := eq_true q1147
   have p21 : 0 ≤ ((ji18) : Int) := of_decide_eq_true zao14
   have q21 : ((ji18) : Int) < ((x6_1.length : Int) : Int) := of_decide_eq_true zao14
   obtain ⟨go21, co21, eo21, gb21, gl21, cl21, HG21⟩ := Kd.R_form HO_6.out (by omega)
   (first | cases eo21 | (injection eo21 with ea_ en_ ec_; (first | subst ea_ | (injection ea_ with ea_; subst ea_)); subst ec_; clear en_))
   have GB21 := Aside0.mk gb21
   have GG21 := Aside0.mk HG21
   clear gb21 gl21 HG21
   (try simp only [add_plain] at *)
   (first | simp only [add_plain] at hx1147_0 | skip)
   obtain ⟨hx21_0, hf21_0⟩ := Kd.R_celln 0 HO_6.out ((ji18) : Int) p21 q21
   replace p21 := eq_true p21
   replace q21 := eq_true q21
   have HP28 := Kd.R_putg HO_6.out ((ji18) : Int) (wrap64 ((rd x6_1 (ji18)) + (wrap64 (x18_1 + 1))))
   go_wp2_with (first | ((with_reducible refine gate_store (t := 3) (p := 33) rfl ?_); refine store_event (t := 3) (p := 33) (v := ?vo_w29) (w1 := (wr.setCell ⟨go21, ((ji18) : Int).toNat, none⟩ (.int .i64 (wrap64 ((rd x6_1 (ji18)) + (wrap64 (x18_1 + 1))))))) ?hg ?ho ?hn ?hr ?_; (case ho => rfl); (case hg => rfl); (case hn => rfl); (case hr => first | (go_simp; done) | (go_simp; rfl)); intro w29 hw; have hg : wr.grownBy w29 (some go21) := (by rw [hw]; exact HP28.2); have hp_ : Kd.R (Kd.int .i64) 3 w29 w.heap.size (fun k_ => some k_ ≠ (v1144 : Value).ownBlock) (.slice (some ⟨go21, 0, none⟩) x6_1.length co27) y1148 := (by rw [hw, Ny1148.out]; exact HP28.1); clear HP28; have n0_ := Aside0.mk (hp_); have n1_ := Aside0.mk (Kd.R_after (v := (.slice (some ⟨go21, 0, none⟩) x6_1.length co27)) (v1 := (.slice (some ⟨go21, 0, none⟩) x6_1.length co27)) (ok := (fun _ => True)) (by (with_reducible repeat (first | apply Kd.R_alloc | apply Kd.R_drewN | apply Kd.R_drew)); exact Kd.R_mono HO_7.out (fun _ hk => ⟨trivial, hk⟩)) hg (.inl rfl)); have n2_ := Aside0.mk (blk_grown (g := gb1139) (o := .cells #[.int .i64 a0_0, .int .i64 a0_1, .slice A0_2 l0_2.length c0_2] 30 (0, 0)) zao12 hg (Kd.R_ne HO_6.out BK1139.out (by decide))); have n3_ := Aside0.mk ((by rw [hw]; exact below_set (HB.out) GB21.out : Below w.heap.size w w29)); clear HO_6; clear HO_7; clear BK1139; clear HB; have HO_6 := n0_; have HO_7 := n1_; have BK1139 := n2_; have HB := n3_; clear n0_ n1_ n2_ n3_; clear hg hw hp_; have hcz30_0 : w29.cell? ⟨gb1139, 0, none⟩ = some (.int .i64 a0_0) := (blk_cell BK1139.out 0).trans rfl; have hcz30_1 : w29.cell? ⟨gb1139, 1, none⟩ = some (.int .i64 a0_1) := (blk_cell BK1139.out 1).trans rfl; have hcz30_2 : w29.cell? ⟨gb1139, 2, none⟩ = some (.slice A0_2 l0_2.length c0_2) := (blk_cell BK1139.out 2).trans rfl; have hfz30_0 := blk_frozen BK1139.out 0; have hfz30_1 := blk_frozen BK1139.out 1; have hfz30_2 := blk_frozen BK1139.out 2; obtain ⟨Ao31, co31, eo31⟩ := Kd.R_slice HO_7.out; subst eo31; have p1149 : 0 ≤ ((ji22) : Int) := of_decide_eq_true zao14; have q1149 : (ji22) < (x7_1.length : Int) := of_decide_eq_true zao14; obtain ⟨ad1149, e1149, hx1149_0⟩ := Kd.at_int (Kd.R_reads' HO_7.out).2.2 (ji22) p1149 q1149; cases e1149; replace p1149 := eq_true p1149; replace q1149 := eq_true q1149; have p25 : 0 ≤ ((ji22) : Int) := of_decide_eq_true zao14; have q25 : ((ji22) : Int) < ((x7_1.length : Int) : Int) := of_decide_eq_true zao14; obtain ⟨go25, co25, eo25, gb25, gl25, cl25, HG25⟩ := Kd.R_form HO_7.out (by omega); (first | cases eo25 | (injection eo25 with ea_ en_ ec_; (first | subst ea_ | (injection ea_ with ea_; subst ea_)); subst ec_; clear en_)); have GB25 := Aside0.mk gb25; have GG25 := Aside0.mk HG25; clear gb25 gl25 HG25; (try simp only [add_plain] at *); (first | simp only [add_plain] at hx1149_0 | skip); obtain ⟨hx25_0, hf25_0⟩ := Kd.R_celln 0 HO_7.out ((ji22) : Int) p25 q25; replace p25 := eq_true p25; replace q25 := eq_true q25; have n_ := Aside0.mk (Kd.R_mono (ok' := (fun k_ => some k_ ≠ (.slice (some ⟨go21, 0, none⟩) x6_1.length co27 : Value).ownBlock)) HO_7.out (fun k_ hk => hk.2)); clear HO_7; have HO_7 := n_; clear n_; obtain ⟨hy32_, hz32_⟩ := Kd.R_celln 0 HO_7.out ((ji22) : Int) (of_decide_eq_true zao14) (of_decide_eq_true zao14); have HP32 := Kd.R_putg HO_7.out ((ji22) : Int) (wrap64 ((rd x7_1 (ji22)) + (wrap64 (x18_1 + 1))))) | ((with_reducible refine gate_store (t := 3) (p := 44) rfl ?_); refine store_event (t := 3) (p := 44) (v := ?vo_w33) (w1 := (w29.setCell ⟨go25, ((ji22) : Int).toNat, none⟩ (.int .i64 (wrap64 ((rd x7_1 (ji22)) + (wrap64 (x18_1 + 1))))))) ?hg ?ho ?hn ?hr ?_; (case ho => rfl); (case hg => rfl); (case hn => rfl); (case hr => first | (go_simp; done) | (go_simp; rfl)); intro w33 hw; have hg : w29.grownBy w33 (some go25) := (by rw [hw]; exact HP32.2); have hp_ : Kd.R (Kd.int .i64) 3 w33 w.heap.size (fun k_ => some k_ ≠ (.slice (some ⟨go21, 0, none⟩) x6_1.length co27 : Value).ownBlock) (.slice (some ⟨go25, 0, none⟩) x7_1.length co31) y1150 := (by rw [hw, Ny1150.out]; exact HP32.1); clear HP32; have n0_ := Aside0.mk (Kd.R_after (v := (.slice (some ⟨go25, 0, none⟩) x7_1.length co31)) (v1 := (.slice (some ⟨go25, 0, none⟩) x7_1.length co31)) (ok := (fun _ => True)) (by (with_reducible repeat (first | apply Kd.R_alloc | apply Kd.R_drewN | apply Kd.R_drew)); exact Kd.R_mono HO_6.out (fun _ hk => ⟨trivial, hk⟩)) hg (.inl rfl)); have n1_ := Aside0.mk (hp_); have n2_ := Aside0.mk (blk_grown (g := gb1139) (o := .cells #[.int .i64 a0_0, .int .i64 a0_1, .slice A0_2 l0_2.length c0_2] 30 (0, 0)) zao12 hg (Kd.R_ne HO_7.out BK1139.out (by decide))); have n3_ := Aside0.mk ((by rw [hw]; exact below_set (HB.out) GB25.out : Below w.heap.size w w33)); clear HO_6; clear HO_7; clear BK1139; clear HB; have HO_6 := n0_; have HO_7 := n1_; have BK1139 := n2_; have HB := n3_; clear n0_ n1_ n2_ n3_; clear hg hw hp_))
   go_roundg k1
   case measure => have := HK1.out; omega
   case rel => exact ⟨(y1148), (y1150), (wrap64 (x18_1 + 1)), (by first | rfl | (simp; done) | (simp [*]; done)), H', ⟨by have := HK1.out; omega⟩, ⟨by (with_reducible repeat (first | apply Kd.R_alloc | apply Kd.R_drewN | apply Kd.R_drew)); exact Kd.R_mono HO_6.out (fun _ hk => hk.2)⟩, ⟨by (with_reducible repeat (first | apply Kd.R_alloc | apply Kd.R_drewN | apply Kd.R_drew)); exact HO_7.out⟩, ⟨zao12⟩, ⟨zao4⟩⟩

/-! ### impl_IsHalfMagic: function 41 -/
def impl_IsHalfMagic.f (k : Nat) (a0_0 : Int) (a0_1 : Int) (l0_2 : List Int) (a1_0 : Int) (a1_1 : Int) (l2 : List Int) : Option (Bool × Bool) := (impl_walkGraph.f k a0_0 a0_1 l0_2 a1_0 a1_1 l2).bind fun bt1154 => (if bt1154.2.2 = true then ((impl_Board_sums.f k a0_0 a0_1 l0_2 l2).bind fun bt1163 => ((impl_graph_isTour.f k a0_0 a0_1 l0_2 a1_0 a1_1 bt1154.1 bt1154.2.1 l2).bind fun t1169 => (if t1169 = true then ((slices_Min_int_int.f bt1163.1).bind fun t1170 => ((slices_Max_int_int.f bt1163.1).bind fun t1171 => (if t1170 = t1171 then ((slices_Min_int_int.f bt1163.2).bind fun t1172 => ((slices_Max_int_int.f bt1163.2).bind fun t1173 => (some ((t1172 == t1173), true)))) else (some (false, true))))) else (some (false, true))))) else (some (false, false)))
set_option maxHeartbeats 8000000 in
set_option maxRecDepth 100000 in
theorem impl_IsHalfMagic.calls (k : Nat) (a0_0 : Int) (a0_1 : Int) (A0_2 : Option Addr) (c0_2 : Nat) (l0_2 : List Int) (a1_0 : Int) (a1_1 : Int) (A2 : Option Addr) (c2 : Nat) (l2 : List Int) (r1 : Bool) (r2 : Bool) (w : World) (hr0_2 : Kd.C (Kd.int .i64) w A0_2 l0_2.length l0_2) (hc0_2 : l0_2.length ≤ c0_2) (hr2 : Kd.C (Kd.int .i64) w A2 l2.length l2) (hc2 : l2.length ≤ c2) (h : impl_IsHalfMagic.f k a0_0 a0_1 l0_2 a1_0 a1_1 l2 = some (r1, r2)) :
  Calls Try.prog 41 #[.agg #[.int .i64 a0_0, .int .i64 a0_1, .slice A0_2 l0_2.length c0_2], .agg #[.int .i64 a1_0, .int .i64 a1_1], .slice A2 l2.length c2] w fun e w' => e = .returned (.tuple #[.bool r1, .bool r2]) ∧ Below w.heap.size w w' := by
 have hu30 := Try.underlying30
 have hu32 := Try.underlying32
 have HR0_2 := Aside0.mk hr0_2
 have HC0_2 := Aside0.mk hc0_2
 clear hr0_2 hc0_2
 have HR2 := Aside0.mk hr2
 have HC2 := Aside0.mk hc2
 clear hr2 hc2
 have HB := Aside0.mk (Below.refl w.heap.size w)
 have H : ((impl_walkGraph.f k a0_0 a0_1 l0_2 a1_0 a1_1 l2).bind fun bt1154 => (if bt1154.2.2 = true then ((impl_Board_sums.f k a0_0 a0_1 l0_2 l2).bind fun bt1163 => ((impl_graph_isTour.f k a0_0 a0_1 l0_2 a1_0 a1_1 bt1154.1 bt1154.2.1 l2).bind fun t1169 => (if t1169 = true then ((slices_Min_int_int.f bt1163.1).bind fun t1170 => ((slices_Max_int_int.f bt1163.1).bind fun t1171 => (if t1170 = t1171 then ((slices_Min_int_int.f bt1163.2).bind fun t1172 => ((slices_Max_int_int.f bt1163.2).bind fun t1173 => (some ((t1172 == t1173), true)))) else (some (false, true))))) else (some (false, true))))) else (some (false, false)))) = some (r1, r2) := h
 clear h
 replace H := Option.bind_eq_some_iff.mp H
 obtain ⟨⟨t1154, t1157, t1162⟩, A40, H⟩ := H
 replace H : (if t1162 = true then ((impl_Board_sums.f k a0_0 a0_1 l0_2 l2).bind fun bt1163 => ((impl_graph_isTour.f k a0_0 a0_1 l0_2 a1_0 a1_1 t1154 t1157 l2).bind fun t1169 => (if t1169 = true then ((slices_Min_int_int.f bt1163.1).bind fun t1170 => ((slices_Max_int_int.f bt1163.1).bind fun t1171 => (if t1170 = t1171 then ((slices_Min_int_int.f bt1163.2).bind fun t1172 => ((slices_Max_int_int.f bt1163.2).bind fun t1173 => (some ((t1172 == t1173), true)))) else (some (false, true))))) else (some (false, true))))) else (some (false, false))) = some (r1, r2) := H
 have A4 := Aside0.mk A40
 clear A40
 by_cases c5 : t1162 = true
 rotate_left
 ·replace c5 := Bool.eq_false_iff.mpr c5
  subst c5
  have H1 : (some (false, false)) = some (r1, r2) := by rw [if_neg (show ¬ (false = true) by decide)] at H; exact H
  clear H
  have H := H1
  clear H1
  simp only [Option.some.injEq, Prod.mk.injEq] at H
  obtain ⟨rfl, rfl⟩ := H
  go_enter Try.func41, Try.ntmps41
  go_wp2_with (first | ((with_reducible refine gate_dst (N := 3) rfl ?_); refine box_event ?hg (N := 3) ?hd (cs := #[.int .i64 a0_0, .int .i64 a0_1, .slice A0_2 l0_2.length c0_2]) (t := 30) ?hr ?_; (case hd => rfl); (case hg => rfl); (case hr => first | (go_simp; done) | (go_simp; rfl)); intro gb1152 hg w53 hbox hb; have n0_ := Aside0.mk (below_step zao5 hb); have n1_ := Aside0.mk (hbox); have n2_ := Aside0.mk ((zao31 : w.heap.size ≤ gb1152)); have n3_ := Aside0.mk ((zao31 : w.heap.size ≤ gb1152)); clear HB; have HB := n0_; have BK1152 := n1_; have GW1152 := n2_; have GE1152 := n3_; clear n0_ n1_ n2_ n3_; clear hb hbox hg) | ((with_reducible refine gate_dst (N := 4) rfl ?_); refine box_event ?hg (N := 4) ?hd (cs := #[.int .i64 a1_0, .int .i64 a1_1]) (t := 32) ?hr ?_; (case hd => rfl); (case hg => rfl); (case hr => first | (go_simp; done) | (go_simp; rfl)); intro gb1153 hg w54 hbox hb; have n0_ := Aside0.mk (blk_below (g := gb1152) (o := .cells #[.int .i64 a0_0, .int .i64 a0_1, .slice A0_2 l0_2.length c0_2] 30 (0, 0)) zao3 hb); have n1_ := Aside0.mk (below_step zao6 hb); have n2_ := Aside0.mk (hbox); have n3_ := Aside0.mk ((zao32 : w.heap.size ≤ gb1153)); have n4_ := Aside0.mk ((zao32 : w.heap.size ≤ gb1153)); have n5_ := Aside0.mk ((zao29 : gb1152 ≠ gb1153)); have n6_ := Aside0.mk ((zao30 : gb1153 ≠ gb1152)); clear BK1152; clear HB; have BK1152 := n0_; have HB := n1_; have BK1153 := n2_; have GW1153 := n3_; have GE1153 := n4_; have NB1152_1153 := n5_; have NB1153_1152 := n6_; clear n0_ n1_ n2_ n3_ n4_ n5_ n6_; clear hb hbox hg; have hnb55 := NB1152_1153.out; have hnc55 := NB1153_1152.out; have hcz56_0 : w54.cell? ⟨gb1152, 0, none⟩ = some (.int .i64 a0_0) := (blk_cell BK1152.out 0).trans rfl; have hcz56_1 : w54.cell? ⟨gb1152, 1, none⟩ = some (.int .i64 a0_1) := (blk_cell BK1152.out 1).trans rfl; have hcz56_2 : w54.cell? ⟨gb1152, 2, none⟩ = some (.slice A0_2 l0_2.length c0_2) := (blk_cell BK1152.out 2).trans rfl; have hfz56_0 := blk_frozen BK1152.out 0; have hfz56_1 := blk_frozen BK1152.out 1; have hfz56_2 := blk_frozen BK1152.out 2; have hcz57_0 : w54.cell? ⟨gb1153, 0, none⟩ = some (.int .i64 a1_0) := (blk_cell BK1153.out 0).trans rfl; have hcz57_1 : w54.cell? ⟨gb1153, 1, none⟩ = some (.int .i64 a1_1) := (blk_cell BK1153.out 1).trans rfl; have hfz57_0 := blk_frozen BK1153.out 0; have hfz57_1 := blk_frozen BK1153.out 1) | ((with_reducible refine gate_callee (f := 62) rfl ?_); refine goesL_ (some 16) rfl rfl Try.func62 (by kernel_rfl) rfl #[.agg #[.int .i64 a0_0, .int .i64 a0_1, .slice A0_2 l0_2.length c0_2], .agg #[.int .i64 a1_0, .int .i64 a1_1], .slice A2 l2.length c2] rfl zao10 ?_; (with_reducible refine (impl_walkGraph.calls k a0_0 a0_1 _ _ l0_2 a1_0 a1_1 _ _ l2 t1154 t1157 false _ ?side1 ?side2 ?side3 ?side4 A4.out).mono ?_); (case side1 => exact zao8); (case side2 => exact HC0_2.out); (case side3 => exact zao9); (case side4 => exact HC2.out); rintro e w58 ⟨v1155, v1158, pv1161, rfl, hgp, ho0, ho1, hb⟩; refine ⟨_, rfl, ?_⟩; obtain rfl := hgp.2 rfl; have n0_ := Aside0.mk (Kd.R_lower ho0 (below_size zao1)); have n1_ := Aside0.mk (Kd.S_lower ho1 (below_size zao1)); have n2_ := Aside0.mk (blk_below (g := gb1152) (o := .cells #[.int .i64 a0_0, .int .i64 a0_1, .slice A0_2 l0_2.length c0_2] 30 (0, 0)) zao3 hb); have n3_ := Aside0.mk (blk_below (g := gb1153) (o := .cells #[.int .i64 a1_0, .int .i64 a1_1] 32 (0, 0)) zao7 hb); have n4_ := Aside0.mk (below_step zao1 hb); clear BK1152; clear BK1153; clear HB; have HO1156 := n0_; have HO1159 := n1_; have BK1152 := n2_; have BK1153 := n3_; have HB := n4_; clear n0_ n1_ n2_ n3_ n4_; (try clear hb); (try clear hb2); (try clear hk); (try clear hi); (try clear ho0); (try clear ho1); (try clear hgp); (try clear hbox); (try clear hge); (try clear hna_); (try clear hnb_)))
  go_ret2
  exact ⟨zao18, zao1⟩
 subst c5
 have H1 : ((impl_Board_sums.f k a0_0 a0_1 l0_2 l2).bind fun bt1163 => ((impl_graph_isTour.f k a0_0 a0_1 l0_2 a1_0 a1_1 t1154 t1157 l2).bind fun t1169 => (if t1169 = true then ((slices_Min_int_int.f bt1163.1).bind fun t1170 => ((slices_Max_int_int.f bt1163.1).bind fun t1171 => (if t1170 = t1171 then ((slices_Min_int_int.f bt1163.2).bind fun t1172 => ((slices_Max_int_int.f bt1163.2).bind fun t1173 => (some ((t1172 == t1173), true)))) else (some (false, true))))) else (some (false, true))))) = some (r1, r2) := by rw [if_pos rfl] at H; exact H
 clear H
 have H := H1
 clear H1
 replace H := Option.bind_eq_some_iff.mp H
 obtain ⟨⟨t1163, t1166⟩, A60, H⟩ := H
 replace H : ((impl_graph_isTour.f k a0_0 a0_1 l0_2 a1_0 a1_1 t1154 t1157 l2).bind fun t1169 => (if t1169 = true then ((slices_Min_int_int.f t1163).bind fun t1170 => ((slices_Max_int_int.f t1163).bind fun t1171 => (if t1170 = t1171 then ((slices_Min_int_int.f t1166).bind fun t1172 => ((slices_Max_int_int.f t1166).bind fun t1173 => (some ((t1172 == t1173), true)))) else (some (false, true))))) else (some (false, true)))) = some (r1, r2) := H
 have A6 := Aside0.mk A60
 clear A60
 replace H := Option.bind_eq_some_iff.mp H
 obtain ⟨t1169, A70, H⟩ := H
 replace H : (if t1169 = true then ((slices_Min_int_int.f t1163).bind fun t1170 => ((slices_Max_int_int.f t1163).bind fun t1171 => (if t1170 = t1171 then ((slices_Min_int_int.f t1166).bind fun t1172 => ((slices_Max_int_int.f t1166).bind fun t1173 => (some ((t1172 == t1173), true)))) else (some (false, true))))) else (some (false, true))) = some (r1, r2) := H
 have A7 := Aside0.mk A70
 clear A70
 by_cases c8 : t1169 = true
 rotate_left
 ·replace c8 := Bool.eq_false_iff.mpr c8
  subst c8
  have H1 : (some (false, true)) = some (r1, r2) := by rw [if_neg (show ¬ (false = true) by decide)] at H; exact H
  clear H
  have H := H1
  clear H1
  simp only [Option.some.injEq, Prod.mk.injEq] at H
  obtain ⟨rfl, rfl⟩ := H
  go_enter Try.func41, Try.ntmps41
  go_wp2_with (first | ((with_reducible refine gate_dst (N := 3) rfl ?_); refine box_event ?hg (N := 3) ?hd (cs := #[.int .i64 a0_0, .int .i64 a0_1, .slice A0_2 l0_2.length c0_2]) (t := 30) ?hr ?_; (case hd => rfl); (case hg => rfl); (case hr => first | (go_simp; done) | (go_simp; rfl)); intro gb1152 hg w41 hbox hb; have n0_ := Aside0.mk (below_step zao5 hb); have n1_ := Aside0.mk (hbox); have n2_ := Aside0.mk ((zao31 : w.heap.size ≤ gb1152)); have n3_ := Aside0.mk ((zao31 : w.heap.size ≤ gb1152)); clear HB; have HB := n0_; have BK1152 := n1_; have GW1152 := n2_; have GE1152 := n3_; clear n0_ n1_ n2_ n3_; clear hb hbox hg) | ((with_reducible refine gate_dst (N := 4) rfl ?_); refine box_event ?hg (N := 4) ?hd (cs := #[.int .i64 a1_0, .int .i64 a1_1]) (t := 32) ?hr ?_; (case hd => rfl); (case hg => rfl); (case hr => first | (go_simp; done) | (go_simp; rfl)); intro gb1153 hg w42 hbox hb; have n0_ := Aside0.mk (blk_below (g := gb1152) (o := .cells #[.int .i64 a0_0, .int .i64 a0_1, .slice A0_2 l0_2.length c0_2] 30 (0, 0)) zao3 hb); have n1_ := Aside0.mk (below_step zao6 hb); have n2_ := Aside0.mk (hbox); have n3_ := Aside0.mk ((zao32 : w.heap.size ≤ gb1153)); have n4_ := Aside0.mk ((zao32 : w.heap.size ≤ gb1153)); have n5_ := Aside0.mk ((zao29 : gb1152 ≠ gb1153)); have n6_ := Aside0.mk ((zao30 : gb1153 ≠ gb1152)); clear BK1152; clear HB; have BK1152 := n0_; have HB := n1_; have BK1153 := n2_; have GW1153 := n3_; have GE1153 := n4_; have NB1152_1153 := n5_; have NB1153_1152 := n6_; clear n0_ n1_ n2_ n3_ n4_ n5_ n6_; clear hb hbox hg; have hnb43 := NB1152_1153.out; have hnc43 := NB1153_1152.out; have hcz44_0 : w42.cell? ⟨gb1152, 0, none⟩ = some (.int .i64 a0_0) := (blk_cell BK1152.out 0).trans rfl; have hcz44_1 : w42.cell? ⟨gb1152, 1, none⟩ = some (.int .i64 a0_1) := (blk_cell BK1152.out 1).trans rfl; have hcz44_2 : w42.cell? ⟨gb1152, 2, none⟩ = some (.slice A0_2 l0_2.length c0_2) := (blk_cell BK1152.out 2).trans rfl; have hfz44_0 := blk_frozen BK1152.out 0; have hfz44_1 := blk_frozen BK1152.out 1; have hfz44_2 := blk_frozen BK1152.out 2; have hcz45_0 : w42.cell? ⟨gb1153, 0, none⟩ = some (.int .i64 a1_0) := (blk_cell BK1153.out 0).trans rfl; have hcz45_1 : w42.cell? ⟨gb1153, 1, none⟩ = some (.int .i64 a1_1) := (blk_cell BK1153.out 1).trans rfl; have hfz45_0 := blk_frozen BK1153.out 0; have hfz45_1 := blk_frozen BK1153.out 1) | ((with_reducible refine gate_callee (f := 62) rfl ?_); refine goesL_ (some 16) rfl rfl Try.func62 (by kernel_rfl) rfl #[.agg #[.int .i64 a0_0, .int .i64 a0_1, .slice A0_2 l0_2.length c0_2], .agg #[.int .i64 a1_0, .int .i64 a1_1], .slice A2 l2.length c2] rfl zao10 ?_; (with_reducible refine (impl_walkGraph.calls k a0_0 a0_1 _ _ l0_2 a1_0 a1_1 _ _ l2 t1154 t1157 true _ ?side1 ?side2 ?side3 ?side4 A4.out).mono ?_); (case side1 => exact zao8); (case side2 => exact HC0_2.out); (case side3 => exact zao9); (case side4 => exact HC2.out); rintro e w46 ⟨v1155, v1158, pv1161, rfl, hgp, ho0, ho1, hb⟩; refine ⟨_, rfl, ?_⟩; obtain ⟨gb1160, rfl, hbox, hge⟩ := hgp.1 rfl; have n0_ := Aside0.mk (Kd.R_lower ho0 (below_size zao1)); have n1_ := Aside0.mk (Kd.S_lower ho1 (below_size zao1)); have n2_ := Aside0.mk (blk_below (g := gb1152) (o := .cells #[.int .i64 a0_0, .int .i64 a0_1, .slice A0_2 l0_2.length c0_2] 30 (0, 0)) zao3 hb); have n3_ := Aside0.mk (blk_below (g := gb1153) (o := .cells #[.int .i64 a1_0, .int .i64 a1_1] 32 (0, 0)) zao7 hb); have n4_ := Aside0.mk (hbox); have n5_ := Aside0.mk ((Nat.le_trans (by exact (below_size zao1)) hge : w.heap.size ≤ gb1160)); have n6_ := Aside0.mk ((Nat.le_trans (by exact (below_size zao1)) hge : w.heap.size ≤ gb1160)); have n7_ := Aside0.mk ((Nat.ne_of_lt (Nat.lt_of_lt_of_le (blk_lt (g := gb1152) (o := .cells #[.int .i64 a0_0, .int .i64 a0_1, .slice A0_2 l0_2.length c0_2] 30 (0, 0)) zao3) hge) : gb1152 ≠ gb1160)); have n8_ := Aside0.mk ((Nat.ne_of_gt (Nat.lt_of_lt_of_le (blk_lt (g := gb1152) (o := .cells #[.int .i64 a0_0, .int .i64 a0_1, .slice A0_2 l0_2.length c0_2] 30 (0, 0)) zao3) hge) : gb1160 ≠ gb1152)); have n9_ := Aside0.mk ((Nat.ne_of_lt (Nat.lt_of_lt_of_le (blk_lt (g := gb1153) (o := .cells #[.int .i64 a1_0, .int .i64 a1_1] 32 (0, 0)) zao7) hge) : gb1153 ≠ gb1160)); have n10_ := Aside0.mk ((Nat.ne_of_gt (Nat.lt_of_lt_of_le (blk_lt (g := gb1153) (o := .cells #[.int .i64 a1_0, .int .i64 a1_1] 32 (0, 0)) zao7) hge) : gb1160 ≠ gb1153)); have n11_ := Aside0.mk (below_step zao1 hb); clear BK1152; clear BK1153; clear HB; have HO1156 := n0_; have HO1159 := n1_; have BK1152 := n2_; have BK1153 := n3_; have BK1160 := n4_; have GW1160 := n5_; have GE1160 := n6_; have NB1152_1160 := n7_; have NB1160_1152 := n8_; have NB1153_1160 := n9_; have NB1160_1153 := n10_; have HB := n11_; clear n0_ n1_ n2_ n3_ n4_ n5_ n6_ n7_ n8_ n9_ n10_ n11_; (try clear hb); (try clear hb2); (try clear hk); (try clear hi); (try clear ho0); (try clear ho1); (try clear hgp); (try clear hbox); (try clear hge); (try clear hna_); (try clear hnb_); have hnb47 := NB1152_1160.out; have hnc47 := NB1160_1152.out; have hcz48_0 : w46.cell? ⟨gb1152, 0, none⟩ = some (.int .i64 a0_0) := (blk_cell BK1152.out 0).trans rfl; have hcz48_1 : w46.cell? ⟨gb1152, 1, none⟩ = some (.int .i64 a0_1) := (blk_cell BK1152.out 1).trans rfl; have hcz48_2 : w46.cell? ⟨gb1152, 2, none⟩ = some (.slice A0_2 l0_2.length c0_2) := (blk_cell BK1152.out 2).trans rfl; have hfz48_0 := blk_frozen BK1152.out 0; have hfz48_1 := blk_frozen BK1152.out 1; have hfz48_2 := blk_frozen BK1152.out 2) | ((with_reducible refine gate_callee (f := 81) rfl ?_); refine goesL_ (some 24) rfl rfl Try.func81 (by kernel_rfl) rfl #[.agg #[.int .i64 a0_0, .int .i64 a0_1, .slice A0_2 l0_2.length c0_2], .slice A2 l2.length c2] rfl zao10 ?_; (with_reducible refine (impl_Board_sums.calls k a0_0 a0_1 _ _ l0_2 _ _ l2 t1163 t1166 _ ?side1 ?side2 ?side3 ?side4 A6.out).mono ?_); (case side1 => exact zao8); (case side2 => exact HC0_2.out); (case side3 => exact zao9); (case side4 => exact HC2.out); rintro e w49 ⟨v1164, v1167, rfl, ho0, ho1, hb⟩; refine ⟨_, rfl, ?_⟩; have n0_ := Aside0.mk (Kd.R_mono (Kd.R_told (Kd.R_told (Kd.R_old zao11 hb) (Kd.R_base ho0)) (Kd.R_base ho1)) (fun _ h_ => h_.1)); have n1_ := Aside0.mk (Kd.S_mono (Kd.S_told (Kd.S_told (Kd.S_old zao16 hb) (Kd.R_base ho0)) (Kd.R_base ho1)) (fun _ h_ => h_.1)); have n2_ := Aside0.mk (Kd.R_lower (Kd.R_new' ho0 (Kd.R_lt zao11)) (below_size zao2)); have n3_ := Aside0.mk (Kd.R_lower (Kd.R_new' ho1 (Kd.R_lt zao11)) (below_size zao2)); have n4_ := Aside0.mk (blk_below (g := gb1152) (o := .cells #[.int .i64 a0_0, .int .i64 a0_1, .slice A0_2 l0_2.length c0_2] 30 (0, 0)) zao3 hb); have n5_ := Aside0.mk (blk_below (g := gb1153) (o := .cells #[.int .i64 a1_0, .int .i64 a1_1] 32 (0, 0)) zao7 hb); have n6_ := Aside0.mk (blk_below (g := gb1160) (o := .cells #[.int .i64 a0_0, .int .i64 a0_1, .slice A0_2 l0_2.length c0_2, .int .i64 a1_0, .int .i64 a1_1, v1155, v1158] 82 (0, 0)) zao13 hb); have n7_ := Aside0.mk (below_step zao2 hb); clear HO1156; clear HO1159; clear BK1152; clear BK1153; clear BK1160; clear HB; have HO1156 := n0_; have HO1159 := n1_; have HO1165 := n2_; have HO1168 := n3_; have BK1152 := n4_; have BK1153 := n5_; have BK1160 := n6_; have HB := n7_; clear n0_ n1_ n2_ n3_ n4_ n5_ n6_ n7_; (try clear hb); (try clear hb2); (try clear hk); (try clear hi); (try clear ho0); (try clear ho1); (try clear hna_); (try clear hnb_); obtain ⟨Ao50, co50, eo50⟩ := Kd.R_slice HO1156.out; subst eo50; obtain ⟨Ao51, co51, eo51⟩ := Kd.S_slice HO1159.out; subst eo51) | ((with_reducible refine gate_callee (f := 82) rfl ?_); refine goesL_ (some 29) rfl rfl Try.func82 (by kernel_rfl) rfl #[.pointer (some ⟨gb1160, 0, none⟩), .slice A2 l2.length c2] rfl zao10 ?_; (with_reducible refine (impl_graph_isTour.calls k gb1160 a0_0 a0_1 A0_2 c0_2 l0_2 a1_0 a1_1 Ao50 co50 t1154 Ao51 co51 t1157 _ _ l2 false _ ?side1 ?side2 ?side3 ?side4 ?side5 ?side6 ?side7 ?side8 ?side9 A7.out).mono ?_); (case side1 => exact zao13); (case side2 => exact zao8); (case side3 => exact HC0_2.out); (case side4 => exact zao20); (case side5 => exact (Kd.R_reads' HO1156.out).2.1); (case side6 => exact zao19); (case side7 => exact (Kd.S_reads' HO1159.out).2.1); (case side8 => exact zao9); (case side9 => exact HC2.out); rintro e w52 ⟨rfl, hb⟩; refine ⟨_, rfl, ?_⟩; have n0_ := Aside0.mk (Kd.R_below zao11 hb); have n1_ := Aside0.mk (Kd.S_below zao16 hb); have n2_ := Aside0.mk (Kd.R_below zao22 hb); have n3_ := Aside0.mk (Kd.R_below zao21 hb); have n4_ := Aside0.mk (blk_below (g := gb1152) (o := .cells #[.int .i64 a0_0, .int .i64 a0_1, .slice A0_2 l0_2.length c0_2] 30 (0, 0)) zao3 hb); have n5_ := Aside0.mk (blk_below (g := gb1153) (o := .cells #[.int .i64 a1_0, .int .i64 a1_1] 32 (0, 0)) zao7 hb); have n6_ := Aside0.mk (blk_below (g := gb1160) (o := .cells #[.int .i64 a0_0, .int .i64 a0_1, .slice A0_2 l0_2.length c0_2, .int .i64 a1_0, .int .i64 a1_1, .slice Ao50 t1154.length co50, .slice Ao51 t1157.length co51] 82 (0, 0)) zao13 hb); have n7_ := Aside0.mk (below_step zao2 hb); clear HO1156; clear HO1159; clear HO1165; clear HO1168; clear BK1152; clear BK1153; clear BK1160; clear HB; have HO1156 := n0_; have HO1159 := n1_; have HO1165 := n2_; have HO1168 := n3_; have BK1152 := n4_; have BK1153 := n5_; have BK1160 := n6_; have HB := n7_; clear n0_ n1_ n2_ n3_ n4_ n5_ n6_ n7_; (try clear hb); (try clear hb2); (try clear hk); (try clear hi); (try clear hna_); (try clear hnb_)))
  go_ret2
  exact ⟨zao18, zao2⟩
 subst c8
 have H1 : ((slices_Min_int_int.f t1163).bind fun t1170 => ((slices_Max_int_int.f t1163).bind fun t1171 => (if t1170 = t1171 then ((slices_Min_int_int.f t1166).bind fun t1172 => ((slices_Max_int_int.f t1166).bind fun t1173 => (some ((t1172 == t1173), true)))) else (some (false, true))))) = some (r1, r2) := by rw [if_pos rfl] at H; exact H
 clear H
 have H := H1
 clear H1
 replace H := Option.bind_eq_some_iff.mp H
 obtain ⟨t1170, A90, H⟩ := H
 replace H : ((slices_Max_int_int.f t1163).bind fun t1171 => (if t1170 = t1171 then ((slices_Min_int_int.f t1166).bind fun t1172 => ((slices_Max_int_int.f t1166).bind fun t1173 => (some ((t1172 == t1173), true)))) else (some (false, true)))) = some (r1, r2) := H
 have A9 := Aside0.mk A90
 clear A90
 replace H := Option.bind_eq_some_iff.mp H
 obtain ⟨t1171, A100, H⟩ := H
 replace H : (if t1170 = t1171 then ((slices_Min_int_int.f t1166).bind fun t1172 => ((slices_Max_int_int.f t1166).bind fun t1173 => (some ((t1172 == t1173), true)))) else (some (false, true))) = some (r1, r2) := H
 have A10 := Aside0.mk A100
 clear A100
 by_cases c11 : t1170 = t1171
 rotate_left
 ·rw [if_neg c11] at H
  have c11b0 : (t1170 == t1171) = false := beq_eq_false_iff_ne.mpr c11
  have c11b1 : (t1170 != t1171) = true := bne_iff_ne.mpr c11
  simp only [Option.some.injEq, Prod.mk.injEq] at H
  obtain ⟨rfl, rfl⟩ := H
  go_enter Try.func41, Try.ntmps41
  go_wp2_with (first | ((with_reducible refine gate_dst (N := 3) rfl ?_); refine box_event ?hg (N := 3) ?hd (cs := #[.int .i64 a0_0, .int .i64 a0_1, .slice A0_2 l0_2.length c0_2]) (t := 30) ?hr ?_; (case hd => rfl); (case hg => rfl); (case hr => first | (go_simp; done) | (go_simp; rfl)); intro gb1152 hg w28 hbox hb; have n0_ := Aside0.mk (below_step zao5 hb); have n1_ := Aside0.mk (hbox); have n2_ := Aside0.mk ((zao31 : w.heap.size ≤ gb1152)); have n3_ := Aside0.mk ((zao31 : w.heap.size ≤ gb1152)); clear HB; have HB := n0_; have BK1152 := n1_; have GW1152 := n2_; have GE1152 := n3_; clear n0_ n1_ n2_ n3_; clear hb hbox hg) | ((with_reducible refine gate_dst (N := 4) rfl ?_); refine box_event ?hg (N := 4) ?hd (cs := #[.int .i64 a1_0, .int .i64 a1_1]) (t := 32) ?hr ?_; (case hd => rfl); (case hg => rfl); (case hr => first | (go_simp; done) | (go_simp; rfl)); intro gb1153 hg w29 hbox hb; have n0_ := Aside0.mk (blk_below (g := gb1152) (o := .cells #[.int .i64 a0_0, .int .i64 a0_1, .slice A0_2 l0_2.length c0_2] 30 (0, 0)) zao3 hb); have n1_ := Aside0.mk (below_step zao6 hb); have n2_ := Aside0.mk (hbox); have n3_ := Aside0.mk ((zao32 : w.heap.size ≤ gb1153)); have n4_ := Aside0.mk ((zao32 : w.heap.size ≤ gb1153)); have n5_ := Aside0.mk ((zao29 : gb1152 ≠ gb1153)); have n6_ := Aside0.mk ((zao30 : gb1153 ≠ gb1152)); clear BK1152; clear HB; have BK1152 := n0_; have HB := n1_; have BK1153 := n2_; have GW1153 := n3_; have GE1153 := n4_; have NB1152_1153 := n5_; have NB1153_1152 := n6_; clear n0_ n1_ n2_ n3_ n4_ n5_ n6_; clear hb hbox hg; have hnb30 := NB1152_1153.out; have hnc30 := NB1153_1152.out; have hcz31_0 : w29.cell? ⟨gb1152, 0, none⟩ = some (.int .i64 a0_0) := (blk_cell BK1152.out 0).trans rfl; have hcz31_1 : w29.cell? ⟨gb1152, 1, none⟩ = some (.int .i64 a0_1) := (blk_cell BK1152.out 1).trans rfl; have hcz31_2 : w29.cell? ⟨gb1152, 2, none⟩ = some (.slice A0_2 l0_2.length c0_2) := (blk_cell BK1152.out 2).trans rfl; have hfz31_0 := blk_frozen BK1152.out 0; have hfz31_1 := blk_frozen BK1152.out 1; have hfz31_2 := blk_frozen BK1152.out 2; have hcz32_0 : w29.cell? ⟨gb1153, 0, none⟩ = some (.int .i64 a1_0) := (blk_cell BK1153.out 0).trans rfl; have hcz32_1 : w29.cell? ⟨gb1153, 1, none⟩ = some (.int .i64 a1_1) := (blk_cell BK1153.out 1).trans rfl; have hfz32_0 := blk_frozen BK1153.out 0; have hfz32_1 := blk_frozen BK1153.out 1) | ((with_reducible refine gate_callee (f := 62) rfl ?_); refine goesL_ (some 16) rfl rfl Try.func62 (by kernel_rfl) rfl #[.agg #[.int .i64 a0_0, .int .i64 a0_1, .slice A0_2 l0_2.length c0_2], .agg #[.int .i64 a1_0, .int .i64 a1_1], .slice A2 l2.length c2] rfl zao10 ?_; (with_reducible refine (impl_walkGraph.calls k a0_0 a0_1 _ _ l0_2 a1_0 a1_1 _ _ l2 t1154 t1157 true _ ?side1 ?side2 ?side3 ?side4 A4.out).mono ?_); (case side1 => exact zao8); (case side2 => exact HC0_2.out); (case side3 => exact zao9); (case side4 => exact HC2.out); rintro e w33 ⟨v1155, v1158, pv1161, rfl, hgp, ho0, ho1, hb⟩; refine ⟨_, rfl, ?_⟩; obtain ⟨gb1160, rfl, hbox, hge⟩ := hgp.1 rfl; have n0_ := Aside0.mk (Kd.R_lower ho0 (below_size zao1)); have n1_ := Aside0.mk (Kd.S_lower ho1 (below_size zao1)); have n2_ := Aside0.mk (blk_below (g := gb1152) (o := .cells #[.int .i64 a0_0, .int .i64 a0_1, .slice A0_2 l0_2.length c0_2] 30 (0, 0)) zao3 hb); have n3_ := Aside0.mk (blk_below (g := gb1153) (o := .cells #[.int .i64 a1_0, .int .i64 a1_1] 32 (0, 0)) zao7 hb); have n4_ := Aside0.mk (hbox); have n5_ := Aside0.mk ((Nat.le_trans (by exact (below_size zao1)) hge : w.heap.size ≤ gb1160)); have n6_ := Aside0.mk ((Nat.le_trans (by exact (below_size zao1)) hge : w.heap.size ≤ gb1160)); have n7_ := Aside0.mk ((Nat.ne_of_lt (Nat.lt_of_lt_of_le (blk_lt (g := gb1152) (o := .cells #[.int .i64 a0_0, .int .i64 a0_1, .slice A0_2 l0_2.length c0_2] 30 (0, 0)) zao3) hge) : gb1152 ≠ gb1160)); have n8_ := Aside0.mk ((Nat.ne_of_gt (Nat.lt_of_lt_of_le (blk_lt (g := gb1152) (o := .cells #[.int .i64 a0_0, .int .i64 a0_1, .slice A0_2 l0_2.length c0_2] 30 (0, 0)) zao3) hge) : gb1160 ≠ gb1152)); have n9_ := Aside0.mk ((Nat.ne_of_lt (Nat.lt_of_lt_of_le (blk_lt (g := gb1153) (o := .cells #[.int .i64 a1_0, .int .i64 a1_1] 32 (0, 0)) zao7) hge) : gb1153 ≠ gb1160)); have n10_ := Aside0.mk ((Nat.ne_of_gt (Nat.lt_of_lt_of_le (blk_lt (g := gb1153) (o := .cells #[.int .i64 a1_0, .int .i64 a1_1] 32 (0, 0)) zao7) hge) : gb1160 ≠ gb1153)); have n11_ := Aside0.mk (below_step zao1 hb); clear BK1152; clear BK1153; clear HB; have HO1156 := n0_; have HO1159 := n1_; have BK1152 := n2_; have BK1153 := n3_; have BK1160 := n4_; have GW1160 := n5_; have GE1160 := n6_; have NB1152_1160 := n7_; have NB1160_1152 := n8_; have NB1153_1160 := n9_; have NB1160_1153 := n10_; have HB := n11_; clear n0_ n1_ n2_ n3_ n4_ n5_ n6_ n7_ n8_ n9_ n10_ n11_; (try clear hb); (try clear hb2); (try clear hk); (try clear hi); (try clear ho0); (try clear ho1); (try clear hgp); (try clear hbox); (try clear hge); (try clear hna_); (try clear hnb_); have hnb34 := NB1152_1160.out; have hnc34 := NB1160_1152.out; have hcz35_0 : w33.cell? ⟨gb1152, 0, none⟩ = some (.int .i64 a0_0) := (blk_cell BK1152.out 0).trans rfl; have hcz35_1 : w33.cell? ⟨gb1152, 1, none⟩ = some (.int .i64 a0_1) := (blk_cell BK1152.out 1).trans rfl; have hcz35_2 : w33.cell? ⟨gb1152, 2, none⟩ = some (.slice A0_2 l0_2.length c0_2) := (blk_cell BK1152.out 2).trans rfl; have hfz35_0 := blk_frozen BK1152.out 0; have hfz35_1 := blk_frozen BK1152.out 1; have hfz35_2 := blk_frozen BK1152.out 2) | ((with_reducible refine gate_callee (f := 81) rfl ?_); refine goesL_ (some 24) rfl rfl Try.func81 (by kernel_rfl) rfl #[.agg #[.int .i64 a0_0, .int .i64 a0_1, .slice A0_2 l0_2.length c0_2], .slice A2 l2.length c2] rfl zao10 ?_; (with_reducible refine (impl_Board_sums.calls k a0_0 a0_1 _ _ l0_2 _ _ l2 t1163 t1166 _ ?side1 ?side2 ?side3 ?side4 A6.out).mono ?_); (case side1 => exact zao8); (case side2 => exact HC0_2.out); (case side3 => exact zao9); (case side4 => exact HC2.out); rintro e w36 ⟨v1164, v1167, rfl, ho0, ho1, hb⟩; refine ⟨_, rfl, ?_⟩; have n0_ := Aside0.mk (Kd.R_mono (Kd.R_told (Kd.R_told (Kd.R_old zao11 hb) (Kd.R_base ho0)) (Kd.R_base ho1)) (fun _ h_ => h_.1)); have n1_ := Aside0.mk (Kd.S_mono (Kd.S_told (Kd.S_told (Kd.S_old zao16 hb) (Kd.R_base ho0)) (Kd.R_base ho1)) (fun _ h_ => h_.1)); have n2_ := Aside0.mk (Kd.R_lower (Kd.R_new' ho0 (Kd.R_lt zao11)) (below_size zao2)); have n3_ := Aside0.mk (Kd.R_lower (Kd.R_new' ho1 (Kd.R_lt zao11)) (below_size zao2)); have n4_ := Aside0.mk (blk_below (g := gb1152) (o := .cells #[.int .i64 a0_0, .int .i64 a0_1, .slice A0_2 l0_2.length c0_2] 30 (0, 0)) zao3 hb); have n5_ := Aside0.mk (blk_below (g := gb1153) (o := .cells #[.int .i64 a1_0, .int .i64 a1_1] 32 (0, 0)) zao7 hb); have n6_ := Aside0.mk (blk_below (g := gb1160) (o := .cells #[.int .i64 a0_0, .int .i64 a0_1, .slice A0_2 l0_2.length c0_2, .int .i64 a1_0, .int .i64 a1_1, v1155, v1158] 82 (0, 0)) zao13 hb); have n7_ := Aside0.mk (below_step zao2 hb); clear HO1156; clear HO1159; clear BK1152; clear BK1153; clear BK1160; clear HB; have HO1156 := n0_; have HO1159 := n1_; have HO1165 := n2_; have HO1168 := n3_; have BK1152 := n4_; have BK1153 := n5_; have BK1160 := n6_; have HB := n7_; clear n0_ n1_ n2_ n3_ n4_ n5_ n6_ n7_; (try clear hb); (try clear hb2); (try clear hk); (try clear hi); (try clear ho0); (try clear ho1); (try clear hna_); (try clear hnb_); obtain ⟨Ao37, co37, eo37⟩ := Kd.R_slice HO1156.out; subst eo37; obtain ⟨Ao38, co38, eo38⟩ := Kd.S_slice HO1159.out; subst eo38) | ((with_reducible refine gate_callee (f := 82) rfl ?_); refine goesL_ (some 29) rfl rfl Try.func82 (by kernel_rfl) rfl #[.pointer (some ⟨gb1160, 0, none⟩), .slice A2 l2.length c2] rfl zao10 ?_; (with_reducible refine (impl_graph_isTour.calls k gb1160 a0_0 a0_1 A0_2 c0_2 l0_2 a1_0 a1_1 Ao37 co37 t1154 Ao38 co38 t1157 _ _ l2 true _ ?side1 ?side2 ?side3 ?side4 ?side5 ?side6 ?side7 ?side8 ?side9 A7.out).mono ?_); (case side1 => exact zao13); (case side2 => exact zao8); (case side3 => exact HC0_2.out); (case side4 => exact zao20); (case side5 => exact (Kd.R_reads' HO1156.out).2.1); (case side6 => exact zao19); (case side7 => exact (Kd.S_reads' HO1159.out).2.1); (case side8 => exact zao9); (case side9 => exact HC2.out); rintro e w39 ⟨rfl, hb⟩; refine ⟨_, rfl, ?_⟩; have n0_ := Aside0.mk (Kd.R_below zao11 hb); have n1_ := Aside0.mk (Kd.S_below zao16 hb); have n2_ := Aside0.mk (Kd.R_below zao22 hb); have n3_ := Aside0.mk (Kd.R_below zao21 hb); have n4_ := Aside0.mk (blk_below (g := gb1152) (o := .cells #[.int .i64 a0_0, .int .i64 a0_1, .slice A0_2 l0_2.length c0_2] 30 (0, 0)) zao3 hb); have n5_ := Aside0.mk (blk_below (g := gb1153) (o := .cells #[.int .i64 a1_0, .int .i64 a1_1] 32 (0, 0)) zao7 hb); have n6_ := Aside0.mk (blk_below (g := gb1160) (o := .cells #[.int .i64 a0_0, .int .i64 a0_1, .slice A0_2 l0_2.length c0_2, .int .i64 a1_0, .int .i64 a1_1, .slice Ao37 t1154.length co37, .slice Ao38 t1157.length co38] 82 (0, 0)) zao13 hb); have n7_ := Aside0.mk (below_step zao2 hb); clear HO1156; clear HO1159; clear HO1165; clear HO1168; clear BK1152; clear BK1153; clear BK1160; clear HB; have HO1156 := n0_; have HO1159 := n1_; have HO1165 := n2_; have HO1168 := n3_; have BK1152 := n4_; have BK1153 := n5_; have BK1160 := n6_; have HB := n7_; clear n0_ n1_ n2_ n3_ n4_ n5_ n6_ n7_; (try clear hb); (try clear hb2); (try clear hk); (try clear hi); (try clear hna_); (try clear hnb_); obtain ⟨Ao40, co40, eo40⟩ := Kd.R_slice HO1165.out; subst eo40) | (go_at_call 83; (with_reducible refine (slices_Min_int_int.calls _ _ t1163 t1170 _ ?side1 ?side2 A9.out).mono ?_); (case side1 => exact zao17); (case side2 => exact (Kd.R_reads' HO1165.out).2.1); rintro e w' ⟨rfl, ⟨nd, rfl⟩⟩) | (go_at_call 78; (with_reducible refine (slices_Max_int_int.calls _ _ t1163 t1171 _ ?side1 ?side2 A10.out).mono ?_); (case side1 => exact zao17); (case side2 => exact (Kd.R_reads' HO1165.out).2.1); rintro e w' ⟨rfl, ⟨nd, rfl⟩⟩))
  go_ret2
  exact ⟨zao18, zao2⟩
 rw [if_pos c11] at H
 have c11b0 : (t1170 == t1171) = true := beq_iff_eq.mpr c11
 have c11b1 : (t1170 != t1171) = false := bne_eq_false_iff_eq.mpr c11
 clear c11
 replace H := Option.bind_eq_some_iff.mp H
 obtain ⟨t1172, A120, H⟩ := H
 replace H : ((slices_Max_int_int.f t1166).bind fun t1173 => (some ((t1172 == t1173), true))) = some (r1, r2) := H
 have A12 := Aside0.mk A120
 clear A120
 replace H := Option.bind_eq_some_iff.mp H
 obtain ⟨t1173, A130, H⟩ := H
 replace H : (some ((t1172 == t1173), true)) = some (r1, r2) := H
 have A13 := Aside0.mk A130
 clear A130
 simp only [Option.some.injEq, Prod.mk.injEq] at H
 obtain ⟨rfl, rfl⟩ := H
 go_enter Try.func41, Try.ntmps41
 go_wp2_with (first | ((with_reducible refine gate_dst (N := 3) rfl ?_); refine box_event ?hg (N := 3) ?hd (cs := #[.int .i64 a0_0, .int .i64 a0_1, .slice A0_2 l0_2.length c0_2]) (t := 30) ?hr ?_; (case hd => rfl); (case hg => rfl); (case hr => first | (go_simp; done) | (go_simp; rfl)); intro gb1152 hg w14 hbox hb; have n0_ := Aside0.mk (below_step zao5 hb); have n1_ := Aside0.mk (hbox); have n2_ := Aside0.mk ((zao31 : w.heap.size ≤ gb1152)); have n3_ := Aside0.mk ((zao31 : w.heap.size ≤ gb1152)); clear HB; have HB := n0_; have BK1152 := n1_; have GW1152 := n2_; have GE1152 := n3_; clear n0_ n1_ n2_ n3_; clear hb hbox hg) | ((with_reducible refine gate_dst (N := 4) rfl ?_); refine box_event ?hg (N := 4) ?hd (cs := #[.int .i64 a1_0, .int .i64 a1_1]) (t := 32) ?hr ?_; (case hd => rfl); (case hg => rfl); (case hr => first | (go_simp; done) | (go_simp; rfl)); intro gb1153 hg w15 hbox hb; have n0_ := Aside0.mk (blk_below (g := gb1152) (o := .cells #[.int .i64 a0_0, .int .i64 a0_1, .slice A0_2 l0_2.length c0_2] 30 (0, 0)) zao3 hb); have n1_ := Aside0.mk (below_step zao6 hb); have n2_ := Aside0.mk (hbox); have n3_ := Aside0.mk ((zao32 : w.heap.size ≤ gb1153)); have n4_ := Aside0.mk ((zao32 : w.heap.size ≤ gb1153)); have n5_ := Aside0.mk ((zao29 : gb1152 ≠ gb1153)); have n6_ := Aside0.mk ((zao30 : gb1153 ≠ gb1152)); clear BK1152; clear HB; have BK1152 := n0_; have HB := n1_; have BK1153 := n2_; have GW1153 := n3_; have GE1153 := n4_; have NB1152_1153 := n5_; have NB1153_1152 := n6_; clear n0_ n1_ n2_ n3_ n4_ n5_ n6_; clear hb hbox hg; have hnb16 := NB1152_1153.out; have hnc16 := NB1153_1152.out; have hcz17_0 : w15.cell? ⟨gb1152, 0, none⟩ = some (.int .i64 a0_0) := (blk_cell BK1152.out 0).trans rfl; have hcz17_1 : w15.cell? ⟨gb1152, 1, none⟩ = some (.int .i64 a0_1) := (blk_cell BK1152.out 1).trans rfl; have hcz17_2 : w15.cell? ⟨gb1152, 2, none⟩ = some (.slice A0_2 l0_2.length c0_2) := (blk_cell BK1152.out 2).trans rfl; have hfz17_0 := blk_frozen BK1152.out 0; have hfz17_1 := blk_frozen BK1152.out 1; have hfz17_2 := blk_frozen BK1152.out 2; have hcz18_0 : w15.cell? ⟨gb1153, 0, none⟩ = some (.int .i64 a1_0) := (blk_cell BK1153.out 0).trans rfl; have hcz18_1 : w15.cell? ⟨gb1153, 1, none⟩ = some (.int .i64 a1_1) := (blk_cell BK1153.out 1).trans rfl; have hfz18_0 := blk_frozen BK1153.out 0; have hfz18_1 := blk_frozen BK1153.out 1) | ((with_reducible refine gate_callee (f := 62) rfl ?_); refine goesL_ (some 16) rfl rfl Try.func62 (by kernel_rfl) rfl #[.agg #[.int .i64 a0_0, .int .i64 a0_1, .slice A0_2 l0_2.length c0_2], .agg #[.int .i64 a1_0, .int .i64 a1_1], .slice A2 l2.length c2] rfl zao10 ?_; (with_reducible refine (impl_walkGraph.calls k a0_0 a0_1 _ _ l0_2 a1_0 a1_1 _ _ l2 t1154 t1157 true _ ?side1 ?side2 ?side3 ?side4 A4.out).mono ?_); (case side1 => exact zao8); (case side2 => exact HC0_2.out); (case side3 => exact zao9); (case side4 => exact HC2.out); rintro e w19 ⟨v1155, v1158, pv1161, rfl, hgp, ho0, ho1, hb⟩; refine ⟨_, rfl, ?_⟩; obtain ⟨gb1160, rfl, hbox, hge⟩ := hgp.1 rfl; have n0_ := Aside0.mk (Kd.R_lower ho0 (below_size zao1)); have n1_ := Aside0.mk (Kd.S_lower ho1 (below_size zao1)); have n2_ := Aside0.mk (blk_below (g := gb1152) (o := .cells #[.int .i64 a0_0, .int .i64 a0_1, .slice A0_2 l0_2.length c0_2] 30 (0, 0)) zao3 hb); have n3_ := Aside0.mk (blk_below (g := gb1153) (o := .cells #[.int .i64 a1_0, .int .i64 a1_1] 32 (0, 0)) zao7 hb); have n4_ := Aside0.mk (hbox); have n5_ := Aside0.mk ((Nat.le_trans (by exact (below_size zao1)) hge : w.heap.size ≤ gb1160)); have n6_ := Aside0.mk ((Nat.le_trans (by exact (below_size zao1)) hge : w.heap.size ≤ gb1160)); have n7_ := Aside0.mk ((Nat.ne_of_lt (Nat.lt_of_lt_of_le (blk_lt (g := gb1152) (o := .cells #[.int .i64 a0_0, .int .i64 a0_1, .slice A0_2 l0_2.length c0_2] 30 (0, 0)) zao3) hge) : gb1152 ≠ gb1160)); have n8_ := Aside0.mk ((Nat.ne_of_gt (Nat.lt_of_lt_of_le (blk_lt (g := gb1152) (o := .cells #[.int .i64 a0_0, .int .i64 a0_1, .slice A0_2 l0_2.length c0_2] 30 (0, 0)) zao3) hge) : gb1160 ≠ gb1152)); have n9_ := Aside0.mk ((Nat.ne_of_lt (Nat.lt_of_lt_of_le (blk_lt (g := gb1153) (o := .cells #[.int .i64 a1_0, .int .i64 a1_1] 32 (0, 0)) zao7) hge) : gb1153 ≠ gb1160)); have n10_ := Aside0.mk ((Nat.ne_of_gt (Nat.lt_of_lt_of_le (blk_lt (g := gb1153) (o := .cells #[.int .i64 a1_0, .int .i64 a1_1] 32 (0, 0)) zao7) hge) : gb1160 ≠ gb1153)); have n11_ := Aside0.mk (below_step zao1 hb); clear BK1152; clear BK1153; clear HB; have HO1156 := n0_; have HO1159 := n1_; have BK1152 := n2_; have BK1153 := n3_; have BK1160 := n4_; have GW1160 := n5_; have GE1160 := n6_; have NB1152_1160 := n7_; have NB1160_1152 := n8_; have NB1153_1160 := n9_; have NB1160_1153 := n10_; have HB := n11_; clear n0_ n1_ n2_ n3_ n4_ n5_ n6_ n7_ n8_ n9_ n10_ n11_; (try clear hb); (try clear hb2); (try clear hk); (try clear hi); (try clear ho0); (try clear ho1); (try clear hgp); (try clear hbox); (try clear hge); (try clear hna_); (try clear hnb_); have hnb20 := NB1152_1160.out; have hnc20 := NB1160_1152.out; have hcz21_0 : w19.cell? ⟨gb1152, 0, none⟩ = some (.int .i64 a0_0) := (blk_cell BK1152.out 0).trans rfl; have hcz21_1 : w19.cell? ⟨gb1152, 1, none⟩ = some (.int .i64 a0_1) := (blk_cell BK1152.out 1).trans rfl; have hcz21_2 : w19.cell? ⟨gb1152, 2, none⟩ = some (.slice A0_2 l0_2.length c0_2) := (blk_cell BK1152.out 2).trans rfl; have hfz21_0 := blk_frozen BK1152.out 0; have hfz21_1 := blk_frozen BK1152.out 1; have hfz21_2 := blk_frozen BK1152.out 2) | ((with_reducible refine gate_callee (f := 81) rfl ?_); refine goesL_ (some 24) rfl rfl Try.func81 (by kernel_rfl) rfl #[.agg #[.int .i64 a0_0, .int .i64 a0_1, .slice A0_2 l0_2.length c0_2], .slice A2 l2.length c2] rfl zao10 ?_; (with_reducible refine (impl_Board_sums.calls k a0_0 a0_1 _ _ l0_2 _ _ l2 t1163 t1166 _ ?side1 ?side2 ?side3 ?side4 A6.out).mono ?_); (case side1 => exact zao8); (case side2 => exact HC0_2.out); (case side3 => exact zao9); (case side4 => exact HC2.out); rintro e w22 ⟨v1164, v1167, rfl, ho0, ho1, hb⟩; refine ⟨_, rfl, ?_⟩; have n0_ := Aside0.mk (Kd.R_mono (Kd.R_told (Kd.R_told (Kd.R_old zao11 hb) (Kd.R_base ho0)) (Kd.R_base ho1)) (fun _ h_ => h_.1)); have n1_ := Aside0.mk (Kd.S_mono (Kd.S_told (Kd.S_told (Kd.S_old zao16 hb) (Kd.R_base ho0)) (Kd.R_base ho1)) (fun _ h_ => h_.1)); have n2_ := Aside0.mk (Kd.R_lower (Kd.R_new' ho0 (Kd.R_lt zao11)) (below_size zao2)); have n3_ := Aside0.mk (Kd.R_lower (Kd.R_new' ho1 (Kd.R_lt zao11)) (below_size zao2)); have n4_ := Aside0.mk (blk_below (g := gb1152) (o := .cells #[.int .i64 a0_0, .int .i64 a0_1, .slice A0_2 l0_2.length c0_2] 30 (0, 0)) zao3 hb); have n5_ := Aside0.mk (blk_below (g := gb1153) (o := .cells #[.int .i64 a1_0, .int .i64 a1_1] 32 (0, 0)) zao7 hb); have n6_ := Aside0.mk (blk_below (g := gb1160) (o := .cells #[.int .i64 a0_0, .int .i64 a0_1, .slice A0_2 l0_2.length c0_2, .int .i64 a1_0, .int .i64 a1_1, v1155, v1158] 82 (0, 0)) zao13 hb); have n7_ := Aside0.mk (below_step zao2 hb); clear HO1156; clear HO1159; clear BK1152; clear BK1153; clear BK1160; clear HB; have HO1156 := n0_; have HO1159 := n1_; have HO1165 := n2_; have HO1168 := n3_; have BK1152 := n4_; have BK1153 := n5_; have BK1160 := n6_; have HB := n7_; clear n0_ n1_ n2_ n3_ n4_ n5_ n6_ n7_; (try clear hb); (try clear hb2); (try clear hk); (try clear hi); (try clear ho0); (try clear ho1); (try clear hna_); (try clear hnb_); obtain ⟨Ao23, co23, eo23⟩ := Kd.R_slice HO1156.out; subst eo23; obtain ⟨Ao24, co24, eo24⟩ := Kd.S_slice HO1159.out; subst eo24) | ((with_reducible refine gate_callee (f := 82) rfl ?_); refine goesL_ (some 29) rfl rfl Try.func82 (by kernel_rfl) rfl #[.pointer (some ⟨gb1160, 0, none⟩), .slice A2 l2.length c2] rfl zao10 ?_; (with_reducible refine (impl_graph_isTour.calls k gb1160 a0_0 a0_1 A0_2 c0_2 l0_2 a1_0 a1_1 Ao23 co23 t1154 Ao24 co24 t1157 _ _ l2 true _ ?side1 ?side2 ?side3 ?side4 ?side5 ?side6 ?side7 ?side8 ?side9 A7.out).mono ?_); (case side1 => exact zao13); (case side2 => exact zao8); (case side3 => exact HC0_2.out); (case side4 => exact zao20); (case side5 => exact (Kd.R_reads' HO1156.out).2.1); (case side6 => exact zao19); (case side7 => exact (Kd.S_reads' HO1159.out).2.1); (case side8 => exact zao9); (case side9 => exact HC2.out); rintro e w25 ⟨rfl, hb⟩; refine ⟨_, rfl, ?_⟩; have n0_ := Aside0.mk (Kd.R_below zao11 hb); have n1_ := Aside0.mk (Kd.S_below zao16 hb); have n2_ := Aside0.mk (Kd.R_below zao22 hb); have n3_ := Aside0.mk (Kd.R_below zao21 hb); have n4_ := Aside0.mk (blk_below (g := gb1152) (o := .cells #[.int .i64 a0_0, .int .i64 a0_1, .slice A0_2 l0_2.length c0_2] 30 (0, 0)) zao3 hb); have n5_ := Aside0.mk (blk_below (g := gb1153) (o := .cells #[.int .i64 a1_0, .int .i64 a1_1] 32 (0, 0)) zao7 hb); have n6_ := Aside0.mk (blk_below (g := gb1160) (o := .cells #[.int .i64 a0_0, .int .i64 a0_1, .slice A0_2 l0_2.length c0_2, .int .i64 a1_0, .int .i64 a1_1, .slice Ao23 t1154.length co23, .slice Ao24 t1157.length co24] 82 (0, 0)) zao13 hb); have n7_ := Aside0.mk (below_step zao2 hb); clear HO1156; clear HO1159; clear HO1165; clear HO1168; clear BK1152; clear BK1153; clear BK1160; clear HB; have HO1156 := n0_; have HO1159 := n1_; have HO1165 := n2_; have HO1168 := n3_; have BK1152 := n4_; have BK1153 := n5_; have BK1160 := n6_; have HB := n7_; clear n0_ n1_ n2_ n3_ n4_ n5_ n6_ n7_; (try clear hb); (try clear hb2); (try clear hk); (try clear hi); (try clear hna_); (try clear hnb_); obtain ⟨Ao26, co26, eo26⟩ := Kd.R_slice HO1165.out; subst eo26) | (go_at_call 83; (with_reducible refine (slices_Min_int_int.calls _ _ t1163 t1170 _ ?side1 ?side2 A9.out).mono ?_); (case side1 => exact zao17); (case side2 => exact (Kd.R_reads' HO1165.out).2.1); rintro e w' ⟨rfl, ⟨nd, rfl⟩⟩) | (go_at_call 78; (with_reducible refine (slices_Max_int_int.calls _ _ t1163 t1171 _ ?side1 ?side2 A10.out).mono ?_); (case side1 => exact zao17); (case side2 => exact (Kd.R_reads' HO1165.out).2.1); rintro e w' ⟨rfl, ⟨nd, rfl⟩⟩; obtain ⟨Ao27, co27, eo27⟩ := Kd.R_slice HO1168.out; subst eo27) | (go_at_call 83; (with_reducible refine (slices_Min_int_int.calls _ _ t1166 t1172 _ ?side1 ?side2 A12.out).mono ?_); (case side1 => exact zao26); (case side2 => exact (Kd.R_reads' HO1168.out).2.1); rintro e w' ⟨rfl, ⟨nd, rfl⟩⟩) | (go_at_call 78; (with_reducible refine (slices_Max_int_int.calls _ _ t1166 t1173 _ ?side1 ?side2 A13.out).mono ?_); (case side1 => exact zao26); (case side2 => exact (Kd.R_reads' HO1168.out).2.1); rintro e w' ⟨rfl, ⟨nd, rfl⟩⟩))
 go_ret2
 exact ⟨zao18, zao2⟩

end Go.Proofs.Ytjeongckkfkehaa.Q

/- Written by a program of this session: functions of the translation as plain Lean functions, each with a proof that the call does what the plain function says; the conditions stand in each theorem. -/
import Derived.Test.YtbecdckdbeoomaaQ0
import Derived.Test.YtbecdckdbeoomaaQ1
import Derived.Test.YtbecdckdbeoomaaQ6
import Derived.Test.YtbecdckdbeoomaaQ8
namespace Go.Proofs.Ytbecdckdbeoomaa.Q
open Go.RowKit Go.Proofs.YtbecdckdbeoomaaW.PrintWords Go.Proofs.YtbecdckdbeoomaaW.PrintLast Go.Proofs.YtbecdckdbeoomaaW.PrintMore
attribute [local go_sem] max2_int min2_int max_two min_two max_three min_three max_four min_four   -- for this text's walks alone
set_option linter.unusedVariables false
set_option linter.unusedSimpArgs false

theorem zv1 {p : Prop} (h : p := by repeat (first | (with_reducible first | exact HB.out | apply below_alloc | apply pw_below_drewN | apply below_drew1 | refine below_set ?_ GE515.out | refine below_set ?_ GE516.out) | exact HB.out)) : p := h
theorem zv2 {p : Prop} (h : p := by first | exact BK515.out | ((with_reducible repeat (first | refine blk_drewN ?_ _ | refine blk_drew ?_ | refine blk_alloc ?_ _)); exact BK515.out)) : p := h
theorem zv3 {p : Prop} (h : p := by first | exact BK516.out | ((with_reducible repeat (first | refine blk_drewN ?_ _ | refine blk_drew ?_ | refine blk_alloc ?_ _)); exact BK516.out)) : p := h
theorem zv4 {p : Prop} (h : p := by repeat (first | exact (Kd.C_below HR0_2.out HB.out) | (with_reducible refine Kd.C_alloc ?_ _) | (with_reducible refine Kd.C_drewN ?_ _) | (with_reducible refine Kd.C_drew ?_))) : p := h
theorem zv5 {p : Prop} (h : p := by repeat (first | (with_reducible first | exact HB.out | apply below_alloc | apply pw_below_drewN | apply below_drew1) | exact HB.out)) : p := h
theorem zv6 {p : Prop} (h : p := by repeat (first | exact (Kd.C_below HR3.out HB.out) | (with_reducible refine Kd.C_alloc ?_ _) | (with_reducible refine Kd.C_drewN ?_ _) | (with_reducible refine Kd.C_drew ?_))) : p := h
theorem zv7 {p : Prop} (h : p := by repeat (first | exact (Kd.C_below HR2.out HB.out) | (with_reducible refine Kd.C_alloc ?_ _) | (with_reducible refine Kd.C_drewN ?_ _) | (with_reducible refine Kd.C_drew ?_))) : p := h
theorem zv8 {p : Prop} (h : p := by repeat (first | (with_reducible first | exact HB.out | apply below_alloc | apply pw_below_drewN | apply below_drew1 | refine below_set ?_ GE510.out) | exact HB.out)) : p := h
theorem zv9 {p : Prop} (h : p := by first | exact BK510.out | ((with_reducible repeat (first | refine blk_drewN ?_ _ | refine blk_drew ?_ | refine blk_alloc ?_ _)); exact BK510.out)) : p := h
theorem zv10 {p : Prop} (h : p := by (try simp only [List.map_toArray, List.map_cons, List.map_nil]); first | done | rfl | (simp only [List.length_drop, List.length_take]; rfl)) : p := h
theorem zv11 {p : Prop} (h : p := by repeat (first | (with_reducible first | exact HB.out | apply below_alloc | apply pw_below_drewN | apply below_drew1 | refine below_set ?_ GE510.out | refine below_set ?_ GE511.out) | exact HB.out)) : p := h
theorem zv12 {p : Prop} (h : p := by repeat (first | (with_reducible first | exact HB.out | apply below_alloc | apply pw_below_drewN | apply below_drew1 | refine below_set ?_ GE515.out) | exact HB.out)) : p := h
theorem zv13 {p : Prop} (h : p := by first | rfl | (simp [errW_none, errW_some] <;> rfl) | (simp [*, errW_none, errW_some] <;> rfl)) : p := h
theorem zv14 {p : Prop} (h : p := by first | (with_reducible assumption) | assumption) : p := h
theorem zv15 {p : Prop} (h : p := by first | rfl | (simp; done) | (simp [*]; done)) : p := h
theorem zv16 {p : Prop} (h : p := by rw [hg]; exact (below_size zv5)) : p := h
theorem zv17 {p : Prop} (h : p := by rw [hg]; exact Nat.ne_of_lt (blk_lt (g := gb510) (o := .cells #[.int .i64 a0_0, .int .i64 a0_1, .slice A0_2 l0_2.length c0_2] 30 (0, 0)) zv9)) : p := h
theorem zv18 {p : Prop} (h : p := by rw [hg]; exact Nat.ne_of_gt (blk_lt (g := gb510) (o := .cells #[.int .i64 a0_0, .int .i64 a0_1, .slice A0_2 l0_2.length c0_2] 30 (0, 0)) zv9)) : p := h
/-! ### spec_blClosed: function 84 -/
def spec_blClosed.f (a0_0 : Int) (a0_1 : Int) (l0_2 : List Int) (a1_0 : Int) (a1_1 : Int) (l2 : List Int) : Option (Bool) := if (l2.length : Int) > 2 then (if 0 ≤ (wrap64 ((l2.length : Int) - 1)) then (if (wrap64 ((l2.length : Int) - 1)) < (l2.length : Int) then (if 0 < (l2.length : Int) then ((spec_boIs.f a0_0 a0_1 l0_2 a1_0 a1_1 (rd l2 (wrap64 ((l2.length : Int) - 1))) (rd l2 0)).bind fun t514 => (some t514)) else (none)) else (none)) else (none)) else (some false)
def spec_blClosed.T1 : Bool × List (List Nat × List Nat) := (true, [([], []), ([0], [0]), ([1], [1]), ([2], [2]), ([3], [3]), ([3], [3]), ([3], [3]), ([3], [3]), ([7, 3], [3, 7]), ([8, 3], [3, 8]), ([6, 9, 3], [3, 6, 9]), ([10, 3], [3, 10]), ([3], [3]), ([12, 3], [3, 12]), ([13, 3], [3, 13]), ([4, 5, 11, 14, 3, 3], [3, 4, 5, 11, 14]), ([3, 15], [3, 15]), ([16, 15, 0, 1, 2, 3, 4, 5, 6, 7, 8, 9, 10, 11, 12, 13, 14, 15, 16], [16])])
def spec_blClosed.B1 : List Nat := [0, 1, 3, 7, 15, 15, 15, 15, 143, 399, 975, 1999, 15, 4111, 12303, 32767, 65535, 131071]
theorem spec_blClosed.tab1 : rtab .any (opsOf Try.f84 1) = spec_blClosed.T1 := by kernel_rfl
theorem spec_blClosed.bits1 : waitsOk spec_blClosed.T1.2 spec_blClosed.B1 = true := by kernel_rfl
set_option maxHeartbeats 8000000 in
set_option maxRecDepth 100000 in
theorem spec_blClosed.calls (a0_0 : Int) (a0_1 : Int) (A0_2 : Option Addr) (c0_2 : Nat) (l0_2 : List Int) (a1_0 : Int) (a1_1 : Int) (A2 : Option Addr) (c2 : Nat) (l2 : List Int) (r : Bool) (w : World) (hr0_2 : Kd.C (Kd.int .i64) w A0_2 l0_2.length l0_2) (hc0_2 : l0_2.length ≤ c0_2) (hr2 : Kd.C (Kd.int .i64) w A2 l2.length l2) (hc2 : l2.length ≤ c2) (h : spec_blClosed.f a0_0 a0_1 l0_2 a1_0 a1_1 l2 = some r) :
  Calls Try.prog 84 #[.agg #[.int .i64 a0_0, .int .i64 a0_1, .slice A0_2 l0_2.length c0_2], .agg #[.int .i64 a1_0, .int .i64 a1_1], .slice A2 l2.length c2] w fun e w' => e = .returned (.bool r) ∧ Below w.heap.size w w' := by
 have hu30 := Try.underlying30
 have hu32 := Try.underlying32
 have HR0_2 := Aside0.mk hr0_2
 have HC0_2 := Aside0.mk hc0_2
 clear hr0_2 hc0_2
 have HR2 := Aside0.mk hr2
 have HC2 := Aside0.mk hc2
 clear hr2 hc2
 have HB := Aside0.mk (Below.refl w.heap.size w)
 have H : (if (l2.length : Int) > 2 then (if 0 ≤ (wrap64 ((l2.length : Int) - 1)) then (if (wrap64 ((l2.length : Int) - 1)) < (l2.length : Int) then (if 0 < (l2.length : Int) then ((spec_boIs.f a0_0 a0_1 l0_2 a1_0 a1_1 (rd l2 (wrap64 ((l2.length : Int) - 1))) (rd l2 0)).bind fun t514 => (some t514)) else (none)) else (none)) else (none)) else (some false)) = some r := h
 clear h
 by_cases c4 : (l2.length : Int) > 2
 rotate_left
 ·rw [if_neg c4] at H
  have c4b0 : decide (2 < (l2.length : Int)) = false := decide_eq_false c4
  have c4b1 : decide (2 < l2.length) = false := decide_eq_false (by omega)
  clear c4
  obtain rfl := Option.some.inj H
  go_enter Try.func84, Try.ntmps84
  try go_wp2_with (first | ((with_reducible refine gate_dst (N := 3) rfl ?_); (try (refine gate_guard (by rfl) ?_; dsimp only)); refine box_event ?hg (N := 3) ?hd (cs := #[.int .i64 a0_0, .int .i64 a0_1, .slice A0_2 l0_2.length c0_2]) (t := 30) ?hr ?_; (case hd => rfl); (case hg => rfl); (case hr => first | (go_simp; done) | (go_simp; rfl)); intro gb510 hg w14 hbox hb; have n0_ := Aside0.mk (below_step zv5 hb); have n1_ := Aside0.mk (hbox); have n2_ := Aside0.mk ((zv16 : w.heap.size ≤ gb510)); have n3_ := Aside0.mk ((zv16 : w.heap.size ≤ gb510)); clear HB; have HB := n0_; have BK510 := n1_; have GW510 := n2_; have GE510 := n3_; clear n0_ n1_ n2_ n3_; clear hb hbox hg) | ((with_reducible refine gate_dst (N := 4) rfl ?_); (try (refine gate_guard (by rfl) ?_; dsimp only)); refine box_event ?hg (N := 4) ?hd (cs := #[.int .i64 a1_0, .int .i64 a1_1]) (t := 32) ?hr ?_; (case hd => rfl); (case hg => rfl); (case hr => first | (go_simp; done) | (go_simp; rfl)); intro gb511 hg w15 hbox hb; have n0_ := Aside0.mk (blk_below (g := gb510) (o := .cells #[.int .i64 a0_0, .int .i64 a0_1, .slice A0_2 l0_2.length c0_2] 30 (0, 0)) zv9 hb); have n1_ := Aside0.mk (below_step zv8 hb); have n2_ := Aside0.mk (hbox); have n3_ := Aside0.mk ((by rw [hg]; exact (below_size zv8) : w.heap.size ≤ gb511)); have n4_ := Aside0.mk ((by rw [hg]; exact (below_size zv8) : w.heap.size ≤ gb511)); have n5_ := Aside0.mk ((zv17 : gb510 ≠ gb511)); have n6_ := Aside0.mk ((zv18 : gb511 ≠ gb510)); clear BK510; clear HB; have BK510 := n0_; have HB := n1_; have BK511 := n2_; have GW511 := n3_; have GE511 := n4_; have NB510_511 := n5_; have NB511_510 := n6_; clear n0_ n1_ n2_ n3_ n4_ n5_ n6_; clear hb hbox hg))
  have n0_ := Aside0.mk (blk_drew BK510.out)
  have n1_ := Aside0.mk (blk_drew BK511.out)
  have n2_ := Aside0.mk (below_drew1 HB.out)
  clear BK510
  clear BK511
  clear HB
  have BK510 := n0_
  have BK511 := n1_
  have HB := n2_
  clear n0_ n1_ n2_
  refine start_ (n := 18) (S := fun w' => True) (ds := []) #[false, false, false, false, false, false, false, false, false, false, false, false, false, false, false, false, false, false] (by kernel_rfl) rfl rfl trivial (fun hHeld => ?_); refine with_tabW spec_blClosed.tab1 spec_blClosed.bits1 (fun HT_ HW_ => ?_)
  generalize w15.drew = w16 at BK510 BK511 HB hHeld ⊢
  refine pure_ (i := 0) (N := some 7) (v := ?_) (a' := ?_) #[true, false, false, false, false, false, false, false, false, false, false, false, false, false, false, false, false, false] rfl rfl (any_of HT_.out (by kernel_rfl)) (fun _ _ _ h => h) (Or.inl ⟨by rfl, ?_⟩) ?_ ?_
  rotate_left
  ·intro w'
   go_simp
   with_reducible rfl
  rotate_left
  ·simp only [Act.put, List.setIfInBounds_toArray, List.set_cons_zero, List.set_cons_succ, i64_w, i32_w]
   rfl
  refine pure_ (i := 1) (N := some 8) (v := ?_) (a' := ?_) #[true, true, false, false, false, false, false, false, false, false, false, false, false, false, false, false, false, false] rfl rfl (any_of HT_.out (by kernel_rfl)) (fun _ _ _ h => h) (Or.inl ⟨by rfl, ?_⟩) ?_ ?_
  rotate_left
  ·intro w'
   go_simp
   with_reducible rfl
  rotate_left
  ·simp only [Act.put, List.setIfInBounds_toArray, List.set_cons_zero, List.set_cons_succ, i64_w, i32_w]
   rfl
  refine pure_ (i := 2) (N := some 9) (v := ?_) (a' := ?_) #[true, true, true, false, false, false, false, false, false, false, false, false, false, false, false, false, false, false] rfl rfl (any_of HT_.out (by kernel_rfl)) (fun _ _ _ h => h) (Or.inl ⟨by rfl, ?_⟩) ?_ ?_
  rotate_left
  ·intro w'
   go_simp
   with_reducible rfl
  rotate_left
  ·simp only [Act.put, List.setIfInBounds_toArray, List.set_cons_zero, List.set_cons_succ, i64_w, i32_w]
   rfl
  refine pure_ (i := 3) (N := some 10) (v := ?_) (a' := ?_) #[true, true, true, true, false, false, false, false, false, false, false, false, false, false, false, false, false, false] rfl rfl (any_of HT_.out (by kernel_rfl)) (fun _ _ _ h => h) (Or.inl ⟨by rfl, ?_⟩) ?_ ?_
  rotate_left
  ·intro w'
   go_simp
   with_reducible rfl
  rotate_left
  ·simp only [Act.put, List.setIfInBounds_toArray, List.set_cons_zero, List.set_cons_succ, i64_w, i32_w]
   rfl
  refine pure_ (i := 4) (N := some 11) (v := undef) (a' := ?_) #[true, true, true, true, true, false, false, false, false, false, false, false, false, false, false, false, false, false] rfl rfl (any_of HT_.out (by kernel_rfl)) (fun _ _ _ h => h) (Or.inr ⟨by rfl, rfl⟩) ?_ ?_
  rotate_left
  ·simp only [Act.put, List.setIfInBounds_toArray, List.set_cons_zero, List.set_cons_succ, i64_w, i32_w]
   rfl
  refine pure_ (i := 5) (N := some 12) (v := undef) (a' := ?_) #[true, true, true, true, true, true, false, false, false, false, false, false, false, false, false, false, false, false] rfl rfl (any_of HT_.out (by kernel_rfl)) (fun _ _ _ h => h) (Or.inr ⟨by rfl, rfl⟩) ?_ ?_
  rotate_left
  ·simp only [Act.put, List.setIfInBounds_toArray, List.set_cons_zero, List.set_cons_succ, i64_w, i32_w]
   rfl
  refine pure_ (i := 6) (N := some 13) (v := undef) (a' := ?_) #[true, true, true, true, true, true, true, false, false, false, false, false, false, false, false, false, false, false] rfl rfl (any_of HT_.out (by kernel_rfl)) (fun _ _ _ h => h) (Or.inr ⟨by rfl, rfl⟩) ?_ ?_
  rotate_left
  ·simp only [Act.put, List.setIfInBounds_toArray, List.set_cons_zero, List.set_cons_succ, i64_w, i32_w]
   rfl
  refine pure_ (i := 7) (N := some 14) (v := undef) (a' := ?_) #[true, true, true, true, true, true, true, true, false, false, false, false, false, false, false, false, false, false] rfl rfl (any_of HT_.out (by kernel_rfl)) (fun _ _ _ h => h) (Or.inr ⟨by rfl, rfl⟩) ?_ ?_
  rotate_left
  ·simp only [Act.put, List.setIfInBounds_toArray, List.set_cons_zero, List.set_cons_succ, i64_w, i32_w]
   rfl
  refine pure_ (i := 8) (N := some 15) (v := undef) (a' := ?_) #[true, true, true, true, true, true, true, true, true, false, false, false, false, false, false, false, false, false] rfl rfl (any_of HT_.out (by kernel_rfl)) (fun _ _ _ h => h) (Or.inr ⟨by rfl, rfl⟩) ?_ ?_
  rotate_left
  ·simp only [Act.put, List.setIfInBounds_toArray, List.set_cons_zero, List.set_cons_succ, i64_w, i32_w]
   rfl
  refine pure_ (i := 9) (N := some 16) (v := undef) (a' := ?_) #[true, true, true, true, true, true, true, true, true, true, false, false, false, false, false, false, false, false] rfl rfl (any_of HT_.out (by kernel_rfl)) (fun _ _ _ h => h) (Or.inr ⟨by rfl, rfl⟩) ?_ ?_
  rotate_left
  ·simp only [Act.put, List.setIfInBounds_toArray, List.set_cons_zero, List.set_cons_succ, i64_w, i32_w]
   rfl
  refine pure_ (i := 10) (N := some 17) (v := undef) (a' := ?_) #[true, true, true, true, true, true, true, true, true, true, true, false, false, false, false, false, false, false] rfl rfl (any_of HT_.out (by kernel_rfl)) (fun _ _ _ h => h) (Or.inr ⟨by rfl, rfl⟩) ?_ ?_
  rotate_left
  ·simp only [Act.put, List.setIfInBounds_toArray, List.set_cons_zero, List.set_cons_succ, i64_w, i32_w]
   rfl
  refine pure_ (i := 11) (N := some 18) (v := undef) (a' := ?_) #[true, true, true, true, true, true, true, true, true, true, true, true, false, false, false, false, false, false] rfl rfl (any_of HT_.out (by kernel_rfl)) (fun _ _ _ h => h) (Or.inr ⟨by rfl, rfl⟩) ?_ ?_
  rotate_left
  ·simp only [Act.put, List.setIfInBounds_toArray, List.set_cons_zero, List.set_cons_succ, i64_w, i32_w]
   rfl
  refine pure_ (i := 12) (N := some 19) (v := undef) (a' := ?_) #[true, true, true, true, true, true, true, true, true, true, true, true, true, false, false, false, false, false] rfl rfl (any_of HT_.out (by kernel_rfl)) (fun _ _ _ h => h) (Or.inr ⟨by rfl, rfl⟩) ?_ ?_
  rotate_left
  ·simp only [Act.put, List.setIfInBounds_toArray, List.set_cons_zero, List.set_cons_succ, i64_w, i32_w]
   rfl
  refine pure_ (i := 13) (N := some 20) (v := undef) (a' := ?_) #[true, true, true, true, true, true, true, true, true, true, true, true, true, true, false, false, false, false] rfl rfl (any_of HT_.out (by kernel_rfl)) (fun _ _ _ h => h) (Or.inr ⟨by rfl, rfl⟩) ?_ ?_
  rotate_left
  ·simp only [Act.put, List.setIfInBounds_toArray, List.set_cons_zero, List.set_cons_succ, i64_w, i32_w]
   rfl
  refine pure_ (i := 14) (N := some 21) (v := undef) (a' := ?_) #[true, true, true, true, true, true, true, true, true, true, true, true, true, true, true, false, false, false] rfl rfl (any_of HT_.out (by kernel_rfl)) (fun _ _ _ h => h) (Or.inr ⟨by rfl, rfl⟩) ?_ ?_
  rotate_left
  ·simp only [Act.put, List.setIfInBounds_toArray, List.set_cons_zero, List.set_cons_succ, i64_w, i32_w]
   rfl
  refine pure_ (i := 15) (N := some 22) (v := undef) (a' := ?_) #[true, true, true, true, true, true, true, true, true, true, true, true, true, true, true, true, false, false] rfl rfl (any_of HT_.out (by kernel_rfl)) (fun _ _ _ h => h) (Or.inr ⟨by rfl, rfl⟩) ?_ ?_
  rotate_left
  ·simp only [Act.put, List.setIfInBounds_toArray, List.set_cons_zero, List.set_cons_succ, i64_w, i32_w]
   rfl
  refine pure_ (i := 16) (N := some 23) (v := ?_) (a' := ?_) #[true, true, true, true, true, true, true, true, true, true, true, true, true, true, true, true, true, false] rfl rfl (any_of HT_.out (by kernel_rfl)) (fun _ _ _ h => h) (Or.inl ⟨by rfl, ?_⟩) ?_ ?_
  rotate_left
  ·intro w'
   go_simp
   with_reducible rfl
  rotate_left
  ·simp only [Act.put, List.setIfInBounds_toArray, List.set_cons_zero, List.set_cons_succ, i64_w, i32_w]
   rfl
  refine pure_ (i := 17) (N := some 6) (v := ?_) (a' := ?_) #[true, true, true, true, true, true, true, true, true, true, true, true, true, true, true, true, true, true] rfl rfl (any_of HT_.out (by kernel_rfl)) (fun _ _ _ h => h) (Or.inl ⟨by rfl, ?_⟩) ?_ ?_
  rotate_left
  ·intro w'
   go_simp
   with_reducible rfl
  rotate_left
  ·simp only [Act.put, List.setIfInBounds_toArray, List.set_cons_zero, List.set_cons_succ, i64_w, i32_w]
   rfl
  refine done_ (done_of HT_.out (by kernel_rfl)) ?_
  try go_wp2
  go_ret
  exact ⟨zv13, zv11⟩
 rw [if_pos c4] at H
 have c4b0 : decide (2 < (l2.length : Int)) = true := decide_eq_true c4
 have c4b1 : decide (2 < l2.length) = true := decide_eq_true (by omega)
 clear c4
 obtain ⟨ji5, hji5⟩ : ∃ j_ : Int, (wrap64 ((l2.length : Int) - 1)) = j_ := ⟨_, rfl⟩
 replace H : (if 0 ≤ (ji5) then (if (ji5) < (l2.length : Int) then (if 0 < (l2.length : Int) then ((spec_boIs.f a0_0 a0_1 l0_2 a1_0 a1_1 (rd l2 (ji5)) (rd l2 0)).bind fun t514 => (some t514)) else (none)) else (none)) else (none)) = some r := by first | (rw [hji5] at H; exact H) | (simp only [hji5] at H ⊢; exact H)
 have hji5w : (IntKind.i64.wrap ((l2.length : Int) - 1)) = ji5 := (i64_w _).trans hji5
 by_cases c6 : 0 ≤ (ji5)
 rotate_left
 ·rw [if_neg c6] at H
  exact absurd H (by simp)
 rw [if_pos c6] at H
 have c6b0 : decide (0 ≤ (ji5)) = true := decide_eq_true c6
 clear c6
 by_cases c7 : (ji5) < (l2.length : Int)
 rotate_left
 ·rw [if_neg c7] at H
  exact absurd H (by simp)
 rw [if_pos c7] at H
 have c7b0 : decide ((ji5) < (l2.length : Int)) = true := decide_eq_true c7
 clear c7
 by_cases c8 : 0 < (l2.length : Int)
 rotate_left
 ·rw [if_neg c8] at H
  exact absurd H (by simp)
 rw [if_pos c8] at H
 have c8b0 : decide (0 < (l2.length : Int)) = true := decide_eq_true c8
 have c8b1 : decide (0 < l2.length) = true := decide_eq_true (by omega)
 clear c8
 replace H := Option.bind_eq_some_iff.mp H
 obtain ⟨t514, A90, H⟩ := H
 replace H : (some t514) = some r := H
 have A9 := Aside0.mk A90
 clear A90
 obtain rfl := Option.some.inj H
 go_enter Try.func84, Try.ntmps84
 try go_wp2_with (first | ((with_reducible refine gate_dst (N := 3) rfl ?_); (try (refine gate_guard (by rfl) ?_; dsimp only)); refine box_event ?hg (N := 3) ?hd (cs := #[.int .i64 a0_0, .int .i64 a0_1, .slice A0_2 l0_2.length c0_2]) (t := 30) ?hr ?_; (case hd => rfl); (case hg => rfl); (case hr => first | (go_simp; done) | (go_simp; rfl)); intro gb510 hg w10 hbox hb; have n0_ := Aside0.mk (below_step zv5 hb); have n1_ := Aside0.mk (hbox); have n2_ := Aside0.mk ((zv16 : w.heap.size ≤ gb510)); have n3_ := Aside0.mk ((zv16 : w.heap.size ≤ gb510)); clear HB; have HB := n0_; have BK510 := n1_; have GW510 := n2_; have GE510 := n3_; clear n0_ n1_ n2_ n3_; clear hb hbox hg) | ((with_reducible refine gate_dst (N := 4) rfl ?_); (try (refine gate_guard (by rfl) ?_; dsimp only)); refine box_event ?hg (N := 4) ?hd (cs := #[.int .i64 a1_0, .int .i64 a1_1]) (t := 32) ?hr ?_; (case hd => rfl); (case hg => rfl); (case hr => first | (go_simp; done) | (go_simp; rfl)); intro gb511 hg w11 hbox hb; have n0_ := Aside0.mk (blk_below (g := gb510) (o := .cells #[.int .i64 a0_0, .int .i64 a0_1, .slice A0_2 l0_2.length c0_2] 30 (0, 0)) zv9 hb); have n1_ := Aside0.mk (below_step zv8 hb); have n2_ := Aside0.mk (hbox); have n3_ := Aside0.mk ((by rw [hg]; exact (below_size zv8) : w.heap.size ≤ gb511)); have n4_ := Aside0.mk ((by rw [hg]; exact (below_size zv8) : w.heap.size ≤ gb511)); have n5_ := Aside0.mk ((zv17 : gb510 ≠ gb511)); have n6_ := Aside0.mk ((zv18 : gb511 ≠ gb510)); clear BK510; clear HB; have BK510 := n0_; have HB := n1_; have BK511 := n2_; have GW511 := n3_; have GE511 := n4_; have NB510_511 := n5_; have NB511_510 := n6_; clear n0_ n1_ n2_ n3_ n4_ n5_ n6_; clear hb hbox hg))
 have n0_ := Aside0.mk (blk_drew BK510.out)
 have n1_ := Aside0.mk (blk_drew BK511.out)
 have n2_ := Aside0.mk (below_drew1 HB.out)
 clear BK510
 clear BK511
 clear HB
 have BK510 := n0_
 have BK511 := n1_
 have HB := n2_
 clear n0_ n1_ n2_
 have p512 : 0 ≤ ((ji5) : Int) := of_decide_eq_true zv14
 have q512 : (ji5) < (l2.length : Int) := of_decide_eq_true zv14
 obtain ⟨ad512, e512, hx512_0⟩ := Kd.at_int HR2.out (ji5) p512 q512
 have hw512_0 := hx512_0
 cases e512
 (first | replace hx512_0 := (HB.out.cell (World.block_lt_of_cell? w _ hx512_0)).trans hx512_0 | skip)
 replace p512 := eq_true p512
 replace q512 := eq_true q512
 have p513 : 0 ≤ (0 : Int) := (by omega)
 have q513 : 0 < (l2.length : Int) := of_decide_eq_true zv14
 obtain ⟨ad513, e513, hx513_0⟩ := Kd.at_int HR2.out 0 p513 q513
 have hw513_0 := hx513_0
 (try rw [show ((0 : Int)).toNat = 0 from rfl] at hw513_0)
 (try rw [show 0 * 1 = 0 from rfl] at hw513_0)
 (try rw [Addr.add_zero'] at hw513_0)
 obtain rfl : ad512 = ad513 := (by injection e513)
 have qi513 : (0 < l2.length) = True := eq_true (by omega)
 (try rw [show ((0 : Int)).toNat = 0 from rfl] at hx513_0)
 (try rw [Addr.add_zero'] at hx513_0)
 (first | replace hx513_0 := (HB.out.cell (World.block_lt_of_cell? w _ hx513_0)).trans hx513_0 | skip)
 replace p513 := eq_true p513
 replace q513 := eq_true q513
 refine start_ (n := 18) (S := fun w' => w'.cell? ⟨gb510, 0, none⟩ = some (.int .i64 a0_0) ∧ w'.cell? ⟨gb510, 1, none⟩ = some (.int .i64 a0_1) ∧ w'.cell? ⟨gb510, 2, none⟩ = some (.slice A0_2 l0_2.length c0_2) ∧ w'.cell? ⟨gb511, 0, none⟩ = some (.int .i64 a1_0) ∧ w'.cell? ⟨gb511, 1, none⟩ = some (.int .i64 a1_1) ∧ w'.cell? (ad512.add ((ji5)).toNat) = some (.int .i64 (rd l2 (ji5))) ∧ w'.cell? ad512 = some (.int .i64 (rd l2 0))) (ds := []) #[false, false, false, false, false, false, false, false, false, false, false, false, false, false, false, false, false, false] (by kernel_rfl) rfl rfl ⟨(blk_cell BK510.out 0).trans rfl, (blk_cell BK510.out 1).trans rfl, (blk_cell BK510.out 2).trans rfl, (blk_cell BK511.out 0).trans rfl, (blk_cell BK511.out 1).trans rfl, ((HB.out.cell (World.block_lt_of_cell? w _ hw512_0)).trans hw512_0), ((HB.out.cell (World.block_lt_of_cell? w _ hw513_0)).trans hw513_0)⟩ (fun hHeld => ?_); refine with_tabW spec_blClosed.tab1 spec_blClosed.bits1 (fun HT_ HW_ => ?_)
 generalize w11.drew = w12 at BK510 BK511 HB hx512_0 hx513_0 hHeld ⊢
 refine pure_ (i := 0) (N := some 7) (v := ?_) (a' := ?_) #[true, false, false, false, false, false, false, false, false, false, false, false, false, false, false, false, false, false] rfl rfl (any_of HT_.out (by kernel_rfl)) (fun _ _ _ h => h) (Or.inl ⟨by rfl, ?_⟩) ?_ ?_
 rotate_left
 ·intro w'
  go_simp
  with_reducible rfl
 rotate_left
 ·simp only [Act.put, List.setIfInBounds_toArray, List.set_cons_zero, List.set_cons_succ, i64_w, i32_w]
  rfl
 refine pure_ (i := 1) (N := some 8) (v := ?_) (a' := ?_) #[true, true, false, false, false, false, false, false, false, false, false, false, false, false, false, false, false, false] rfl rfl (any_of HT_.out (by kernel_rfl)) (fun _ _ _ h => h) (Or.inl ⟨by rfl, ?_⟩) ?_ ?_
 rotate_left
 ·intro w'
  go_simp
  with_reducible rfl
 rotate_left
 ·simp only [Act.put, List.setIfInBounds_toArray, List.set_cons_zero, List.set_cons_succ, i64_w, i32_w]
  rfl
 refine pure_ (i := 2) (N := some 9) (v := ?_) (a' := ?_) #[true, true, true, false, false, false, false, false, false, false, false, false, false, false, false, false, false, false] rfl rfl (any_of HT_.out (by kernel_rfl)) (fun _ _ _ h => h) (Or.inl ⟨by rfl, ?_⟩) ?_ ?_
 rotate_left
 ·intro w'
  go_simp
  with_reducible rfl
 rotate_left
 ·simp only [Act.put, List.setIfInBounds_toArray, List.set_cons_zero, List.set_cons_succ, i64_w, i32_w]
  rfl
 refine pure_ (i := 3) (N := some 10) (v := ?_) (a' := ?_) #[true, true, true, true, false, false, false, false, false, false, false, false, false, false, false, false, false, false] rfl rfl (any_of HT_.out (by kernel_rfl)) (fun _ _ _ h => h) (Or.inl ⟨by rfl, ?_⟩) ?_ ?_
 rotate_left
 ·intro w'
  go_simp
  with_reducible rfl
 rotate_left
 ·simp only [Act.put, List.setIfInBounds_toArray, List.set_cons_zero, List.set_cons_succ, i64_w, i32_w]
  rfl
 refine pure_ (i := 6) (N := some 13) (v := ?_) (a' := ?_) #[true, true, true, true, false, false, true, false, false, false, false, false, false, false, false, false, false, false] rfl rfl (any_of HT_.out (by kernel_rfl)) (fun _ _ _ h => h) (Or.inl ⟨by rfl, ?_⟩) ?_ ?_
 rotate_left
 ·intro w'
  go_simp
  with_reducible rfl
 rotate_left
 ·simp only [Act.put, List.setIfInBounds_toArray, List.set_cons_zero, List.set_cons_succ, i64_w, i32_w]
  rfl
 refine pure_ (i := 7) (N := some 14) (v := ?_) (a' := ?_) #[true, true, true, true, false, false, true, true, false, false, false, false, false, false, false, false, false, false] rfl rfl (any_of HT_.out (by kernel_rfl)) (fun _ _ _ h => h) (Or.inl ⟨by rfl, ?_⟩) ?_ ?_
 rotate_left
 ·intro w'
  go_simp
  with_reducible rfl
 rotate_left
 ·simp only [Act.put, List.setIfInBounds_toArray, List.set_cons_zero, List.set_cons_succ, i64_w, i32_w]
  rfl
 refine pure_ (i := 8) (N := some 15) (v := ?_) (a' := ?_) #[true, true, true, true, false, false, true, true, true, false, false, false, false, false, false, false, false, false] rfl rfl (any_of HT_.out (by kernel_rfl)) (fun _ _ _ h => h) (Or.inl ⟨by rfl, ?_⟩) ?_ ?_
 rotate_left
 ·intro w'
  go_simp
  with_reducible rfl
 rotate_left
 ·simp only [Act.put, List.setIfInBounds_toArray, List.set_cons_zero, List.set_cons_succ, i64_w, i32_w]
  rfl
 refine pure_ (i := 9) (N := some 16) (v := ?_) (a' := ?_) #[true, true, true, true, false, false, true, true, true, true, false, false, false, false, false, false, false, false] rfl rfl (any_of HT_.out (by kernel_rfl)) (fun _ _ _ h => h) (Or.inl ⟨by rfl, ?_⟩) ?_ ?_
 rotate_left
 ·intro w'
  go_simp
  with_reducible rfl
 rotate_left
 ·simp only [Act.put, List.setIfInBounds_toArray, List.set_cons_zero, List.set_cons_succ, i64_w, i32_w]
  rfl
 refine pure_ (i := 10) (N := some 17) (v := ?_) (a' := ?_) #[true, true, true, true, false, false, true, true, true, true, true, false, false, false, false, false, false, false] rfl rfl (any_of HT_.out (by kernel_rfl)) (fun _ _ _ h => h) (Or.inl ⟨by rfl, ?_⟩) ?_ ?_
 rotate_left
 ·intro w'
  go_simp
  with_reducible rfl
 rotate_left
 ·simp only [Act.put, List.setIfInBounds_toArray, List.set_cons_zero, List.set_cons_succ, i64_w, i32_w]
  rfl
 refine pure_ (i := 12) (N := some 19) (v := ?_) (a' := ?_) #[true, true, true, true, false, false, true, true, true, true, true, false, true, false, false, false, false, false] rfl rfl (any_of HT_.out (by kernel_rfl)) (fun _ _ _ h => h) (Or.inl ⟨by rfl, ?_⟩) ?_ ?_
 rotate_left
 ·intro w'
  go_simp
  with_reducible rfl
 rotate_left
 ·simp only [Act.put, List.setIfInBounds_toArray, List.set_cons_zero, List.set_cons_succ, i64_w, i32_w]
  rfl
 refine pure_ (i := 13) (N := some 20) (v := ?_) (a' := ?_) #[true, true, true, true, false, false, true, true, true, true, true, false, true, true, false, false, false, false] rfl rfl (any_of HT_.out (by kernel_rfl)) (fun _ _ _ h => h) (Or.inl ⟨by rfl, ?_⟩) ?_ ?_
 rotate_left
 ·intro w'
  go_simp
  with_reducible rfl
 rotate_left
 ·simp only [Act.put, List.setIfInBounds_toArray, List.set_cons_zero, List.set_cons_succ, i64_w, i32_w]
  rfl
 refine take_ (i := 4) (N := some 11) (v := ?_) (a' := ?_) #[true, true, true, true, true, false, true, true, true, true, true, false, true, true, false, false, false, false] rfl rfl (take_ofW HT_.out HW_.out (by kernel_rfl)) (fun _ _ _ h => h) (Or.inl ⟨by rfl, ?_⟩) hHeld ?_ ?_
 rotate_left
 ·rintro w' ⟨s0, s1, s2, s3, s4, s5, s6⟩
  go_simp
  with_reducible rfl
 rotate_left
 ·simp only [Act.put, List.setIfInBounds_toArray, List.set_cons_zero, List.set_cons_succ, i64_w, i32_w]
  rfl
 refine take_ (i := 5) (N := some 12) (v := ?_) (a' := ?_) #[true, true, true, true, true, true, true, true, true, true, true, false, true, true, false, false, false, false] rfl rfl (take_ofW HT_.out HW_.out (by kernel_rfl)) (fun _ _ _ h => h) (Or.inl ⟨by rfl, ?_⟩) hHeld ?_ ?_
 rotate_left
 ·rintro w' ⟨s0, s1, s2, s3, s4, s5, s6⟩
  go_simp
  with_reducible rfl
 rotate_left
 ·simp only [Act.put, List.setIfInBounds_toArray, List.set_cons_zero, List.set_cons_succ, i64_w, i32_w]
  rfl
 refine take_ (i := 11) (N := some 18) (v := ?_) (a' := ?_) #[true, true, true, true, true, true, true, true, true, true, true, true, true, true, false, false, false, false] rfl rfl (take_ofW HT_.out HW_.out (by kernel_rfl)) (fun _ _ _ h => h) (Or.inl ⟨by rfl, ?_⟩) hHeld ?_ ?_
 rotate_left
 ·rintro w' ⟨s0, s1, s2, s3, s4, s5, s6⟩
  go_simp
  with_reducible rfl
 rotate_left
 ·simp only [Act.put, List.setIfInBounds_toArray, List.set_cons_zero, List.set_cons_succ, i64_w, i32_w]
  rfl
 refine take_ (i := 14) (N := some 21) (v := ?_) (a' := ?_) #[true, true, true, true, true, true, true, true, true, true, true, true, true, true, true, false, false, false] rfl rfl (take_ofW HT_.out HW_.out (by kernel_rfl)) (fun _ _ _ h => h) (Or.inl ⟨by rfl, ?_⟩) hHeld ?_ ?_
 rotate_left
 ·rintro w' ⟨s0, s1, s2, s3, s4, s5, s6⟩
  go_simp
  with_reducible rfl
 rotate_left
 ·simp only [Act.put, List.setIfInBounds_toArray, List.set_cons_zero, List.set_cons_succ, i64_w, i32_w]
  rfl
 refine one_ (i := 15) (N := some 22) #[true, true, true, true, true, true, true, true, true, true, true, true, true, true, true, true, false, false] rfl rfl (one_of HT_.out (by kernel_rfl)) (by decide) (fun K hK => ?_)
 refine goes_ Try.func80 (by kernel_rfl) rfl #[.agg #[.int .i64 a0_0, .int .i64 a0_1, .slice A0_2 l0_2.length c0_2], .agg #[.int .i64 a1_0, .int .i64 a1_1], .int .i64 (rd l2 (ji5)), .int .i64 (rd l2 0)] (by rfl) rfl rfl (by (try simp only [List.map_toArray, List.map_cons, List.map_nil]); first | done | (simp only [hji5]; rfl) | rfl | (simp only [List.length_drop, List.length_take]; rfl)) ?_
 with_reducible refine (spec_boIs.calls a0_0 a0_1 _ _ l0_2 a1_0 a1_1 (rd l2 (ji5)) (rd l2 0) t514 _ ?side1 ?side2 A9.out).mono ?_
 (case side1 => exact zv4)
 (case side2 => exact HC0_2.out)
 rintro e w13 ⟨rfl, hb⟩
 refine ⟨_, rfl, ?_⟩
 have n0_ := Aside0.mk (blk_below (g := gb510) (o := .cells #[.int .i64 a0_0, .int .i64 a0_1, .slice A0_2 l0_2.length c0_2] 30 (0, 0)) zv9 hb)
 have n1_ := Aside0.mk (blk_below (g := gb511) (o := .cells #[.int .i64 a1_0, .int .i64 a1_1] 32 (0, 0)) (by first | exact BK511.out | ((with_reducible repeat (first | refine blk_drewN ?_ _ | refine blk_drew ?_ | refine blk_alloc ?_ _)); exact BK511.out)) hb)
 have n2_ := Aside0.mk (below_step zv11 hb)
 clear BK510
 clear BK511
 clear HB
 have BK510 := n0_
 have BK511 := n1_
 have HB := n2_
 clear n0_ n1_ n2_
 (try clear hb)
 (try clear hb2)
 (try clear hk)
 (try clear hi)
 (try clear hna_)
 (try clear hnb_)
 refine hK.out _ _ ⟨(blk_cell BK510.out 0).trans rfl, (blk_cell BK510.out 1).trans rfl, (blk_cell BK510.out 2).trans rfl, (blk_cell BK511.out 0).trans rfl, (blk_cell BK511.out 1).trans rfl, ((HB.out.cell (World.block_lt_of_cell? w _ hw512_0)).trans hw512_0), ((HB.out.cell (World.block_lt_of_cell? w _ hw513_0)).trans hw513_0)⟩ (fun hHeld => ?_)
 clear hK K
 refine norm_ (a' := ?_) ?_ ?_
 rotate_left
 ·show Act.put _ (some 22) _ = _
  simp only [Act.put, List.setIfInBounds_toArray, List.set_cons_zero, List.set_cons_succ, i64_w, i32_w]
  rfl
 refine pure_ (i := 16) (N := some 23) (v := ?_) (a' := ?_) #[true, true, true, true, true, true, true, true, true, true, true, true, true, true, true, true, true, false] rfl rfl (any_of HT_.out (by kernel_rfl)) (fun _ _ _ h => h) (Or.inl ⟨by rfl, ?_⟩) ?_ ?_
 rotate_left
 ·intro w'
  go_simp
  with_reducible rfl
 rotate_left
 ·simp only [Act.put, List.setIfInBounds_toArray, List.set_cons_zero, List.set_cons_succ, i64_w, i32_w]
  rfl
 refine pure_ (i := 17) (N := some 6) (v := ?_) (a' := ?_) #[true, true, true, true, true, true, true, true, true, true, true, true, true, true, true, true, true, true] rfl rfl (any_of HT_.out (by kernel_rfl)) (fun _ _ _ h => h) (Or.inl ⟨by rfl, ?_⟩) ?_ ?_
 rotate_left
 ·intro w'
  go_simp
  with_reducible rfl
 rotate_left
 ·simp only [Act.put, List.setIfInBounds_toArray, List.set_cons_zero, List.set_cons_succ, i64_w, i32_w]
  rfl
 refine done_ (done_of HT_.out (by kernel_rfl)) ?_
 try go_wp2
 go_ret
 exact ⟨by first | rfl | (simp [errW_none, errW_some] <;> rfl) | (simp only [← hji5]; first | rfl | (simp [errW_none, errW_some] <;> rfl)) | (simp [*, errW_none, errW_some] <;> rfl), zv11⟩

/-! ### spec_blTwo: function 49 -/
mutual
def spec_blTwo.j0 : Nat → List Int → List Int → Bool → Option (Bool)
 | 0, _, _, _ => none
 | k + 1, x2, x3, x36 => if x36 = true then (some false) else (spec_blTwo.l0 k x3 x2 (x2.length : Int) 0)
def spec_blTwo.l0 : Nat → List Int → List Int → Int → Int → Option (Bool)
 | 0, _, _, _, _ => none
 | k + 1, x3, x37, x38, x39 => if x39 < x38 then (if 0 ≤ x39 then (if x39 < (x37.length : Int) then ((spec_l1Has.f k x3 (rd x37 x39)).bind fun t522 => (if t522 = true then (some false) else (spec_blTwo.l0 k x3 x37 x38 (wrap64 (x39 + 1))))) else (none)) else (none)) else (some true)
end
def spec_blTwo.f (k : Nat) (a0_0 : Int) (a0_1 : Int) (l0_2 : List Int) (a1_0 : Int) (a1_1 : Int) (l2 : List Int) (l3 : List Int) : Option (Bool) := (spec_blWalk.f k a0_0 a0_1 l0_2 a1_0 a1_1 l2).bind fun t517 => (if t517 = true then ((spec_blWalk.f k a0_0 a0_1 l0_2 a1_0 a1_1 l3).bind fun t518 => (if t518 = true then ((spec_blClosed.f a0_0 a0_1 l0_2 a1_0 a1_1 l2).bind fun t519 => (if t519 = true then ((spec_blClosed.f a0_0 a0_1 l0_2 a1_0 a1_1 l3).bind fun t520 => (spec_blTwo.j0 k l2 l3 (!t520))) else (spec_blTwo.j0 k l2 l3 true))) else (spec_blTwo.j0 k l2 l3 true))) else (spec_blTwo.j0 k l2 l3 true))
set_option maxHeartbeats 8000000 in
set_option maxRecDepth 100000 in
theorem spec_blTwo.calls (k : Nat) (a0_0 : Int) (a0_1 : Int) (A0_2 : Option Addr) (c0_2 : Nat) (l0_2 : List Int) (a1_0 : Int) (a1_1 : Int) (A2 : Option Addr) (c2 : Nat) (l2 : List Int) (A3 : Option Addr) (c3 : Nat) (l3 : List Int) (r : Bool) (w : World) (hr0_2 : Kd.C (Kd.int .i64) w A0_2 l0_2.length l0_2) (hc0_2 : l0_2.length ≤ c0_2) (hr2 : Kd.C (Kd.int .i64) w A2 l2.length l2) (hc2 : l2.length ≤ c2) (hr3 : Kd.C (Kd.int .i64) w A3 l3.length l3) (hc3 : l3.length ≤ c3) (h : spec_blTwo.f k a0_0 a0_1 l0_2 a1_0 a1_1 l2 l3 = some r) :
  Calls Try.prog 49 #[.agg #[.int .i64 a0_0, .int .i64 a0_1, .slice A0_2 l0_2.length c0_2], .agg #[.int .i64 a1_0, .int .i64 a1_1], .slice A2 l2.length c2, .slice A3 l3.length c3] w fun e w' => e = .returned (.bool r) ∧ Below w.heap.size w w' := by
 have hu30 := Try.underlying30
 have hu32 := Try.underlying32
 have HR0_2 := Aside0.mk hr0_2
 have HC0_2 := Aside0.mk hc0_2
 clear hr0_2 hc0_2
 have HR2 := Aside0.mk hr2
 have HC2 := Aside0.mk hc2
 clear hr2 hc2
 have HR3 := Aside0.mk hr3
 have HC3 := Aside0.mk hc3
 clear hr3 hc3
 have HB := Aside0.mk (Below.refl w.heap.size w)
 have H : ((spec_blWalk.f k a0_0 a0_1 l0_2 a1_0 a1_1 l2).bind fun t517 => (if t517 = true then ((spec_blWalk.f k a0_0 a0_1 l0_2 a1_0 a1_1 l3).bind fun t518 => (if t518 = true then ((spec_blClosed.f a0_0 a0_1 l0_2 a1_0 a1_1 l2).bind fun t519 => (if t519 = true then ((spec_blClosed.f a0_0 a0_1 l0_2 a1_0 a1_1 l3).bind fun t520 => (spec_blTwo.j0 k l2 l3 (!t520))) else (spec_blTwo.j0 k l2 l3 true))) else (spec_blTwo.j0 k l2 l3 true))) else (spec_blTwo.j0 k l2 l3 true))) = some r := h
 clear h
 have HC5 := Aside0.mk H
 clear H
 go_enter Try.func49, Try.ntmps49
 go_upto_region 1 with (first | ((with_reducible refine gate_dst (N := 4) rfl ?_); refine box_event ?hg (N := 4) ?hd (cs := #[.int .i64 a0_0, .int .i64 a0_1, .slice A0_2 l0_2.length c0_2]) (t := 30) ?hr ?_; (case hd => rfl); (case hg => rfl); (case hr => first | (go_simp; done) | (go_simp; rfl)); intro gb515 hg w6 hbox hb; have n0_ := Aside0.mk (below_step zv5 hb); have n1_ := Aside0.mk (hbox); have n2_ := Aside0.mk ((zv16 : w.heap.size ≤ gb515)); have n3_ := Aside0.mk ((zv16 : w.heap.size ≤ gb515)); clear HB; have HB := n0_; have BK515 := n1_; have GW515 := n2_; have GE515 := n3_; clear n0_ n1_ n2_ n3_; clear hb hbox hg) | ((with_reducible refine gate_dst (N := 5) rfl ?_); refine box_event ?hg (N := 5) ?hd (cs := #[.int .i64 a1_0, .int .i64 a1_1]) (t := 32) ?hr ?_; (case hd => rfl); (case hg => rfl); (case hr => first | (go_simp; done) | (go_simp; rfl)); intro gb516 hg w7 hbox hb; have n0_ := Aside0.mk (blk_below (g := gb515) (o := .cells #[.int .i64 a0_0, .int .i64 a0_1, .slice A0_2 l0_2.length c0_2] 30 (0, 0)) zv2 hb); have n1_ := Aside0.mk (below_step zv12 hb); have n2_ := Aside0.mk (hbox); have n3_ := Aside0.mk ((by rw [hg]; exact (below_size zv12) : w.heap.size ≤ gb516)); have n4_ := Aside0.mk ((by rw [hg]; exact (below_size zv12) : w.heap.size ≤ gb516)); have n5_ := Aside0.mk ((by rw [hg]; exact Nat.ne_of_lt (blk_lt (g := gb515) (o := .cells #[.int .i64 a0_0, .int .i64 a0_1, .slice A0_2 l0_2.length c0_2] 30 (0, 0)) zv2) : gb515 ≠ gb516)); have n6_ := Aside0.mk ((by rw [hg]; exact Nat.ne_of_gt (blk_lt (g := gb515) (o := .cells #[.int .i64 a0_0, .int .i64 a0_1, .slice A0_2 l0_2.length c0_2] 30 (0, 0)) zv2) : gb516 ≠ gb515)); clear BK515; clear HB; have BK515 := n0_; have HB := n1_; have BK516 := n2_; have GW516 := n3_; have GE516 := n4_; have NB515_516 := n5_; have NB516_515 := n6_; clear n0_ n1_ n2_ n3_ n4_ n5_ n6_; clear hb hbox hg))
 (try simp only [Act.put, List.setIfInBounds_toArray, List.set_cons_zero, List.set_cons_succ])
 go_cut [36] (fun v36 wc => ∃ (kq : Nat) (x36_4 : Bool), v36 = .bool x36_4 ∧ Aside0 (spec_blTwo.j0 kq l2 l3 x36_4 = some r) ∧ Aside0 (kq ≤ k) ∧ Aside0 (wc.heap[gb515]? = some (.cells #[.int .i64 a0_0, .int .i64 a0_1, (.slice A0_2 l0_2.length c0_2)] 30 (0, 0))) ∧ Aside0 (wc.heap[gb516]? = some (.cells #[.int .i64 a1_0, .int .i64 a1_1] 32 (0, 0))) ∧ Aside0 (Below w.heap.size w wc))
 case first =>
  have H := HC5.out
  clear HC5
  replace H := Option.bind_eq_some_iff.mp H
  obtain ⟨t517, A80, H⟩ := H
  replace H : (if t517 = true then ((spec_blWalk.f k a0_0 a0_1 l0_2 a1_0 a1_1 l3).bind fun t518 => (if t518 = true then ((spec_blClosed.f a0_0 a0_1 l0_2 a1_0 a1_1 l2).bind fun t519 => (if t519 = true then ((spec_blClosed.f a0_0 a0_1 l0_2 a1_0 a1_1 l3).bind fun t520 => (spec_blTwo.j0 k l2 l3 (!t520))) else (spec_blTwo.j0 k l2 l3 true))) else (spec_blTwo.j0 k l2 l3 true))) else (spec_blTwo.j0 k l2 l3 true)) = some r := H
  have A8 := Aside0.mk A80
  clear A80
  by_cases c9 : t517 = true
  rotate_left
  ·replace c9 := Bool.eq_false_iff.mpr c9
   subst c9
   have H1 : (spec_blTwo.j0 k l2 l3 true) = some r := by rw [if_neg (show ¬ (false = true) by decide)] at H; exact H
   clear H
   have H := H1
   clear H1
   have H' := Aside0.mk H
   clear H
   have hnb45 := NB515_516.out
   have hnc45 := NB516_515.out
   have hcz46_0 : w7.cell? ⟨gb515, 0, none⟩ = some (.int .i64 a0_0) := (blk_cell BK515.out 0).trans rfl
   have hcz46_1 : w7.cell? ⟨gb515, 1, none⟩ = some (.int .i64 a0_1) := (blk_cell BK515.out 1).trans rfl
   have hcz46_2 : w7.cell? ⟨gb515, 2, none⟩ = some (.slice A0_2 l0_2.length c0_2) := (blk_cell BK515.out 2).trans rfl
   have hfz46_0 := blk_frozen BK515.out 0
   have hfz46_1 := blk_frozen BK515.out 1
   have hfz46_2 := blk_frozen BK515.out 2
   have hcz47_0 : w7.cell? ⟨gb516, 0, none⟩ = some (.int .i64 a1_0) := (blk_cell BK516.out 0).trans rfl
   have hcz47_1 : w7.cell? ⟨gb516, 1, none⟩ = some (.int .i64 a1_1) := (blk_cell BK516.out 1).trans rfl
   have hfz47_0 := blk_frozen BK516.out 0
   have hfz47_1 := blk_frozen BK516.out 1
   go_wp2_with (first | ((with_reducible refine gate_callee (f := 40) rfl ?_); refine goesL_ (some 14) rfl rfl Try.func40 (by kernel_rfl) rfl #[.agg #[.int .i64 a0_0, .int .i64 a0_1, .slice A0_2 l0_2.length c0_2], .agg #[.int .i64 a1_0, .int .i64 a1_1], .slice A2 l2.length c2] rfl zv10 ?_; (with_reducible refine (spec_blWalk.calls k a0_0 a0_1 _ _ l0_2 a1_0 a1_1 _ _ l2 false _ ?side1 ?side2 ?side3 ?side4 A8.out).mono ?_); (case side1 => exact zv4); (case side2 => exact HC0_2.out); (case side3 => exact zv7); (case side4 => exact HC2.out); rintro e w48 ⟨rfl, hb⟩; refine ⟨_, rfl, ?_⟩; have n0_ := Aside0.mk (blk_below (g := gb515) (o := .cells #[.int .i64 a0_0, .int .i64 a0_1, .slice A0_2 l0_2.length c0_2] 30 (0, 0)) zv2 hb); have n1_ := Aside0.mk (blk_below (g := gb516) (o := .cells #[.int .i64 a1_0, .int .i64 a1_1] 32 (0, 0)) zv3 hb); have n2_ := Aside0.mk (below_step zv1 hb); clear BK515; clear BK516; clear HB; have BK515 := n0_; have BK516 := n1_; have HB := n2_; clear n0_ n1_ n2_; (try clear hb); (try clear hb2); (try clear hk); (try clear hi); (try clear hna_); (try clear hnb_)))
   go_meet
   case rel => exact ⟨_, (true), zv15, H', ⟨by first | omega | exact Nat.le_refl _⟩, ⟨zv2⟩, ⟨zv3⟩, ⟨zv1⟩⟩
  subst c9
  have H1 : ((spec_blWalk.f k a0_0 a0_1 l0_2 a1_0 a1_1 l3).bind fun t518 => (if t518 = true then ((spec_blClosed.f a0_0 a0_1 l0_2 a1_0 a1_1 l2).bind fun t519 => (if t519 = true then ((spec_blClosed.f a0_0 a0_1 l0_2 a1_0 a1_1 l3).bind fun t520 => (spec_blTwo.j0 k l2 l3 (!t520))) else (spec_blTwo.j0 k l2 l3 true))) else (spec_blTwo.j0 k l2 l3 true))) = some r := by rw [if_pos rfl] at H; exact H
  clear H
  have H := H1
  clear H1
  replace H := Option.bind_eq_some_iff.mp H
  obtain ⟨t518, A100, H⟩ := H
  replace H : (if t518 = true then ((spec_blClosed.f a0_0 a0_1 l0_2 a1_0 a1_1 l2).bind fun t519 => (if t519 = true then ((spec_blClosed.f a0_0 a0_1 l0_2 a1_0 a1_1 l3).bind fun t520 => (spec_blTwo.j0 k l2 l3 (!t520))) else (spec_blTwo.j0 k l2 l3 true))) else (spec_blTwo.j0 k l2 l3 true)) = some r := H
  have A10 := Aside0.mk A100
  clear A100
  by_cases c11 : t518 = true
  rotate_left
  ·replace c11 := Bool.eq_false_iff.mpr c11
   subst c11
   have H1 : (spec_blTwo.j0 k l2 l3 true) = some r := by rw [if_neg (show ¬ (false = true) by decide)] at H; exact H
   clear H
   have H := H1
   clear H1
   have H' := Aside0.mk H
   clear H
   have hnb38 := NB515_516.out
   have hnc38 := NB516_515.out
   have hcz39_0 : w7.cell? ⟨gb515, 0, none⟩ = some (.int .i64 a0_0) := (blk_cell BK515.out 0).trans rfl
   have hcz39_1 : w7.cell? ⟨gb515, 1, none⟩ = some (.int .i64 a0_1) := (blk_cell BK515.out 1).trans rfl
   have hcz39_2 : w7.cell? ⟨gb515, 2, none⟩ = some (.slice A0_2 l0_2.length c0_2) := (blk_cell BK515.out 2).trans rfl
   have hfz39_0 := blk_frozen BK515.out 0
   have hfz39_1 := blk_frozen BK515.out 1
   have hfz39_2 := blk_frozen BK515.out 2
   have hcz40_0 : w7.cell? ⟨gb516, 0, none⟩ = some (.int .i64 a1_0) := (blk_cell BK516.out 0).trans rfl
   have hcz40_1 : w7.cell? ⟨gb516, 1, none⟩ = some (.int .i64 a1_1) := (blk_cell BK516.out 1).trans rfl
   have hfz40_0 := blk_frozen BK516.out 0
   have hfz40_1 := blk_frozen BK516.out 1
   go_wp2_with (first | ((with_reducible refine gate_callee (f := 40) rfl ?_); refine goesL_ (some 14) rfl rfl Try.func40 (by kernel_rfl) rfl #[.agg #[.int .i64 a0_0, .int .i64 a0_1, .slice A0_2 l0_2.length c0_2], .agg #[.int .i64 a1_0, .int .i64 a1_1], .slice A2 l2.length c2] rfl zv10 ?_; (with_reducible refine (spec_blWalk.calls k a0_0 a0_1 _ _ l0_2 a1_0 a1_1 _ _ l2 true _ ?side1 ?side2 ?side3 ?side4 A8.out).mono ?_); (case side1 => exact zv4); (case side2 => exact HC0_2.out); (case side3 => exact zv7); (case side4 => exact HC2.out); rintro e w41 ⟨rfl, hb⟩; refine ⟨_, rfl, ?_⟩; have n0_ := Aside0.mk (blk_below (g := gb515) (o := .cells #[.int .i64 a0_0, .int .i64 a0_1, .slice A0_2 l0_2.length c0_2] 30 (0, 0)) zv2 hb); have n1_ := Aside0.mk (blk_below (g := gb516) (o := .cells #[.int .i64 a1_0, .int .i64 a1_1] 32 (0, 0)) zv3 hb); have n2_ := Aside0.mk (below_step zv1 hb); clear BK515; clear BK516; clear HB; have BK515 := n0_; have BK516 := n1_; have HB := n2_; clear n0_ n1_ n2_; (try clear hb); (try clear hb2); (try clear hk); (try clear hi); (try clear hna_); (try clear hnb_); have hcz42_0 : w41.cell? ⟨gb515, 0, none⟩ = some (.int .i64 a0_0) := (blk_cell BK515.out 0).trans rfl; have hcz42_1 : w41.cell? ⟨gb515, 1, none⟩ = some (.int .i64 a0_1) := (blk_cell BK515.out 1).trans rfl; have hcz42_2 : w41.cell? ⟨gb515, 2, none⟩ = some (.slice A0_2 l0_2.length c0_2) := (blk_cell BK515.out 2).trans rfl; have hfz42_0 := blk_frozen BK515.out 0; have hfz42_1 := blk_frozen BK515.out 1; have hfz42_2 := blk_frozen BK515.out 2; have hcz43_0 : w41.cell? ⟨gb516, 0, none⟩ = some (.int .i64 a1_0) := (blk_cell BK516.out 0).trans rfl; have hcz43_1 : w41.cell? ⟨gb516, 1, none⟩ = some (.int .i64 a1_1) := (blk_cell BK516.out 1).trans rfl; have hfz43_0 := blk_frozen BK516.out 0; have hfz43_1 := blk_frozen BK516.out 1) | (go_at_call 40; (with_reducible refine (spec_blWalk.calls k a0_0 a0_1 _ _ l0_2 a1_0 a1_1 _ _ l3 false _ ?side1 ?side2 ?side3 ?side4 A10.out).mono ?_); (case side1 => exact zv4); (case side2 => exact HC0_2.out); (case side3 => exact zv6); (case side4 => exact HC3.out); rintro e w44 ⟨rfl, hb⟩; have n0_ := Aside0.mk (blk_below (g := gb515) (o := .cells #[.int .i64 a0_0, .int .i64 a0_1, .slice A0_2 l0_2.length c0_2] 30 (0, 0)) zv2 hb); have n1_ := Aside0.mk (blk_below (g := gb516) (o := .cells #[.int .i64 a1_0, .int .i64 a1_1] 32 (0, 0)) zv3 hb); have n2_ := Aside0.mk (below_step zv1 hb); clear BK515; clear BK516; clear HB; have BK515 := n0_; have BK516 := n1_; have HB := n2_; clear n0_ n1_ n2_; (try clear hb); (try clear hb2); (try clear hk); (try clear hi); (try clear hna_); (try clear hnb_)))
   go_meet
   case rel => exact ⟨_, (true), zv15, H', ⟨by first | omega | exact Nat.le_refl _⟩, ⟨zv2⟩, ⟨zv3⟩, ⟨zv1⟩⟩
  subst c11
  have H1 : ((spec_blClosed.f a0_0 a0_1 l0_2 a1_0 a1_1 l2).bind fun t519 => (if t519 = true then ((spec_blClosed.f a0_0 a0_1 l0_2 a1_0 a1_1 l3).bind fun t520 => (spec_blTwo.j0 k l2 l3 (!t520))) else (spec_blTwo.j0 k l2 l3 true))) = some r := by rw [if_pos rfl] at H; exact H
  clear H
  have H := H1
  clear H1
  replace H := Option.bind_eq_some_iff.mp H
  obtain ⟨t519, A120, H⟩ := H
  replace H : (if t519 = true then ((spec_blClosed.f a0_0 a0_1 l0_2 a1_0 a1_1 l3).bind fun t520 => (spec_blTwo.j0 k l2 l3 (!t520))) else (spec_blTwo.j0 k l2 l3 true)) = some r := H
  have A12 := Aside0.mk A120
  clear A120
  by_cases c13 : t519 = true
  rotate_left
  ·replace c13 := Bool.eq_false_iff.mpr c13
   subst c13
   have H1 : (spec_blTwo.j0 k l2 l3 true) = some r := by rw [if_neg (show ¬ (false = true) by decide)] at H; exact H
   clear H
   have H := H1
   clear H1
   have H' := Aside0.mk H
   clear H
   have hnb28 := NB515_516.out
   have hnc28 := NB516_515.out
   have hcz29_0 : w7.cell? ⟨gb515, 0, none⟩ = some (.int .i64 a0_0) := (blk_cell BK515.out 0).trans rfl
   have hcz29_1 : w7.cell? ⟨gb515, 1, none⟩ = some (.int .i64 a0_1) := (blk_cell BK515.out 1).trans rfl
   have hcz29_2 : w7.cell? ⟨gb515, 2, none⟩ = some (.slice A0_2 l0_2.length c0_2) := (blk_cell BK515.out 2).trans rfl
   have hfz29_0 := blk_frozen BK515.out 0
   have hfz29_1 := blk_frozen BK515.out 1
   have hfz29_2 := blk_frozen BK515.out 2
   have hcz30_0 : w7.cell? ⟨gb516, 0, none⟩ = some (.int .i64 a1_0) := (blk_cell BK516.out 0).trans rfl
   have hcz30_1 : w7.cell? ⟨gb516, 1, none⟩ = some (.int .i64 a1_1) := (blk_cell BK516.out 1).trans rfl
   have hfz30_0 := blk_frozen BK516.out 0
   have hfz30_1 := blk_frozen BK516.out 1
   go_wp2_with (first | ((with_reducible refine gate_callee (f := 40) rfl ?_); refine goesL_ (some 14) rfl rfl Try.func40 (by kernel_rfl) rfl #[.agg #[.int .i64 a0_0, .int .i64 a0_1, .slice A0_2 l0_2.length c0_2], .agg #[.int .i64 a1_0, .int .i64 a1_1], .slice A2 l2.length c2] rfl zv10 ?_; (with_reducible refine (spec_blWalk.calls k a0_0 a0_1 _ _ l0_2 a1_0 a1_1 _ _ l2 true _ ?side1 ?side2 ?side3 ?side4 A8.out).mono ?_); (case side1 => exact zv4); (case side2 => exact HC0_2.out); (case side3 => exact zv7); (case side4 => exact HC2.out); rintro e w31 ⟨rfl, hb⟩; refine ⟨_, rfl, ?_⟩; have n0_ := Aside0.mk (blk_below (g := gb515) (o := .cells #[.int .i64 a0_0, .int .i64 a0_1, .slice A0_2 l0_2.length c0_2] 30 (0, 0)) zv2 hb); have n1_ := Aside0.mk (blk_below (g := gb516) (o := .cells #[.int .i64 a1_0, .int .i64 a1_1] 32 (0, 0)) zv3 hb); have n2_ := Aside0.mk (below_step zv1 hb); clear BK515; clear BK516; clear HB; have BK515 := n0_; have BK516 := n1_; have HB := n2_; clear n0_ n1_ n2_; (try clear hb); (try clear hb2); (try clear hk); (try clear hi); (try clear hna_); (try clear hnb_); have hcz32_0 : w31.cell? ⟨gb515, 0, none⟩ = some (.int .i64 a0_0) := (blk_cell BK515.out 0).trans rfl; have hcz32_1 : w31.cell? ⟨gb515, 1, none⟩ = some (.int .i64 a0_1) := (blk_cell BK515.out 1).trans rfl; have hcz32_2 : w31.cell? ⟨gb515, 2, none⟩ = some (.slice A0_2 l0_2.length c0_2) := (blk_cell BK515.out 2).trans rfl; have hfz32_0 := blk_frozen BK515.out 0; have hfz32_1 := blk_frozen BK515.out 1; have hfz32_2 := blk_frozen BK515.out 2; have hcz33_0 : w31.cell? ⟨gb516, 0, none⟩ = some (.int .i64 a1_0) := (blk_cell BK516.out 0).trans rfl; have hcz33_1 : w31.cell? ⟨gb516, 1, none⟩ = some (.int .i64 a1_1) := (blk_cell BK516.out 1).trans rfl; have hfz33_0 := blk_frozen BK516.out 0; have hfz33_1 := blk_frozen BK516.out 1) | (go_at_call 40; (with_reducible refine (spec_blWalk.calls k a0_0 a0_1 _ _ l0_2 a1_0 a1_1 _ _ l3 true _ ?side1 ?side2 ?side3 ?side4 A10.out).mono ?_); (case side1 => exact zv4); (case side2 => exact HC0_2.out); (case side3 => exact zv6); (case side4 => exact HC3.out); rintro e w34 ⟨rfl, hb⟩; have n0_ := Aside0.mk (blk_below (g := gb515) (o := .cells #[.int .i64 a0_0, .int .i64 a0_1, .slice A0_2 l0_2.length c0_2] 30 (0, 0)) zv2 hb); have n1_ := Aside0.mk (blk_below (g := gb516) (o := .cells #[.int .i64 a1_0, .int .i64 a1_1] 32 (0, 0)) zv3 hb); have n2_ := Aside0.mk (below_step zv1 hb); clear BK515; clear BK516; clear HB; have BK515 := n0_; have BK516 := n1_; have HB := n2_; clear n0_ n1_ n2_; (try clear hb); (try clear hb2); (try clear hk); (try clear hi); (try clear hna_); (try clear hnb_); have hcz35_0 : w34.cell? ⟨gb515, 0, none⟩ = some (.int .i64 a0_0) := (blk_cell BK515.out 0).trans rfl; have hcz35_1 : w34.cell? ⟨gb515, 1, none⟩ = some (.int .i64 a0_1) := (blk_cell BK515.out 1).trans rfl; have hcz35_2 : w34.cell? ⟨gb515, 2, none⟩ = some (.slice A0_2 l0_2.length c0_2) := (blk_cell BK515.out 2).trans rfl; have hfz35_0 := blk_frozen BK515.out 0; have hfz35_1 := blk_frozen BK515.out 1; have hfz35_2 := blk_frozen BK515.out 2; have hcz36_0 : w34.cell? ⟨gb516, 0, none⟩ = some (.int .i64 a1_0) := (blk_cell BK516.out 0).trans rfl; have hcz36_1 : w34.cell? ⟨gb516, 1, none⟩ = some (.int .i64 a1_1) := (blk_cell BK516.out 1).trans rfl; have hfz36_0 := blk_frozen BK516.out 0; have hfz36_1 := blk_frozen BK516.out 1) | (go_at_call 84; (with_reducible refine (spec_blClosed.calls a0_0 a0_1 _ _ l0_2 a1_0 a1_1 _ _ l2 false _ ?side1 ?side2 ?side3 ?side4 A12.out).mono ?_); (case side1 => exact zv4); (case side2 => exact HC0_2.out); (case side3 => exact zv7); (case side4 => exact HC2.out); rintro e w37 ⟨rfl, hb⟩; have n0_ := Aside0.mk (blk_below (g := gb515) (o := .cells #[.int .i64 a0_0, .int .i64 a0_1, .slice A0_2 l0_2.length c0_2] 30 (0, 0)) zv2 hb); have n1_ := Aside0.mk (blk_below (g := gb516) (o := .cells #[.int .i64 a1_0, .int .i64 a1_1] 32 (0, 0)) zv3 hb); have n2_ := Aside0.mk (below_step zv1 hb); clear BK515; clear BK516; clear HB; have BK515 := n0_; have BK516 := n1_; have HB := n2_; clear n0_ n1_ n2_; (try clear hb); (try clear hb2); (try clear hk); (try clear hi); (try clear hna_); (try clear hnb_)))
   go_meet
   case rel => exact ⟨_, (true), zv15, H', ⟨by first | omega | exact Nat.le_refl _⟩, ⟨zv2⟩, ⟨zv3⟩, ⟨zv1⟩⟩
  subst c13
  have H1 : ((spec_blClosed.f a0_0 a0_1 l0_2 a1_0 a1_1 l3).bind fun t520 => (spec_blTwo.j0 k l2 l3 (!t520))) = some r := by rw [if_pos rfl] at H; exact H
  clear H
  have H := H1
  clear H1
  replace H := Option.bind_eq_some_iff.mp H
  obtain ⟨t520, A140, H⟩ := H
  replace H : (spec_blTwo.j0 k l2 l3 (!t520)) = some r := H
  have A14 := Aside0.mk A140
  clear A140
  have H' := Aside0.mk H
  clear H
  have hnb15 := NB515_516.out
  have hnc15 := NB516_515.out
  have hcz16_0 : w7.cell? ⟨gb515, 0, none⟩ = some (.int .i64 a0_0) := (blk_cell BK515.out 0).trans rfl
  have hcz16_1 : w7.cell? ⟨gb515, 1, none⟩ = some (.int .i64 a0_1) := (blk_cell BK515.out 1).trans rfl
  have hcz16_2 : w7.cell? ⟨gb515, 2, none⟩ = some (.slice A0_2 l0_2.length c0_2) := (blk_cell BK515.out 2).trans rfl
  have hfz16_0 := blk_frozen BK515.out 0
  have hfz16_1 := blk_frozen BK515.out 1
  have hfz16_2 := blk_frozen BK515.out 2
  have hcz17_0 : w7.cell? ⟨gb516, 0, none⟩ = some (.int .i64 a1_0) := (blk_cell BK516.out 0).trans rfl
  have hcz17_1 : w7.cell? ⟨gb516, 1, none⟩ = some (.int .i64 a1_1) := (blk_cell BK516.out 1).trans rfl
  have hfz17_0 := blk_frozen BK516.out 0
  have hfz17_1 := blk_frozen BK516.out 1
  go_wp2_with (first | ((with_reducible refine gate_callee (f := 40) rfl ?_); refine goesL_ (some 14) rfl rfl Try.func40 (by kernel_rfl) rfl #[.agg #[.int .i64 a0_0, .int .i64 a0_1, .slice A0_2 l0_2.length c0_2], .agg #[.int .i64 a1_0, .int .i64 a1_1], .slice A2 l2.length c2] rfl zv10 ?_; (with_reducible refine (spec_blWalk.calls k a0_0 a0_1 _ _ l0_2 a1_0 a1_1 _ _ l2 true _ ?side1 ?side2 ?side3 ?side4 A8.out).mono ?_); (case side1 => exact zv4); (case side2 => exact HC0_2.out); (case side3 => exact zv7); (case side4 => exact HC2.out); rintro e w18 ⟨rfl, hb⟩; refine ⟨_, rfl, ?_⟩; have n0_ := Aside0.mk (blk_below (g := gb515) (o := .cells #[.int .i64 a0_0, .int .i64 a0_1, .slice A0_2 l0_2.length c0_2] 30 (0, 0)) zv2 hb); have n1_ := Aside0.mk (blk_below (g := gb516) (o := .cells #[.int .i64 a1_0, .int .i64 a1_1] 32 (0, 0)) zv3 hb); have n2_ := Aside0.mk (below_step zv1 hb); clear BK515; clear BK516; clear HB; have BK515 := n0_; have BK516 := n1_; have HB := n2_; clear n0_ n1_ n2_; (try clear hb); (try clear hb2); (try clear hk); (try clear hi); (try clear hna_); (try clear hnb_); have hcz19_0 : w18.cell? ⟨gb515, 0, none⟩ = some (.int .i64 a0_0) := (blk_cell BK515.out 0).trans rfl; have hcz19_1 : w18.cell? ⟨gb515, 1, none⟩ = some (.int .i64 a0_1) := (blk_cell BK515.out 1).trans rfl; have hcz19_2 : w18.cell? ⟨gb515, 2, none⟩ = some (.slice A0_2 l0_2.length c0_2) := (blk_cell BK515.out 2).trans rfl; have hfz19_0 := blk_frozen BK515.out 0; have hfz19_1 := blk_frozen BK515.out 1; have hfz19_2 := blk_frozen BK515.out 2; have hcz20_0 : w18.cell? ⟨gb516, 0, none⟩ = some (.int .i64 a1_0) := (blk_cell BK516.out 0).trans rfl; have hcz20_1 : w18.cell? ⟨gb516, 1, none⟩ = some (.int .i64 a1_1) := (blk_cell BK516.out 1).trans rfl; have hfz20_0 := blk_frozen BK516.out 0; have hfz20_1 := blk_frozen BK516.out 1) | (go_at_call 40; (with_reducible refine (spec_blWalk.calls k a0_0 a0_1 _ _ l0_2 a1_0 a1_1 _ _ l3 true _ ?side1 ?side2 ?side3 ?side4 A10.out).mono ?_); (case side1 => exact zv4); (case side2 => exact HC0_2.out); (case side3 => exact zv6); (case side4 => exact HC3.out); rintro e w21 ⟨rfl, hb⟩; have n0_ := Aside0.mk (blk_below (g := gb515) (o := .cells #[.int .i64 a0_0, .int .i64 a0_1, .slice A0_2 l0_2.length c0_2] 30 (0, 0)) zv2 hb); have n1_ := Aside0.mk (blk_below (g := gb516) (o := .cells #[.int .i64 a1_0, .int .i64 a1_1] 32 (0, 0)) zv3 hb); have n2_ := Aside0.mk (below_step zv1 hb); clear BK515; clear BK516; clear HB; have BK515 := n0_; have BK516 := n1_; have HB := n2_; clear n0_ n1_ n2_; (try clear hb); (try clear hb2); (try clear hk); (try clear hi); (try clear hna_); (try clear hnb_); have hcz22_0 : w21.cell? ⟨gb515, 0, none⟩ = some (.int .i64 a0_0) := (blk_cell BK515.out 0).trans rfl; have hcz22_1 : w21.cell? ⟨gb515, 1, none⟩ = some (.int .i64 a0_1) := (blk_cell BK515.out 1).trans rfl; have hcz22_2 : w21.cell? ⟨gb515, 2, none⟩ = some (.slice A0_2 l0_2.length c0_2) := (blk_cell BK515.out 2).trans rfl; have hfz22_0 := blk_frozen BK515.out 0; have hfz22_1 := blk_frozen BK515.out 1; have hfz22_2 := blk_frozen BK515.out 2; have hcz23_0 : w21.cell? ⟨gb516, 0, none⟩ = some (.int .i64 a1_0) := (blk_cell BK516.out 0).trans rfl; have hcz23_1 : w21.cell? ⟨gb516, 1, none⟩ = some (.int .i64 a1_1) := (blk_cell BK516.out 1).trans rfl; have hfz23_0 := blk_frozen BK516.out 0; have hfz23_1 := blk_frozen BK516.out 1) | (go_at_call 84; (with_reducible refine (spec_blClosed.calls a0_0 a0_1 _ _ l0_2 a1_0 a1_1 _ _ l2 true _ ?side1 ?side2 ?side3 ?side4 A12.out).mono ?_); (case side1 => exact zv4); (case side2 => exact HC0_2.out); (case side3 => exact zv7); (case side4 => exact HC2.out); rintro e w24 ⟨rfl, hb⟩; have n0_ := Aside0.mk (blk_below (g := gb515) (o := .cells #[.int .i64 a0_0, .int .i64 a0_1, .slice A0_2 l0_2.length c0_2] 30 (0, 0)) zv2 hb); have n1_ := Aside0.mk (blk_below (g := gb516) (o := .cells #[.int .i64 a1_0, .int .i64 a1_1] 32 (0, 0)) zv3 hb); have n2_ := Aside0.mk (below_step zv1 hb); clear BK515; clear BK516; clear HB; have BK515 := n0_; have BK516 := n1_; have HB := n2_; clear n0_ n1_ n2_; (try clear hb); (try clear hb2); (try clear hk); (try clear hi); (try clear hna_); (try clear hnb_); have hcz25_0 : w24.cell? ⟨gb515, 0, none⟩ = some (.int .i64 a0_0) := (blk_cell BK515.out 0).trans rfl; have hcz25_1 : w24.cell? ⟨gb515, 1, none⟩ = some (.int .i64 a0_1) := (blk_cell BK515.out 1).trans rfl; have hcz25_2 : w24.cell? ⟨gb515, 2, none⟩ = some (.slice A0_2 l0_2.length c0_2) := (blk_cell BK515.out 2).trans rfl; have hfz25_0 := blk_frozen BK515.out 0; have hfz25_1 := blk_frozen BK515.out 1; have hfz25_2 := blk_frozen BK515.out 2; have hcz26_0 : w24.cell? ⟨gb516, 0, none⟩ = some (.int .i64 a1_0) := (blk_cell BK516.out 0).trans rfl; have hcz26_1 : w24.cell? ⟨gb516, 1, none⟩ = some (.int .i64 a1_1) := (blk_cell BK516.out 1).trans rfl; have hfz26_0 := blk_frozen BK516.out 0; have hfz26_1 := blk_frozen BK516.out 1) | (go_at_call 84; (with_reducible refine (spec_blClosed.calls a0_0 a0_1 _ _ l0_2 a1_0 a1_1 _ _ l3 t520 _ ?side1 ?side2 ?side3 ?side4 A14.out).mono ?_); (case side1 => exact zv4); (case side2 => exact HC0_2.out); (case side3 => exact zv6); (case side4 => exact HC3.out); rintro e w27 ⟨rfl, hb⟩; have n0_ := Aside0.mk (blk_below (g := gb515) (o := .cells #[.int .i64 a0_0, .int .i64 a0_1, .slice A0_2 l0_2.length c0_2] 30 (0, 0)) zv2 hb); have n1_ := Aside0.mk (blk_below (g := gb516) (o := .cells #[.int .i64 a1_0, .int .i64 a1_1] 32 (0, 0)) zv3 hb); have n2_ := Aside0.mk (below_step zv1 hb); clear BK515; clear BK516; clear HB; have BK515 := n0_; have BK516 := n1_; have HB := n2_; clear n0_ n1_ n2_; (try clear hb); (try clear hb2); (try clear hk); (try clear hi); (try clear hna_); (try clear hnb_)))
  go_meet
  case rel => exact ⟨_, (!t520), zv15, H', ⟨by first | omega | exact Nat.le_refl _⟩, ⟨zv2⟩, ⟨zv3⟩, ⟨zv1⟩⟩
 case rest =>
  clear HC5
  try clear c1; try clear c2; try clear p2; try clear c3; try clear c4; try clear c9; try clear c11; try clear c13; try clear c15; try clear c28; try clear c38; try clear c40; try clear c45; try clear hcz16_0; try clear hcz16_1; try clear hcz16_2; try clear hcz17_0; try clear hcz17_1; try clear hcz19_0; try clear hcz19_1; try clear hcz19_2; try clear hcz20_0; try clear hcz20_1; try clear hcz22_0; try clear hcz22_1; try clear hcz22_2; try clear hcz23_0; try clear hcz23_1; try clear hcz25_0; try clear hcz25_1; try clear hcz25_2; try clear hcz26_0; try clear hcz26_1; try clear hcz29_0; try clear hcz29_1
  try clear hcz29_2; try clear hcz30_0; try clear hcz30_1; try clear hcz32_0; try clear hcz32_1; try clear hcz32_2; try clear hcz33_0; try clear hcz33_1; try clear hcz35_0; try clear hcz35_1; try clear hcz35_2; try clear hcz36_0; try clear hcz36_1; try clear hcz39_0; try clear hcz39_1; try clear hcz39_2; try clear hcz40_0; try clear hcz40_1; try clear hcz42_0; try clear hcz42_1; try clear hcz42_2; try clear hcz43_0; try clear hcz43_1; try clear hcz46_0; try clear hcz46_1; try clear hcz46_2; try clear hcz47_0; try clear hcz47_1; try clear hfz16_0; try clear hfz16_1; try clear hfz16_2; try clear hfz17_0
  try clear hfz17_1; try clear hfz19_0; try clear hfz19_1; try clear hfz19_2; try clear hfz20_0; try clear hfz20_1; try clear hfz22_0; try clear hfz22_1; try clear hfz22_2; try clear hfz23_0; try clear hfz23_1; try clear hfz25_0; try clear hfz25_1; try clear hfz25_2; try clear hfz26_0; try clear hfz26_1; try clear hfz29_0; try clear hfz29_1; try clear hfz29_2; try clear hfz30_0; try clear hfz30_1; try clear hfz32_0; try clear hfz32_1; try clear hfz32_2; try clear hfz33_0; try clear hfz33_1; try clear hfz35_0; try clear hfz35_1; try clear hfz35_2; try clear hfz36_0; try clear hfz36_1; try clear hfz39_0
  try clear hfz39_1; try clear hfz39_2; try clear hfz40_0; try clear hfz40_1; try clear hfz42_0; try clear hfz42_1; try clear hfz42_2; try clear hfz43_0; try clear hfz43_1; try clear hfz46_0; try clear hfz46_1; try clear hfz46_2; try clear hfz47_0; try clear hfz47_1
  obtain ⟨kq, x36_4, rfl, HA, HJ4, BK515, BK516, HB⟩ := hcut
  cases kq with
  | zero => exact absurd HA.out (by simp [spec_blTwo.j0])
  | succ kj4 =>
   have H := HA.out
   clear HA
   simp only [spec_blTwo.j0] at H
   by_cases c49 : x36_4 = true
   ·subst c49
    have H1 : (some false) = some r := by rw [if_pos rfl] at H; exact H
    clear H
    have H := H1
    clear H1
    obtain rfl := Option.some.inj H
    go_wp2
    go_ret
    exact ⟨zv13, zv1⟩
   replace c49 := Bool.eq_false_iff.mpr c49
   subst c49
   have H1 : (spec_blTwo.l0 kj4 l3 l2 (l2.length : Int) 0) = some r := by rw [if_neg (show ¬ (false = true) by decide)] at H; exact H
   clear H
   have H := H1
   clear H1
   have H' := Aside0.mk H
   clear H
   go_wp2
   go_loopg [39] kj4 (fun kq v39 w' => ∃ (x39_2 : Int), v39 = .int .i64 x39_2 ∧ Aside0 (spec_blTwo.l0 kq l3 l2 (l2.length : Int) x39_2 = some r) ∧ Aside0 (kq ≤ kj4) ∧ Aside0 (w'.heap[gb515]? = some (.cells #[.int .i64 a0_0, .int .i64 a0_1, (.slice A0_2 l0_2.length c0_2)] 30 (0, 0))) ∧ Aside0 (w'.heap[gb516]? = some (.cells #[.int .i64 a1_0, .int .i64 a1_1] 32 (0, 0))) ∧ Aside0 (Below w.heap.size w w'))
   case atStart => exact ⟨(0), zv15, H', ⟨Nat.le_refl _⟩, ⟨zv2⟩, ⟨zv3⟩, ⟨zv1⟩⟩
   case round =>
    clear H'
    try clear c1; try clear c2; try clear p2; try clear c3; try clear c4; try clear c9; try clear c11; try clear c13; try clear c15; try clear c28; try clear c38; try clear c40; try clear c45; try clear c49; try clear hcz16_0; try clear hcz16_1; try clear hcz16_2; try clear hcz17_0; try clear hcz17_1; try clear hcz19_0; try clear hcz19_1; try clear hcz19_2; try clear hcz20_0; try clear hcz20_1; try clear hcz22_0; try clear hcz22_1; try clear hcz22_2; try clear hcz23_0; try clear hcz23_1; try clear hcz25_0; try clear hcz25_1; try clear hcz25_2; try clear hcz26_0; try clear hcz26_1; try clear hcz29_0
    try clear hcz29_1; try clear hcz29_2; try clear hcz30_0; try clear hcz30_1; try clear hcz32_0; try clear hcz32_1; try clear hcz32_2; try clear hcz33_0; try clear hcz33_1; try clear hcz35_0; try clear hcz35_1; try clear hcz35_2; try clear hcz36_0; try clear hcz36_1; try clear hcz39_0; try clear hcz39_1; try clear hcz39_2; try clear hcz40_0; try clear hcz40_1; try clear hcz42_0; try clear hcz42_1; try clear hcz42_2; try clear hcz43_0; try clear hcz43_1; try clear hcz46_0; try clear hcz46_1; try clear hcz46_2; try clear hcz47_0; try clear hcz47_1; try clear hfz16_0; try clear hfz16_1; try clear hfz16_2
    try clear hfz17_0; try clear hfz17_1; try clear hfz19_0; try clear hfz19_1; try clear hfz19_2; try clear hfz20_0; try clear hfz20_1; try clear hfz22_0; try clear hfz22_1; try clear hfz22_2; try clear hfz23_0; try clear hfz23_1; try clear hfz25_0; try clear hfz25_1; try clear hfz25_2; try clear hfz26_0; try clear hfz26_1; try clear hfz29_0; try clear hfz29_1; try clear hfz29_2; try clear hfz30_0; try clear hfz30_1; try clear hfz32_0; try clear hfz32_1; try clear hfz32_2; try clear hfz33_0; try clear hfz33_1; try clear hfz35_0; try clear hfz35_1; try clear hfz35_2; try clear hfz36_0; try clear hfz36_1
    try clear hfz39_0; try clear hfz39_1; try clear hfz39_2; try clear hfz40_0; try clear hfz40_1; try clear hfz42_0; try clear hfz42_1; try clear hfz42_2; try clear hfz43_0; try clear hfz43_1; try clear hfz46_0; try clear hfz46_1; try clear hfz46_2; try clear hfz47_0; try clear hfz47_1; try clear p2
    obtain ⟨x39_2, rfl, HA, HK2, BK515, BK516, HB⟩ := hrel
    cases gk with
    | zero => exact absurd HA.out (by simp [spec_blTwo.l0])
    | succ k2 =>
     have H := HA.out
     clear HA
     simp only [spec_blTwo.l0] at H
     by_cases c50 : x39_2 < (l2.length : Int)
     rotate_left
     ·rw [if_neg c50] at H
      have c50b0 : decide (x39_2 < (l2.length : Int)) = false := decide_eq_false c50
      clear c50
      obtain rfl := Option.some.inj H
      go_wp2
      go_ret
      exact ⟨zv13, zv1⟩
     rw [if_pos c50] at H
     have c50b0 : decide (x39_2 < (l2.length : Int)) = true := decide_eq_true c50
     clear c50
     by_cases c51 : 0 ≤ x39_2
     rotate_left
     ·rw [if_neg c51] at H
      exact absurd H (by simp)
     rw [if_pos c51] at H
     have c51b0 : decide (0 ≤ x39_2) = true := decide_eq_true c51
     clear c51
     by_cases c52 : x39_2 < (l2.length : Int)
     rotate_left
     ·rw [if_neg c52] at H
      exact absurd H (by simp)
     rw [if_pos c52] at H
     have c52b0 : decide (x39_2 < (l2.length : Int)) = true := decide_eq_true c52
     clear c52
     replace H := Option.bind_eq_some_iff.mp H
     obtain ⟨t522, A530, H⟩ := H
     replace H : (if t522 = true then (some false) else (spec_blTwo.l0 k2 l3 l2 (l2.length : Int) (wrap64 (x39_2 + 1)))) = some r := H
     have A53 := Aside0.mk A530
     clear A530
     by_cases c54 : t522 = true
     ·subst c54
      have H1 : (some false) = some r := by rw [if_pos rfl] at H; exact H
      clear H
      have H := H1
      clear H1
      obtain rfl := Option.some.inj H
      have p521 : 0 ≤ (x39_2 : Int) := of_decide_eq_true zv14
      have q521 : x39_2 < (l2.length : Int) := of_decide_eq_true zv14
      obtain ⟨ad521, e521, hx521_0⟩ := Kd.at_int HR2.out x39_2 p521 q521
      cases e521
      (first | replace hx521_0 := (HB.out.cell (World.block_lt_of_cell? w _ hx521_0)).trans hx521_0 | skip)
      replace p521 := eq_true p521
      replace q521 := eq_true q521
      go_wp2_with (first | ((with_reducible refine gate_callee (f := 65) rfl ?_); refine goesL_ (some 45) rfl rfl Try.func65 (by kernel_rfl) rfl #[.slice A3 l3.length c3, .int .i64 (rd l2 x39_2)] rfl zv10 ?_; (with_reducible refine (spec_l1Has.calls k2 _ _ l3 (rd l2 x39_2) true _ ?side1 ?side2 A53.out).mono ?_); (case side1 => exact zv6); (case side2 => exact HC3.out); rintro e w' ⟨rfl, ⟨nd, rfl⟩⟩; refine ⟨_, rfl, ?_⟩))
      go_ret
      exact ⟨zv13, zv1⟩
     replace c54 := Bool.eq_false_iff.mpr c54
     subst c54
     have H1 : (spec_blTwo.l0 k2 l3 l2 (l2.length : Int) (wrap64 (x39_2 + 1))) = some r := by rw [if_neg (show ¬ (false = true) by decide)] at H; exact H
     clear H
     have H := H1
     clear H1
     have H' := Aside0.mk H
     clear H
     have p521 : 0 ≤ (x39_2 : Int) := of_decide_eq_true zv14
     have q521 : x39_2 < (l2.length : Int) := of_decide_eq_true zv14
     obtain ⟨ad521, e521, hx521_0⟩ := Kd.at_int HR2.out x39_2 p521 q521
     cases e521
     (first | replace hx521_0 := (HB.out.cell (World.block_lt_of_cell? w _ hx521_0)).trans hx521_0 | skip)
     replace p521 := eq_true p521
     replace q521 := eq_true q521
     go_wp2_with (first | ((with_reducible refine gate_callee (f := 65) rfl ?_); refine goesL_ (some 45) rfl rfl Try.func65 (by kernel_rfl) rfl #[.slice A3 l3.length c3, .int .i64 (rd l2 x39_2)] rfl zv10 ?_; (with_reducible refine (spec_l1Has.calls k2 _ _ l3 (rd l2 x39_2) false _ ?side1 ?side2 A53.out).mono ?_); (case side1 => exact zv6); (case side2 => exact HC3.out); rintro e w' ⟨rfl, ⟨nd, rfl⟩⟩; refine ⟨_, rfl, ?_⟩))
     go_roundg k2
     case measure => have := HJ4.out; have := HK2.out; omega
     case rel => exact ⟨(wrap64 (x39_2 + 1)), zv15, H', ⟨by have := HJ4.out; have := HK2.out; omega⟩, ⟨zv2⟩, ⟨zv3⟩, ⟨zv1⟩⟩

end Go.Proofs.Ytbecdckdbeoomaa.Q

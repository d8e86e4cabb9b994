/- Written by a program of this session: functions of the translation as plain Lean functions, each with a proof that the call does what the plain function says; the conditions stand in each theorem. -/
import Derived.Test.YtjeongckkfkehaaQ0
import Derived.Test.YtjeongckkfkehaaQ2
import Derived.Test.YtjeongckkfkehaaQ17
namespace Go.Proofs.Ytjeongckkfkehaa.Q
open Go.RowKit Go.Proofs.YtjeongckkfkehaaW.PrintWords Go.Proofs.YtjeongckkfkehaaW.PrintLast Go.Proofs.YtjeongckkfkehaaW.PrintMore
attribute [local go_sem] max2_int min2_int max_two min_two max_three min_three max_four min_four   -- for this text's walks alone
set_option linter.unusedVariables false
set_option linter.unusedSimpArgs false

theorem zp1 {p : Prop} (h : p := by repeat (first | (with_reducible first | exact HB.out | apply below_alloc | apply pw_below_drewN | apply below_drew1 | refine below_set ?_ GE0.out) | exact HB.out)) : p := h
theorem zp2 {p : Prop} (h : p := by repeat (first | exact (Kd.R_reads' HO_5.out).2.2 | (with_reducible refine Kd.C_alloc ?_ _) | (with_reducible refine Kd.C_drewN ?_ _) | (with_reducible refine Kd.C_drew ?_))) : p := h
theorem zp3 {p : Prop} (h : p := by (with_reducible repeat (first | refine blk_drewN ?_ _ | refine blk_drew ?_ | refine blk_alloc ?_ _)); exact BK0.out) : p := h
theorem zp4 {p : Prop} (h : p := by repeat (first | (with_reducible first | exact HB.out | apply below_alloc | apply pw_below_drewN | apply below_drew1 | refine below_set ?_ GE382.out | refine below_set ?_ GE383.out) | exact HB.out)) : p := h
theorem zp5 {p : Prop} (h : p := by (with_reducible repeat (first | apply Kd.R_alloc | apply Kd.R_drewN | apply Kd.R_drew)); exact HO_5.out) : p := h
theorem zp6 {p : Prop} (h : p := by (with_reducible repeat (first | refine blk_drewN ?_ _ | refine blk_drew ?_ | refine blk_alloc ?_ _)); exact BK382.out) : p := h
theorem zp7 {p : Prop} (h : p := by first | (with_reducible assumption) | assumption) : p := h
theorem zp8 {p : Prop} (h : p := by repeat (first | (with_reducible first | exact HB.out | apply below_alloc | apply pw_below_drewN | apply below_drew1 | refine below_set ?_ GE382.out) | exact HB.out)) : p := h
theorem zp9 {p : Prop} (h : p := by first | rfl | (simp; done) | (simp [*]; done)) : p := h
theorem zp10 {p : Prop} (h : p := by repeat (first | (with_reducible first | exact HB.out | apply below_alloc | apply pw_below_drewN | apply below_drew1) | exact HB.out)) : p := h
theorem zp11 {p : Prop} (h : p := by (with_reducible repeat (first | refine blk_drewN ?_ _ | refine blk_drew ?_ | refine blk_alloc ?_ _)); exact BK383.out) : p := h
theorem zp12 {p : Prop} (h : p := by repeat (first | (with_reducible first | exact HB.out | apply below_alloc | apply pw_below_drewN | apply below_drew1 | refine below_set ?_ GE382.out | refine below_set ?_ GE383.out | refine below_set ?_ GE390.out) | exact HB.out)) : p := h
theorem zp13 {p : Prop} (h : p := by repeat (first | exact (Kd.C_below HR0_2.out HB.out) | (with_reducible refine Kd.C_alloc ?_ _) | (with_reducible refine Kd.C_drewN ?_ _) | (with_reducible refine Kd.C_drew ?_))) : p := h
theorem zp14 {p : Prop} (h : p := by (try simp only [List.map_toArray, List.map_cons, List.map_nil]); first | done | rfl | (simp only [List.length_drop, List.length_take]; rfl)) : p := h
theorem zp15 {p : Prop} (h : p := by have := HK1.out; have := HK2.out; have := HK3.out; omega) : p := h
theorem zp16 {p : Prop} (h : p := by (with_reducible repeat (first | refine blk_drewN ?_ _ | refine blk_drew ?_ | refine blk_alloc ?_ _)); exact BK390.out) : p := h
theorem zp17 {p : Prop} (h : p := by rw [hg]; exact Nat.ne_of_lt (blk_lt (g := gb382) (o := .cells #[.int .i64 a0_0, .int .i64 a0_1, .slice A0_2 l0_2.length c0_2] 30 (0, 0)) zp6)) : p := h
theorem zp18 {p : Prop} (h : p := by rw [hg]; exact Nat.ne_of_gt (blk_lt (g := gb382) (o := .cells #[.int .i64 a0_0, .int .i64 a0_1, .slice A0_2 l0_2.length c0_2] 30 (0, 0)) zp6)) : p := h
/-! ### impl_graph_onward: function 59 -/
mutual
def impl_graph_onward.l0 : Nat → List Int → Int → Int → List Int → Int → Int → List Int → List (List Int) → Option (List Int)
 | 0, _, _, _, _, _, _, _, _ => none
 | k + 1, x5, x1000, x1001, x1002, x1003, x1004, x1005, x1006 => if 0 ≤ (wrap64 ((x5.length : Int) - 1)) then (if (wrap64 ((x5.length : Int) - 1)) < (x5.length : Int) then (if 0 ≤ (rd x5 (wrap64 ((x5.length : Int) - 1))) then (if (rd x5 (wrap64 ((x5.length : Int) - 1))) < (x1006.length : Int) then (impl_graph_onward.l1 k x5 (-1) 0 (rd_L1 x1006 (rd x5 (wrap64 ((x5.length : Int) - 1)))) ((rd_L1 x1006 (rd x5 (wrap64 ((x5.length : Int) - 1)))).length : Int) 0 x1000 x1001 x1002 x1003 x1004 x1005 x1006) else (none)) else (none)) else (none)) else (none)
def impl_graph_onward.l1 : Nat → List Int → Int → Int → List Int → Int → Int → Int → Int → List Int → Int → Int → List Int → List (List Int) → Option (List Int)
 | 0, _, _, _, _, _, _, _, _, _, _, _, _, _ => none
 | k + 1, x5, x6, x7, x26, x27, x28, x1000, x1001, x1002, x1003, x1004, x1005, x1006 => if x28 < x27 then (if 0 ≤ x28 then (if x28 < (x26.length : Int) then ((slices_Contains_int_int.f k x5 (rd x26 x28)).bind fun t378 => (if t378 = true then (impl_graph_onward.l1 k x5 x6 x7 x26 x27 (wrap64 (x28 + 1)) x1000 x1001 x1002 x1003 x1004 x1005 x1006) else (if 0 ≤ (rd x26 x28) then (if (rd x26 x28) < (x1006.length : Int) then (impl_graph_onward.l2 k x5 x6 x7 (rd x26 x28) 0 x26 x27 x28 (rd_L1 x1006 (rd x26 x28)) ((rd_L1 x1006 (rd x26 x28)).length : Int) 0 x1000 x1001 x1002 x1003 x1004 x1005 x1006) else (none)) else (none)))) else (none)) else (none)) else (if x6 < 0 then (some x5) else (if x5.length < 17592186044416 then (impl_graph_onward.l0 k (x5 ++ [x6]) x1000 x1001 x1002 x1003 x1004 x1005 x1006) else (none)))
def impl_graph_onward.l2 : Nat → List Int → Int → Int → Int → Int → List Int → Int → Int → List Int → Int → Int → Int → Int → List Int → Int → Int → List Int → List (List Int) → Option (List Int)
 | 0, _, _, _, _, _, _, _, _, _, _, _, _, _, _, _, _, _, _ => none
 | k + 1, x5, x6, x7, x9, x10, x26, x27, x28, x41, x42, x43, x1000, x1001, x1002, x1003, x1004, x1005, x1006 => if x43 < x42 then (if 0 ≤ x43 then (if x43 < (x41.length : Int) then ((slices_Contains_int_int.f k x5 (rd x41 x43)).bind fun t381 => (if t381 = true then (impl_graph_onward.l2 k x5 x6 x7 x9 x10 x26 x27 x28 x41 x42 (wrap64 (x43 + 1)) x1000 x1001 x1002 x1003 x1004 x1005 x1006) else (impl_graph_onward.l2 k x5 x6 x7 x9 (wrap64 (x10 + 1)) x26 x27 x28 x41 x42 (wrap64 (x43 + 1)) x1000 x1001 x1002 x1003 x1004 x1005 x1006))) else (none)) else (none)) else (if x6 < 0 then (impl_graph_onward.l1 k x5 x9 x10 x26 x27 (wrap64 (x28 + 1)) x1000 x1001 x1002 x1003 x1004 x1005 x1006) else (if x10 < x7 then (impl_graph_onward.l1 k x5 x9 x10 x26 x27 (wrap64 (x28 + 1)) x1000 x1001 x1002 x1003 x1004 x1005 x1006) else (impl_graph_onward.l1 k x5 x6 x7 x26 x27 (wrap64 (x28 + 1)) x1000 x1001 x1002 x1003 x1004 x1005 x1006)))
end
def impl_graph_onward.f (k : Nat) (a0_0 : Int) (a0_1 : Int) (l0_2 : List Int) (a0_3 : Int) (a0_4 : Int) (l0_5 : List Int) (l0_6 : List (List Int)) (a1 : Int) : Option (List Int) := impl_graph_onward.l0 k (([a1] : List Int)) a0_0 a0_1 l0_2 a0_3 a0_4 l0_5 l0_6
set_option maxHeartbeats 8000000 in
set_option maxRecDepth 100000 in
theorem impl_graph_onward.calls (k : Nat) (gb0 : Nat) (a0_0 : Int) (a0_1 : Int) (A0_2 : Option Addr) (c0_2 : Nat) (l0_2 : List Int) (a0_3 : Int) (a0_4 : Int) (A0_5 : Option Addr) (c0_5 : Nat) (l0_5 : List Int) (A0_6 : Option Addr) (c0_6 : Nat) (l0_6 : List (List Int)) (a1 : Int) (r : List Int) (w : World) (hg0 : w.heap[gb0]? = some (.cells #[.int .i64 a0_0, .int .i64 a0_1, .slice A0_2 l0_2.length c0_2, .int .i64 a0_3, .int .i64 a0_4, .slice A0_5 l0_5.length c0_5, .slice A0_6 l0_6.length c0_6] 82 (0, 0))) (hr0_2 : Kd.C (Kd.int .i64) w A0_2 l0_2.length l0_2) (hc0_2 : l0_2.length ≤ c0_2) (hr0_5 : Kd.C (Kd.int .i64) w A0_5 l0_5.length l0_5) (hc0_5 : l0_5.length ≤ c0_5) (hr0_6 : Kd.C (Kd.slice 3 (Kd.int .i64)) w A0_6 l0_6.length l0_6) (hc0_6 : l0_6.length ≤ c0_6) (h : impl_graph_onward.f k a0_0 a0_1 l0_2 a0_3 a0_4 l0_5 l0_6 a1 = some r) :
  Calls Try.prog 59 #[.pointer (some ⟨gb0, 0, none⟩), .int .i64 a1] w fun e w' => ∃ v0_ : Value, e = .returned (v0_) ∧ Kd.R (Kd.int .i64) 3 w' w.heap.size (fun _ => True) v0_ r ∧ Below w.heap.size w w' := by
 have HR0_2 := Aside0.mk hr0_2
 have HC0_2 := Aside0.mk hc0_2
 clear hr0_2 hc0_2
 have HR0_5 := Aside0.mk hr0_5
 have HC0_5 := Aside0.mk hc0_5
 clear hr0_5 hc0_5
 have HR0_6 := Aside0.mk hr0_6
 have HC0_6 := Aside0.mk hc0_6
 clear hr0_6 hc0_6
 have BK0 := Aside0.mk hg0
 clear hg0
 have HB := Aside0.mk (Below.refl w.heap.size w)
 have H : (impl_graph_onward.l0 k (([a1] : List Int)) a0_0 a0_1 l0_2 a0_3 a0_4 l0_5 l0_6) = some r := h
 clear h
 obtain ⟨y369, hy369⟩ : ∃ y_ : List Int, y_ = (([a1] : List Int)) := ⟨_, rfl⟩
 replace H : (impl_graph_onward.l0 k y369 a0_0 a0_1 l0_2 a0_3 a0_4 l0_5 l0_6) = some r := by first | (rw [hy369]; with_reducible exact H) | (have H2_ := (Option.bind_some _ _).symm.trans H; rw [hy369]; with_reducible exact H2_) | (have H2_ := (Option.bind_some _ _).symm.trans H; with_reducible exact H2_) | with_reducible exact H | (rw [hy369]; exact H) | exact H
 have Ny369 := Aside0.mk hy369
 clear hy369
 have H' := Aside0.mk H
 clear H
 go_enter Try.func59, Try.ntmps59
 go_wp2_with (first | ((with_reducible refine gate_dst (N := 14) rfl ?_); refine Kd.R_lit (Kd.int .i64) _ 3 ?hg (N := 14) ?hd (xs := ([a1] : List Int)) (inner := [.int .i64 a1]) (ok := fun _ => True) (okp := fun _ => True) ?hr ?hp (fun _ hk => hk) trivial (Below.refl _ _) (Nat.le_refl _) (by simp) ?_; (case hd => rfl); (case hg => rfl); (case hr => first | (go_simp; done) | (go_simp; rfl)); (case hp => exact (Reps.one (show Kd.M (Kd.int .i64) _ _ _ a1 [.int .i64 a1] from rfl) (Reps.none _ _))); intro v370 w3 ho4 hb hg_ hnew_; clear hg_ hnew_; (first | rw [← Ny369.out] at ho4 | (simp only [Int.reduceToNat] at ho4; rw [← Ny369.out] at ho4)); have n0_ := Aside0.mk (Kd.R_lower ho4 (below_size zp1)); have n1_ := Aside0.mk (blk_below (g := gb0) (o := .cells #[.int .i64 a0_0, .int .i64 a0_1, .slice A0_2 l0_2.length c0_2, .int .i64 a0_3, .int .i64 a0_4, .slice A0_5 l0_5.length c0_5, .slice A0_6 l0_6.length c0_6] 82 (0, 0)) zp3 hb); have n2_ := Aside0.mk (below_step zp1 hb); clear BK0; clear HB; have HO371 := n0_; have BK0 := n1_; have HB := n2_; clear n0_ n1_ n2_; clear hb ho4))
 repeat ((first | go_quiet (first | ((with_reducible refine gate_dst (N := 14) rfl ?_); refine Kd.R_lit (Kd.int .i64) _ 3 ?hg (N := 14) ?hd (xs := ([a1] : List Int)) (inner := [.int .i64 a1]) (ok := fun _ => True) (okp := fun _ => True) ?hr ?hp (fun _ hk => hk) trivial (Below.refl _ _) (Nat.le_refl _) (by simp) ?_; (case hd => rfl); (case hg => rfl); (case hr => first | (go_simp; done) | (go_simp; rfl)); (case hp => exact (Reps.one (show Kd.M (Kd.int .i64) _ _ _ a1 [.int .i64 a1] from rfl) (Reps.none _ _))); intro v370 w3 ho4 hb hg_ hnew_; clear hg_ hnew_; (first | rw [← Ny369.out] at ho4 | (simp only [Int.reduceToNat] at ho4; rw [← Ny369.out] at ho4)); have n0_ := Aside0.mk (Kd.R_lower ho4 (below_size zp1)); have n1_ := Aside0.mk (blk_below (g := gb0) (o := .cells #[.int .i64 a0_0, .int .i64 a0_1, .slice A0_2 l0_2.length c0_2, .int .i64 a0_3, .int .i64 a0_4, .slice A0_5 l0_5.length c0_5, .slice A0_6 l0_6.length c0_6] 82 (0, 0)) zp3 hb); have n2_ := Aside0.mk (below_step zp1 hb); clear BK0; clear HB; have HO371 := n0_; have BK0 := n1_; have HB := n2_; clear n0_ n1_ n2_; clear hb ho4)) | (refine wp_region_quiet_lit (by kernel_rfl) (by kernel_rfl) ?_; (repeat (any_goals (first | go_big_quiet_step (first | ((with_reducible refine gate_dst (N := 14) rfl ?_); refine Kd.R_lit (Kd.int .i64) _ 3 ?hg (N := 14) ?hd (xs := ([a1] : List Int)) (inner := [.int .i64 a1]) (ok := fun _ => True) (okp := fun _ => True) ?hr ?hp (fun _ hk => hk) trivial (Below.refl _ _) (Nat.le_refl _) (by simp) ?_; (case hd => rfl); (case hg => rfl); (case hr => first | (go_simp; done) | (go_simp; rfl)); (case hp => exact (Reps.one (show Kd.M (Kd.int .i64) _ _ _ a1 [.int .i64 a1] from rfl) (Reps.none _ _))); intro v370 w3 ho4 hb hg_ hnew_; clear hg_ hnew_; (first | rw [← Ny369.out] at ho4 | (simp only [Int.reduceToNat] at ho4; rw [← Ny369.out] at ho4)); have n0_ := Aside0.mk (Kd.R_lower ho4 (below_size zp1)); have n1_ := Aside0.mk (blk_below (g := gb0) (o := .cells #[.int .i64 a0_0, .int .i64 a0_1, .slice A0_2 l0_2.length c0_2, .int .i64 a0_3, .int .i64 a0_4, .slice A0_5 l0_5.length c0_5, .slice A0_6 l0_6.length c0_6] 82 (0, 0)) zp3 hb); have n2_ := Aside0.mk (below_step zp1 hb); clear BK0; clear HB; have HO371 := n0_; have BK0 := n1_; have HB := n2_; clear n0_ n1_ n2_; clear hb ho4)) | quiet_step (first | ((with_reducible refine gate_dst (N := 14) rfl ?_); refine Kd.R_lit (Kd.int .i64) _ 3 ?hg (N := 14) ?hd (xs := ([a1] : List Int)) (inner := [.int .i64 a1]) (ok := fun _ => True) (okp := fun _ => True) ?hr ?hp (fun _ hk => hk) trivial (Below.refl _ _) (Nat.le_refl _) (by simp) ?_; (case hd => rfl); (case hg => rfl); (case hr => first | (go_simp; done) | (go_simp; rfl)); (case hp => exact (Reps.one (show Kd.M (Kd.int .i64) _ _ _ a1 [.int .i64 a1] from rfl) (Reps.none _ _))); intro v370 w3 ho4 hb hg_ hnew_; clear hg_ hnew_; (first | rw [← Ny369.out] at ho4 | (simp only [Int.reduceToNat] at ho4; rw [← Ny369.out] at ho4)); have n0_ := Aside0.mk (Kd.R_lower ho4 (below_size zp1)); have n1_ := Aside0.mk (blk_below (g := gb0) (o := .cells #[.int .i64 a0_0, .int .i64 a0_1, .slice A0_2 l0_2.length c0_2, .int .i64 a0_3, .int .i64 a0_4, .slice A0_5 l0_5.length c0_5, .slice A0_6 l0_6.length c0_6] 82 (0, 0)) zp3 hb); have n2_ := Aside0.mk (below_step zp1 hb); clear BK0; clear HB; have HO371 := n0_; have BK0 := n1_; have HB := n2_; clear n0_ n1_ n2_; clear hb ho4))))); all_goals (refine wpQuiet_nil ?_; intro _ hw2_; obtain ⟨nq, hw3_⟩ := hw2_; subst hw3_))); try go_wp2_with (first | ((with_reducible refine gate_dst (N := 14) rfl ?_); refine Kd.R_lit (Kd.int .i64) _ 3 ?hg (N := 14) ?hd (xs := ([a1] : List Int)) (inner := [.int .i64 a1]) (ok := fun _ => True) (okp := fun _ => True) ?hr ?hp (fun _ hk => hk) trivial (Below.refl _ _) (Nat.le_refl _) (by simp) ?_; (case hd => rfl); (case hg => rfl); (case hr => first | (go_simp; done) | (go_simp; rfl)); (case hp => exact (Reps.one (show Kd.M (Kd.int .i64) _ _ _ a1 [.int .i64 a1] from rfl) (Reps.none _ _))); intro v370 w3 ho4 hb hg_ hnew_; clear hg_ hnew_; (first | rw [← Ny369.out] at ho4 | (simp only [Int.reduceToNat] at ho4; rw [← Ny369.out] at ho4)); have n0_ := Aside0.mk (Kd.R_lower ho4 (below_size zp1)); have n1_ := Aside0.mk (blk_below (g := gb0) (o := .cells #[.int .i64 a0_0, .int .i64 a0_1, .slice A0_2 l0_2.length c0_2, .int .i64 a0_3, .int .i64 a0_4, .slice A0_5 l0_5.length c0_5, .slice A0_6 l0_6.length c0_6] 82 (0, 0)) zp3 hb); have n2_ := Aside0.mk (below_step zp1 hb); clear BK0; clear HB; have HO371 := n0_; have BK0 := n1_; have HB := n2_; clear n0_ n1_ n2_; clear hb ho4)))
 go_loopg [5] k (fun kq v5 w' => ∃ (x5_1 : List Int), Aside0 (impl_graph_onward.l0 kq x5_1 a0_0 a0_1 l0_2 a0_3 a0_4 l0_5 l0_6 = some r) ∧ Aside0 (kq ≤ k) ∧ Aside0 (Kd.R (Kd.int .i64) 3 w' w.heap.size (fun _ => True) v5 x5_1) ∧ Aside0 (w'.heap[gb0]? = some (.cells #[.int .i64 a0_0, .int .i64 a0_1, (.slice A0_2 l0_2.length c0_2), .int .i64 a0_3, .int .i64 a0_4, (.slice A0_5 l0_5.length c0_5), (.slice A0_6 l0_6.length c0_6)] 82 (0, 0))) ∧ Aside0 (Below w.heap.size w w'))
 case atStart => exact ⟨(y369), H', ⟨Nat.le_refl _⟩, ⟨by (with_reducible repeat (first | apply Kd.R_alloc | apply Kd.R_drewN | apply Kd.R_drew)); exact HO371.out⟩, ⟨zp3⟩, ⟨zp1⟩⟩
 case round =>
  clear H'
  try clear p2
  obtain ⟨x5_1, HA, HK1, HO_5, BK0, HB⟩ := hrel
  cases gk with
  | zero => exact absurd HA.out (by simp [impl_graph_onward.l0])
  | succ k1 =>
   have H := HA.out
   clear HA
   simp only [impl_graph_onward.l0] at H
   obtain ⟨ji5, hji5⟩ : ∃ j_ : Int, (wrap64 ((x5_1.length : Int) - 1)) = j_ := ⟨_, rfl⟩
   replace H : (if 0 ≤ (ji5) then (if (ji5) < (x5_1.length : Int) then (if 0 ≤ (rd x5_1 (ji5)) then (if (rd x5_1 (ji5)) < (l0_6.length : Int) then (impl_graph_onward.l1 k1 x5_1 (-1) 0 (rd_L1 l0_6 (rd x5_1 (ji5))) ((rd_L1 l0_6 (rd x5_1 (ji5))).length : Int) 0 a0_0 a0_1 l0_2 a0_3 a0_4 l0_5 l0_6) else (none)) else (none)) else (none)) else (none)) = some r := by first | (rw [hji5] at H; exact H) | (simp only [hji5] at H ⊢; exact H)
   have hji5w : (IntKind.i64.wrap ((x5_1.length : Int) - 1)) = ji5 := (i64_w _).trans hji5
   by_cases c6 : 0 ≤ (ji5)
   rotate_left
   ·rw [if_neg c6] at H
    exact absurd H (by simp)
   rw [if_pos c6] at H
   have c6b0 : decide (0 ≤ (ji5)) = true := decide_eq_true c6
   clear c6
   by_cases c7 : (ji5) < (x5_1.length : Int)
   rotate_left
   ·rw [if_neg c7] at H
    exact absurd H (by simp)
   rw [if_pos c7] at H
   have c7b0 : decide ((ji5) < (x5_1.length : Int)) = true := decide_eq_true c7
   clear c7
   by_cases c8 : 0 ≤ (rd x5_1 (ji5))
   rotate_left
   ·rw [if_neg c8] at H
    exact absurd H (by simp)
   rw [if_pos c8] at H
   have c8b0 : decide (0 ≤ (rd x5_1 (ji5))) = true := decide_eq_true c8
   clear c8
   by_cases c9 : (rd x5_1 (ji5)) < (l0_6.length : Int)
   rotate_left
   ·rw [if_neg c9] at H
    exact absurd H (by simp)
   rw [if_pos c9] at H
   have c9b0 : decide ((rd x5_1 (ji5)) < (l0_6.length : Int)) = true := decide_eq_true c9
   clear c9
   have H' := Aside0.mk H
   clear H
   have hcz10_0 : wr.cell? ⟨gb0, 0, none⟩ = some (.int .i64 a0_0) := (blk_cell BK0.out 0).trans rfl
   have hcz10_1 : wr.cell? ⟨gb0, 1, none⟩ = some (.int .i64 a0_1) := (blk_cell BK0.out 1).trans rfl
   have hcz10_2 : wr.cell? ⟨gb0, 2, none⟩ = some (.slice A0_2 l0_2.length c0_2) := (blk_cell BK0.out 2).trans rfl
   have hcz10_3 : wr.cell? ⟨gb0, 3, none⟩ = some (.int .i64 a0_3) := (blk_cell BK0.out 3).trans rfl
   have hcz10_4 : wr.cell? ⟨gb0, 4, none⟩ = some (.int .i64 a0_4) := (blk_cell BK0.out 4).trans rfl
   have hcz10_5 : wr.cell? ⟨gb0, 5, none⟩ = some (.slice A0_5 l0_5.length c0_5) := (blk_cell BK0.out 5).trans rfl
   have hcz10_6 : wr.cell? ⟨gb0, 6, none⟩ = some (.slice A0_6 l0_6.length c0_6) := (blk_cell BK0.out 6).trans rfl
   have hfz10_0 := blk_frozen BK0.out 0
   have hfz10_1 := blk_frozen BK0.out 1
   have hfz10_2 := blk_frozen BK0.out 2
   have hfz10_3 := blk_frozen BK0.out 3
   have hfz10_4 := blk_frozen BK0.out 4
   have hfz10_5 := blk_frozen BK0.out 5
   have hfz10_6 := blk_frozen BK0.out 6
   obtain ⟨Ao11, co11, eo11⟩ := Kd.R_slice HO_5.out
   subst eo11
   have p372 : 0 ≤ ((ji5) : Int) := of_decide_eq_true zp7
   have q372 : (ji5) < (x5_1.length : Int) := of_decide_eq_true zp7
   obtain ⟨ad372, e372, hx372_0⟩ := Kd.at_int (Kd.R_reads' HO_5.out).2.2 (ji5) p372 q372
   cases e372
   replace p372 := eq_true p372
   replace q372 := eq_true q372
   have p373 : 0 ≤ ((rd x5_1 (ji5)) : Int) := of_decide_eq_true zp7
   have q373 : (rd x5_1 (ji5)) < (l0_6.length : Int) := of_decide_eq_true zp7
   obtain ⟨ad373, A373_0, c373_0, e373, hx373_0, hl373_0, hi373_0⟩ := at_L1 HR0_6.out (rd x5_1 (ji5)) p373 q373
   cases e373
   (first | replace hx373_0 := (HB.out.cell (World.block_lt_of_cell? w _ hx373_0)).trans hx373_0 | skip)
   have HR373_0 := Aside0.mk hi373_0
   have HC373_0 := Aside0.mk hl373_0
   clear hi373_0 hl373_0
   replace p373 := eq_true p373
   replace q373 := eq_true q373
   go_wp2
   repeat ((first | go_quiet (fail) | (refine wp_region_quiet_lit (by kernel_rfl) (by kernel_rfl) ?_; (repeat (any_goals (first | go_big_quiet_step (fail) | quiet_step (fail)))); all_goals (refine wpQuiet_nil ?_; intro _ hw2_; obtain ⟨nq, hw3_⟩ := hw2_; subst hw3_))); try go_wp2)
   go_loopg [6, 7, 28] k1 (fun kq v6 v7 v28 w' => ∃ (x6_2 : Int) (x7_2 : Int) (x28_2 : Int), v6 = .int .i64 x6_2 ∧ v7 = .int .i64 x7_2 ∧ v28 = .int .i64 x28_2 ∧ Aside0 (impl_graph_onward.l1 kq x5_1 x6_2 x7_2 (rd_L1 l0_6 (rd x5_1 (ji5))) ((rd_L1 l0_6 (rd x5_1 (ji5))).length : Int) x28_2 a0_0 a0_1 l0_2 a0_3 a0_4 l0_5 l0_6 = some r) ∧ Aside0 (kq ≤ k1) ∧ Aside0 (Kd.R (Kd.int .i64) 3 w' w.heap.size (fun _ => True) (.slice (some ad372) x5_1.length co11) x5_1) ∧ Aside0 (w'.heap[gb0]? = some (.cells #[.int .i64 a0_0, .int .i64 a0_1, (.slice A0_2 l0_2.length c0_2), .int .i64 a0_3, .int .i64 a0_4, (.slice A0_5 l0_5.length c0_5), (.slice (some ad373) l0_6.length c0_6)] 82 (0, 0))) ∧ Aside0 (Below w.heap.size w w'))
   case atStart => exact ⟨((-1)), (0), (0), zp9, zp9, zp9, H', ⟨Nat.le_refl _⟩, ⟨zp5⟩, ⟨zp3⟩, ⟨zp1⟩⟩
   case round =>
    clear H'
    try clear p2; try clear c3; try clear p3; try clear q3; try clear hx3; try clear c5; try clear c6; try clear c6b0; try clear p6; try clear c7; try clear c7b0; try clear c8; try clear c8b0; try clear c9; try clear c9b0; try clear hcz10_0; try clear hcz10_1; try clear hcz10_2; try clear hcz10_3; try clear hcz10_4; try clear hcz10_5; try clear hcz10_6; try clear hfz10_0; try clear hfz10_1; try clear hfz10_2; try clear hfz10_3; try clear hfz10_4; try clear hfz10_5; try clear hfz10_6; try clear hx372_0; try clear hx373_0; try clear p2; try clear p372; try clear p373; try clear q372; try clear q373
    obtain ⟨x6_2, x7_2, x28_2, rfl, rfl, rfl, HA, HK2, HO_5, BK0, HB⟩ := hrel
    cases gk with
    | zero => exact absurd HA.out (by simp [impl_graph_onward.l1])
    | succ k2 =>
     have H := HA.out
     clear HA
     simp only [impl_graph_onward.l1] at H
     by_cases c12 : x28_2 < ((rd_L1 l0_6 (rd x5_1 (ji5))).length : Int)
     rotate_left
     ·rw [if_neg c12] at H
      have c12b0 : decide (x28_2 < ((rd_L1 l0_6 (rd x5_1 (ji5))).length : Int)) = false := decide_eq_false c12
      clear c12
      by_cases c27 : x6_2 < 0
      ·rw [if_pos c27] at H
       have c27b0 : decide (x6_2 < 0) = true := decide_eq_true c27
       clear c27
       obtain rfl := Option.some.inj H
       go_wp2
       repeat ((first | go_quiet (fail) | (refine wp_region_quiet_lit (by kernel_rfl) (by kernel_rfl) ?_; (repeat (any_goals (first | go_big_quiet_step (fail) | quiet_step (fail)))); all_goals (refine wpQuiet_nil ?_; intro _ hw2_; obtain ⟨nq, hw3_⟩ := hw2_; subst hw3_))); try go_wp2)
       go_ret
       exact ⟨_, by first | rfl | (simp [errW_none, errW_some] <;> rfl) | (simp only [← hji5]; first | rfl | (simp [errW_none, errW_some] <;> rfl)) | (simp [*, errW_none, errW_some] <;> rfl), zp5, zp1⟩
      rw [if_neg c27] at H
      have c27b0 : decide (x6_2 < 0) = false := decide_eq_false c27
      clear c27
      by_cases c28 : x5_1.length < 17592186044416
      rotate_left
      ·rw [if_neg c28] at H
       exact absurd H (by simp)
      rw [if_pos c28] at H
      have LMc28 := Aside0.mk c28
      clear c28
      obtain ⟨y374, hy374⟩ : ∃ y_ : List Int, y_ = (x5_1 ++ [x6_2]) := ⟨_, rfl⟩
      replace H : (impl_graph_onward.l0 k2 y374 a0_0 a0_1 l0_2 a0_3 a0_4 l0_5 l0_6) = some r := by first | (rw [hy374]; with_reducible exact H) | (have H2_ := (Option.bind_some _ _).symm.trans H; rw [hy374]; with_reducible exact H2_) | (have H2_ := (Option.bind_some _ _).symm.trans H; with_reducible exact H2_) | with_reducible exact H | (rw [hy374]; exact H) | exact H
      have Ny374 := Aside0.mk hy374
      clear hy374
      have H' := Aside0.mk H
      clear H
      go_wp2_with (first | ((with_reducible refine gate_builtin (b := .append) (xs := #[.tmp 67, .tmp 69]) rfl ?_); at_builtin; refine Kd.R_append (Kd.int .i64) (w0 := w) w.heap.size rfl (.tmp 67) (.tmp 69) 22 3 (.int .i64 0) 8 rfl Try.underlying22 info3 rfl (by decide) (by omega) (.slice (some ad372) x5_1.length co11) x5_1 x6_2 [.int .i64 x6_2] (fun _ => True) (fun _ => False) rfl rfl ?aP (fun _ hk => hk.elim) ?aF ?aO ?aB ?aS ?aL ?_; (case aP => exact rfl); (case aB => exact zp1); (case aF => exact (fun _ _ => trivial)); (case aO => exact zp5); (case aS => exact (below_size zp1)); (case aL => have := LMc28.out; omega); intro v375 w29 ho hb hg hat; rw [← Ny374.out] at ho; have n0_ := Aside0.mk (blk_grown (g := gb0) (o := .cells #[.int .i64 a0_0, .int .i64 a0_1, .slice A0_2 l0_2.length c0_2, .int .i64 a0_3, .int .i64 a0_4, .slice A0_5 l0_5.length c0_5, .slice (some ad373) l0_6.length c0_6] 82 (0, 0)) zp3 hg (Kd.R_ne HO_5.out BK0.out (by decide))); have n1_ := Aside0.mk (hb); have n2_ := Aside0.mk (ho); clear BK0; clear HB; clear HO_5; have BK0 := n0_; have HB := n1_; have HO376 := n2_; clear n0_ n1_ n2_; clear ho hb hg hat))
      repeat ((first | go_quiet (first | ((with_reducible refine gate_builtin (b := .append) (xs := #[.tmp 67, .tmp 69]) rfl ?_); at_builtin; refine Kd.R_append (Kd.int .i64) (w0 := w) w.heap.size rfl (.tmp 67) (.tmp 69) 22 3 (.int .i64 0) 8 rfl Try.underlying22 info3 rfl (by decide) (by omega) (.slice (some ad372) x5_1.length co11) x5_1 x6_2 [.int .i64 x6_2] (fun _ => True) (fun _ => False) rfl rfl ?aP (fun _ hk => hk.elim) ?aF ?aO ?aB ?aS ?aL ?_; (case aP => exact rfl); (case aB => exact zp1); (case aF => exact (fun _ _ => trivial)); (case aO => exact zp5); (case aS => exact (below_size zp1)); (case aL => have := LMc28.out; omega); intro v375 w29 ho hb hg hat; rw [← Ny374.out] at ho; have n0_ := Aside0.mk (blk_grown (g := gb0) (o := .cells #[.int .i64 a0_0, .int .i64 a0_1, .slice A0_2 l0_2.length c0_2, .int .i64 a0_3, .int .i64 a0_4, .slice A0_5 l0_5.length c0_5, .slice (some ad373) l0_6.length c0_6] 82 (0, 0)) zp3 hg (Kd.R_ne HO_5.out BK0.out (by decide))); have n1_ := Aside0.mk (hb); have n2_ := Aside0.mk (ho); clear BK0; clear HB; clear HO_5; have BK0 := n0_; have HB := n1_; have HO376 := n2_; clear n0_ n1_ n2_; clear ho hb hg hat)) | (refine wp_region_quiet_lit (by kernel_rfl) (by kernel_rfl) ?_; (repeat (any_goals (first | go_big_quiet_step (first | ((with_reducible refine gate_builtin (b := .append) (xs := #[.tmp 67, .tmp 69]) rfl ?_); at_builtin; refine Kd.R_append (Kd.int .i64) (w0 := w) w.heap.size rfl (.tmp 67) (.tmp 69) 22 3 (.int .i64 0) 8 rfl Try.underlying22 info3 rfl (by decide) (by omega) (.slice (some ad372) x5_1.length co11) x5_1 x6_2 [.int .i64 x6_2] (fun _ => True) (fun _ => False) rfl rfl ?aP (fun _ hk => hk.elim) ?aF ?aO ?aB ?aS ?aL ?_; (case aP => exact rfl); (case aB => exact zp1); (case aF => exact (fun _ _ => trivial)); (case aO => exact zp5); (case aS => exact (below_size zp1)); (case aL => have := LMc28.out; omega); intro v375 w29 ho hb hg hat; rw [← Ny374.out] at ho; have n0_ := Aside0.mk (blk_grown (g := gb0) (o := .cells #[.int .i64 a0_0, .int .i64 a0_1, .slice A0_2 l0_2.length c0_2, .int .i64 a0_3, .int .i64 a0_4, .slice A0_5 l0_5.length c0_5, .slice (some ad373) l0_6.length c0_6] 82 (0, 0)) zp3 hg (Kd.R_ne HO_5.out BK0.out (by decide))); have n1_ := Aside0.mk (hb); have n2_ := Aside0.mk (ho); clear BK0; clear HB; clear HO_5; have BK0 := n0_; have HB := n1_; have HO376 := n2_; clear n0_ n1_ n2_; clear ho hb hg hat)) | quiet_step (first | ((with_reducible refine gate_builtin (b := .append) (xs := #[.tmp 67, .tmp 69]) rfl ?_); at_builtin; refine Kd.R_append (Kd.int .i64) (w0 := w) w.heap.size rfl (.tmp 67) (.tmp 69) 22 3 (.int .i64 0) 8 rfl Try.underlying22 info3 rfl (by decide) (by omega) (.slice (some ad372) x5_1.length co11) x5_1 x6_2 [.int .i64 x6_2] (fun _ => True) (fun _ => False) rfl rfl ?aP (fun _ hk => hk.elim) ?aF ?aO ?aB ?aS ?aL ?_; (case aP => exact rfl); (case aB => exact zp1); (case aF => exact (fun _ _ => trivial)); (case aO => exact zp5); (case aS => exact (below_size zp1)); (case aL => have := LMc28.out; omega); intro v375 w29 ho hb hg hat; rw [← Ny374.out] at ho; have n0_ := Aside0.mk (blk_grown (g := gb0) (o := .cells #[.int .i64 a0_0, .int .i64 a0_1, .slice A0_2 l0_2.length c0_2, .int .i64 a0_3, .int .i64 a0_4, .slice A0_5 l0_5.length c0_5, .slice (some ad373) l0_6.length c0_6] 82 (0, 0)) zp3 hg (Kd.R_ne HO_5.out BK0.out (by decide))); have n1_ := Aside0.mk (hb); have n2_ := Aside0.mk (ho); clear BK0; clear HB; clear HO_5; have BK0 := n0_; have HB := n1_; have HO376 := n2_; clear n0_ n1_ n2_; clear ho hb hg hat))))); all_goals (refine wpQuiet_nil ?_; intro _ hw2_; obtain ⟨nq, hw3_⟩ := hw2_; subst hw3_))); try go_wp2_with (first | ((with_reducible refine gate_builtin (b := .append) (xs := #[.tmp 67, .tmp 69]) rfl ?_); at_builtin; refine Kd.R_append (Kd.int .i64) (w0 := w) w.heap.size rfl (.tmp 67) (.tmp 69) 22 3 (.int .i64 0) 8 rfl Try.underlying22 info3 rfl (by decide) (by omega) (.slice (some ad372) x5_1.length co11) x5_1 x6_2 [.int .i64 x6_2] (fun _ => True) (fun _ => False) rfl rfl ?aP (fun _ hk => hk.elim) ?aF ?aO ?aB ?aS ?aL ?_; (case aP => exact rfl); (case aB => exact zp1); (case aF => exact (fun _ _ => trivial)); (case aO => exact zp5); (case aS => exact (below_size zp1)); (case aL => have := LMc28.out; omega); intro v375 w29 ho hb hg hat; rw [← Ny374.out] at ho; have n0_ := Aside0.mk (blk_grown (g := gb0) (o := .cells #[.int .i64 a0_0, .int .i64 a0_1, .slice A0_2 l0_2.length c0_2, .int .i64 a0_3, .int .i64 a0_4, .slice A0_5 l0_5.length c0_5, .slice (some ad373) l0_6.length c0_6] 82 (0, 0)) zp3 hg (Kd.R_ne HO_5.out BK0.out (by decide))); have n1_ := Aside0.mk (hb); have n2_ := Aside0.mk (ho); clear BK0; clear HB; clear HO_5; have BK0 := n0_; have HB := n1_; have HO376 := n2_; clear n0_ n1_ n2_; clear ho hb hg hat)))
      go_roundg k2
      case measure => have := HK1.out; have := HK2.out; omega
      case rel => exact ⟨(y374), H', ⟨by have := HK1.out; have := HK2.out; omega⟩, ⟨by (with_reducible repeat (first | apply Kd.R_alloc | apply Kd.R_drewN | apply Kd.R_drew)); exact HO376.out⟩, ⟨zp3⟩, ⟨zp1⟩⟩
     rw [if_pos c12] at H
     have c12b0 : decide (x28_2 < ((rd_L1 l0_6 (rd x5_1 (ji5))).length : Int)) = true := decide_eq_true c12
     clear c12
     by_cases c13 : 0 ≤ x28_2
     rotate_left
     ·rw [if_neg c13] at H
      exact absurd H (by simp)
     rw [if_pos c13] at H
     have c13b0 : decide (0 ≤ x28_2) = true := decide_eq_true c13
     clear c13
     by_cases c14 : x28_2 < ((rd_L1 l0_6 (rd x5_1 (ji5))).length : Int)
     rotate_left
     ·rw [if_neg c14] at H
      exact absurd H (by simp)
     rw [if_pos c14] at H
     have c14b0 : decide (x28_2 < ((rd_L1 l0_6 (rd x5_1 (ji5))).length : Int)) = true := decide_eq_true c14
     clear c14
     replace H := Option.bind_eq_some_iff.mp H
     obtain ⟨t378, A150, H⟩ := H
     replace H : (if t378 = true then (impl_graph_onward.l1 k2 x5_1 x6_2 x7_2 (rd_L1 l0_6 (rd x5_1 (ji5))) ((rd_L1 l0_6 (rd x5_1 (ji5))).length : Int) (wrap64 (x28_2 + 1)) a0_0 a0_1 l0_2 a0_3 a0_4 l0_5 l0_6) else (if 0 ≤ (rd (rd_L1 l0_6 (rd x5_1 (ji5))) x28_2) then (if (rd (rd_L1 l0_6 (rd x5_1 (ji5))) x28_2) < (l0_6.length : Int) then (impl_graph_onward.l2 k2 x5_1 x6_2 x7_2 (rd (rd_L1 l0_6 (rd x5_1 (ji5))) x28_2) 0 (rd_L1 l0_6 (rd x5_1 (ji5))) ((rd_L1 l0_6 (rd x5_1 (ji5))).length : Int) x28_2 (rd_L1 l0_6 (rd (rd_L1 l0_6 (rd x5_1 (ji5))) x28_2)) ((rd_L1 l0_6 (rd (rd_L1 l0_6 (rd x5_1 (ji5))) x28_2)).length : Int) 0 a0_0 a0_1 l0_2 a0_3 a0_4 l0_5 l0_6) else (none)) else (none))) = some r := H
     have A15 := Aside0.mk A150
     clear A150
     by_cases c16 : t378 = true
     ·subst c16
      have H1 : (impl_graph_onward.l1 k2 x5_1 x6_2 x7_2 (rd_L1 l0_6 (rd x5_1 (ji5))) ((rd_L1 l0_6 (rd x5_1 (ji5))).length : Int) (wrap64 (x28_2 + 1)) a0_0 a0_1 l0_2 a0_3 a0_4 l0_5 l0_6) = some r := by rw [if_pos rfl] at H; exact H
      clear H
      have H := H1
      clear H1
      have H' := Aside0.mk H
      clear H
      have p377 : 0 ≤ (x28_2 : Int) := of_decide_eq_true zp7
      have q377 : x28_2 < ((rd_L1 l0_6 (rd x5_1 (ji5))).length : Int) := of_decide_eq_true zp7
      obtain ⟨ad377, e377, hx377_0⟩ := Kd.at_int HR373_0.out x28_2 p377 q377
      cases e377
      (first | replace hx377_0 := (HB.out.cell (World.block_lt_of_cell? w _ hx377_0)).trans hx377_0 | skip)
      replace p377 := eq_true p377
      replace q377 := eq_true q377
      go_wp2_with (first | (go_at_call 101; (with_reducible refine (slices_Contains_int_int.calls k2 _ _ x5_1 (rd (rd_L1 l0_6 (rd x5_1 (ji5))) x28_2) true _ ?side1 ?side2 A15.out).mono ?_); (case side1 => exact zp2); (case side2 => exact (Kd.R_reads' HO_5.out).2.1); rintro e w' ⟨rfl, ⟨nd, rfl⟩⟩; (try first | exact ⟨rfl, _, World.drewN_drewN _ _ _⟩ | exact ⟨rfl, _, Eq.trans (World.drewN_drewN _ _ _) (congrArg (World.drewN _) (Nat.add_assoc _ _ _))⟩)))
      repeat ((first | go_quiet (first | (go_at_call 101; (with_reducible refine (slices_Contains_int_int.calls k2 _ _ x5_1 (rd (rd_L1 l0_6 (rd x5_1 (ji5))) x28_2) true _ ?side1 ?side2 A15.out).mono ?_); (case side1 => exact zp2); (case side2 => exact (Kd.R_reads' HO_5.out).2.1); rintro e w' ⟨rfl, ⟨nd, rfl⟩⟩; (try first | exact ⟨rfl, _, World.drewN_drewN _ _ _⟩ | exact ⟨rfl, _, Eq.trans (World.drewN_drewN _ _ _) (congrArg (World.drewN _) (Nat.add_assoc _ _ _))⟩))) | (refine wp_region_quiet_lit (by kernel_rfl) (by kernel_rfl) ?_; (repeat (any_goals (first | go_big_quiet_step (first | (go_at_call 101; (with_reducible refine (slices_Contains_int_int.calls k2 _ _ x5_1 (rd (rd_L1 l0_6 (rd x5_1 (ji5))) x28_2) true _ ?side1 ?side2 A15.out).mono ?_); (case side1 => exact zp2); (case side2 => exact (Kd.R_reads' HO_5.out).2.1); rintro e w' ⟨rfl, ⟨nd, rfl⟩⟩; (try first | exact ⟨rfl, _, World.drewN_drewN _ _ _⟩ | exact ⟨rfl, _, Eq.trans (World.drewN_drewN _ _ _) (congrArg (World.drewN _) (Nat.add_assoc _ _ _))⟩))) | quiet_step (first | (go_at_call 101; (with_reducible refine (slices_Contains_int_int.calls k2 _ _ x5_1 (rd (rd_L1 l0_6 (rd x5_1 (ji5))) x28_2) true _ ?side1 ?side2 A15.out).mono ?_); (case side1 => exact zp2); (case side2 => exact (Kd.R_reads' HO_5.out).2.1); rintro e w' ⟨rfl, ⟨nd, rfl⟩⟩; (try first | exact ⟨rfl, _, World.drewN_drewN _ _ _⟩ | exact ⟨rfl, _, Eq.trans (World.drewN_drewN _ _ _) (congrArg (World.drewN _) (Nat.add_assoc _ _ _))⟩)))))); all_goals (refine wpQuiet_nil ?_; intro _ hw2_; obtain ⟨nq, hw3_⟩ := hw2_; subst hw3_))); try go_wp2_with (first | (go_at_call 101; (with_reducible refine (slices_Contains_int_int.calls k2 _ _ x5_1 (rd (rd_L1 l0_6 (rd x5_1 (ji5))) x28_2) true _ ?side1 ?side2 A15.out).mono ?_); (case side1 => exact zp2); (case side2 => exact (Kd.R_reads' HO_5.out).2.1); rintro e w' ⟨rfl, ⟨nd, rfl⟩⟩; (try first | exact ⟨rfl, _, World.drewN_drewN _ _ _⟩ | exact ⟨rfl, _, Eq.trans (World.drewN_drewN _ _ _) (congrArg (World.drewN _) (Nat.add_assoc _ _ _))⟩))))
      go_roundg k2
      case measure => have := HK1.out; have := HK2.out; omega
      case rel => exact ⟨(x6_2), (x7_2), (wrap64 (x28_2 + 1)), zp9, zp9, zp9, H', ⟨by have := HK1.out; have := HK2.out; omega⟩, ⟨zp5⟩, ⟨zp3⟩, ⟨zp1⟩⟩
     replace c16 := Bool.eq_false_iff.mpr c16
     subst c16
     have H1 : (if 0 ≤ (rd (rd_L1 l0_6 (rd x5_1 (ji5))) x28_2) then (if (rd (rd_L1 l0_6 (rd x5_1 (ji5))) x28_2) < (l0_6.length : Int) then (impl_graph_onward.l2 k2 x5_1 x6_2 x7_2 (rd (rd_L1 l0_6 (rd x5_1 (ji5))) x28_2) 0 (rd_L1 l0_6 (rd x5_1 (ji5))) ((rd_L1 l0_6 (rd x5_1 (ji5))).length : Int) x28_2 (rd_L1 l0_6 (rd (rd_L1 l0_6 (rd x5_1 (ji5))) x28_2)) ((rd_L1 l0_6 (rd (rd_L1 l0_6 (rd x5_1 (ji5))) x28_2)).length : Int) 0 a0_0 a0_1 l0_2 a0_3 a0_4 l0_5 l0_6) else (none)) else (none)) = some r := by rw [if_neg (show ¬ (false = true) by decide)] at H; exact H
     clear H
     have H := H1
     clear H1
     by_cases c17 : 0 ≤ (rd (rd_L1 l0_6 (rd x5_1 (ji5))) x28_2)
     rotate_left
     ·rw [if_neg c17] at H
      exact absurd H (by simp)
     rw [if_pos c17] at H
     have c17b0 : decide (0 ≤ (rd (rd_L1 l0_6 (rd x5_1 (ji5))) x28_2)) = true := decide_eq_true c17
     clear c17
     by_cases c18 : (rd (rd_L1 l0_6 (rd x5_1 (ji5))) x28_2) < (l0_6.length : Int)
     rotate_left
     ·rw [if_neg c18] at H
      exact absurd H (by simp)
     rw [if_pos c18] at H
     have c18b0 : decide ((rd (rd_L1 l0_6 (rd x5_1 (ji5))) x28_2) < (l0_6.length : Int)) = true := decide_eq_true c18
     clear c18
     have H' := Aside0.mk H
     clear H
     have p377 : 0 ≤ (x28_2 : Int) := of_decide_eq_true zp7
     have q377 : x28_2 < ((rd_L1 l0_6 (rd x5_1 (ji5))).length : Int) := of_decide_eq_true zp7
     obtain ⟨ad377, e377, hx377_0⟩ := Kd.at_int HR373_0.out x28_2 p377 q377
     cases e377
     (first | replace hx377_0 := (HB.out.cell (World.block_lt_of_cell? w _ hx377_0)).trans hx377_0 | skip)
     replace p377 := eq_true p377
     replace q377 := eq_true q377
     go_wp2_with (first | (go_at_call 101; (with_reducible refine (slices_Contains_int_int.calls k2 _ _ x5_1 (rd (rd_L1 l0_6 (rd x5_1 (ji5))) x28_2) false _ ?side1 ?side2 A15.out).mono ?_); (case side1 => exact zp2); (case side2 => exact (Kd.R_reads' HO_5.out).2.1); rintro e w' ⟨rfl, ⟨nd, rfl⟩⟩; (try first | exact ⟨rfl, _, World.drewN_drewN _ _ _⟩ | exact ⟨rfl, _, Eq.trans (World.drewN_drewN _ _ _) (congrArg (World.drewN _) (Nat.add_assoc _ _ _))⟩); have hcz19_0 : wr.cell? ⟨gb0, 0, none⟩ = some (.int .i64 a0_0) := (blk_cell BK0.out 0).trans rfl; have hcz19_1 : wr.cell? ⟨gb0, 1, none⟩ = some (.int .i64 a0_1) := (blk_cell BK0.out 1).trans rfl; have hcz19_2 : wr.cell? ⟨gb0, 2, none⟩ = some (.slice A0_2 l0_2.length c0_2) := (blk_cell BK0.out 2).trans rfl; have hcz19_3 : wr.cell? ⟨gb0, 3, none⟩ = some (.int .i64 a0_3) := (blk_cell BK0.out 3).trans rfl; have hcz19_4 : wr.cell? ⟨gb0, 4, none⟩ = some (.int .i64 a0_4) := (blk_cell BK0.out 4).trans rfl; have hcz19_5 : wr.cell? ⟨gb0, 5, none⟩ = some (.slice A0_5 l0_5.length c0_5) := (blk_cell BK0.out 5).trans rfl; have hcz19_6 : wr.cell? ⟨gb0, 6, none⟩ = some (.slice (some ad373) l0_6.length c0_6) := (blk_cell BK0.out 6).trans rfl; have hfz19_0 := blk_frozen BK0.out 0; have hfz19_1 := blk_frozen BK0.out 1; have hfz19_2 := blk_frozen BK0.out 2; have hfz19_3 := blk_frozen BK0.out 3; have hfz19_4 := blk_frozen BK0.out 4; have hfz19_5 := blk_frozen BK0.out 5; have hfz19_6 := blk_frozen BK0.out 6; have p379 : 0 ≤ ((rd (rd_L1 l0_6 (rd x5_1 (ji5))) x28_2) : Int) := of_decide_eq_true zp7; have q379 : (rd (rd_L1 l0_6 (rd x5_1 (ji5))) x28_2) < (l0_6.length : Int) := of_decide_eq_true zp7; obtain ⟨ad379, A379_0, c379_0, e379, hx379_0, hl379_0, hi379_0⟩ := at_L1 HR0_6.out (rd (rd_L1 l0_6 (rd x5_1 (ji5))) x28_2) p379 q379; obtain rfl : ad373 = ad379 := (by injection e379); (first | replace hx379_0 := (HB.out.cell (World.block_lt_of_cell? w _ hx379_0)).trans hx379_0 | skip); have HR379_0 := Aside0.mk hi379_0; have HC379_0 := Aside0.mk hl379_0; clear hi379_0 hl379_0; replace p379 := eq_true p379; replace q379 := eq_true q379))
     repeat ((first | go_quiet (first | (go_at_call 101; (with_reducible refine (slices_Contains_int_int.calls k2 _ _ x5_1 (rd (rd_L1 l0_6 (rd x5_1 (ji5))) x28_2) false _ ?side1 ?side2 A15.out).mono ?_); (case side1 => exact zp2); (case side2 => exact (Kd.R_reads' HO_5.out).2.1); rintro e w' ⟨rfl, ⟨nd, rfl⟩⟩; (try first | exact ⟨rfl, _, World.drewN_drewN _ _ _⟩ | exact ⟨rfl, _, Eq.trans (World.drewN_drewN _ _ _) (congrArg (World.drewN _) (Nat.add_assoc _ _ _))⟩); have hcz19_0 : wr.cell? ⟨gb0, 0, none⟩ = some (.int .i64 a0_0) := (blk_cell BK0.out 0).trans rfl; have hcz19_1 : wr.cell? ⟨gb0, 1, none⟩ = some (.int .i64 a0_1) := (blk_cell BK0.out 1).trans rfl; have hcz19_2 : wr.cell? ⟨gb0, 2, none⟩ = some (.slice A0_2 l0_2.length c0_2) := (blk_cell BK0.out 2).trans rfl; have hcz19_3 : wr.cell? ⟨gb0, 3, none⟩ = some (.int .i64 a0_3) := (blk_cell BK0.out 3).trans rfl; have hcz19_4 : wr.cell? ⟨gb0, 4, none⟩ = some (.int .i64 a0_4) := (blk_cell BK0.out 4).trans rfl; have hcz19_5 : wr.cell? ⟨gb0, 5, none⟩ = some (.slice A0_5 l0_5.length c0_5) := (blk_cell BK0.out 5).trans rfl; have hcz19_6 : wr.cell? ⟨gb0, 6, none⟩ = some (.slice (some ad373) l0_6.length c0_6) := (blk_cell BK0.out 6).trans rfl; have hfz19_0 := blk_frozen BK0.out 0; have hfz19_1 := blk_frozen BK0.out 1; have hfz19_2 := blk_frozen BK0.out 2; have hfz19_3 := blk_frozen BK0.out 3; have hfz19_4 := blk_frozen BK0.out 4; have hfz19_5 := blk_frozen BK0.out 5; have hfz19_6 := blk_frozen BK0.out 6; have p379 : 0 ≤ ((rd (rd_L1 l0_6 (rd x5_1 (ji5))) x28_2) : Int) := of_decide_eq_true zp7; have q379 : (rd (rd_L1 l0_6 (rd x5_1 (ji5))) x28_2) < (l0_6.length : Int) := of_decide_eq_true zp7; obtain ⟨ad379, A379_0, c379_0, e379, hx379_0, hl379_0, hi379_0⟩ := at_L1 HR0_6.out (rd (rd_L1 l0_6 (rd x5_1 (ji5))) x28_2) p379 q379; obtain rfl : ad373 = ad379 := (by injection e379); (first | replace hx379_0 := (HB.out.cell (World.block_lt_of_cell? w _ hx379_0)).trans hx379_0 | skip); have HR379_0 := Aside0.mk hi379_0; have HC379_0 := Aside0.mk hl379_0; clear hi379_0 hl379_0; replace p379 := eq_true p379; replace q379 := eq_true q379)) | (refine wp_region_quiet_lit (by kernel_rfl) (by kernel_rfl) ?_; (repeat (any_goals (first | go_big_quiet_step (first | (go_at_call 101; (with_reducible refine (slices_Contains_int_int.calls k2 _ _ x5_1 (rd (rd_L1 l0_6 (rd x5_1 (ji5))) x28_2) false _ ?side1 ?side2 A15.out).mono ?_); (case side1 => exact zp2); (case side2 => exact (Kd.R_reads' HO_5.out).2.1); rintro e w' ⟨rfl, ⟨nd, rfl⟩⟩; (try first | exact ⟨rfl, _, World.drewN_drewN _ _ _⟩ | exact ⟨rfl, _, Eq.trans (World.drewN_drewN _ _ _) (congrArg (World.drewN _) (Nat.add_assoc _ _ _))⟩); have hcz19_0 : wr.cell? ⟨gb0, 0, none⟩ = some (.int .i64 a0_0) := (blk_cell BK0.out 0).trans rfl; have hcz19_1 : wr.cell? ⟨gb0, 1, none⟩ = some (.int .i64 a0_1) := (blk_cell BK0.out 1).trans rfl; have hcz19_2 : wr.cell? ⟨gb0, 2, none⟩ = some (.slice A0_2 l0_2.length c0_2) := (blk_cell BK0.out 2).trans rfl; have hcz19_3 : wr.cell? ⟨gb0, 3, none⟩ = some (.int .i64 a0_3) := (blk_cell BK0.out 3).trans rfl; have hcz19_4 : wr.cell? ⟨gb0, 4, none⟩ = some (.int .i64 a0_4) := (blk_cell BK0.out 4).trans rfl; have hcz19_5 : wr.cell? ⟨gb0, 5, none⟩ = some (.slice A0_5 l0_5.length c0_5) := (blk_cell BK0.out 5).trans rfl; have hcz19_6 : wr.cell? ⟨gb0, 6, none⟩ = some (.slice (some ad373) l0_6.length c0_6) := (blk_cell BK0.out 6).trans rfl; have hfz19_0 := blk_frozen BK0.out 0; have hfz19_1 := blk_frozen BK0.out 1; have hfz19_2 := blk_frozen BK0.out 2; have hfz19_3 := blk_frozen BK0.out 3; have hfz19_4 := blk_frozen BK0.out 4; have hfz19_5 := blk_frozen BK0.out 5; have hfz19_6 := blk_frozen BK0.out 6; have p379 : 0 ≤ ((rd (rd_L1 l0_6 (rd x5_1 (ji5))) x28_2) : Int) := of_decide_eq_true zp7; have q379 : (rd (rd_L1 l0_6 (rd x5_1 (ji5))) x28_2) < (l0_6.length : Int) := of_decide_eq_true zp7; obtain ⟨ad379, A379_0, c379_0, e379, hx379_0, hl379_0, hi379_0⟩ := at_L1 HR0_6.out (rd (rd_L1 l0_6 (rd x5_1 (ji5))) x28_2) p379 q379; obtain rfl : ad373 = ad379 := (by injection e379); (first | replace hx379_0 := (HB.out.cell (World.block_lt_of_cell? w _ hx379_0)).trans hx379_0 | skip); have HR379_0 := Aside0.mk hi379_0; have HC379_0 := Aside0.mk hl379_0; clear hi379_0 hl379_0; replace p379 := eq_true p379; replace q379 := eq_true q379)) | quiet_step (first | (go_at_call 101; (with_reducible refine (slices_Contains_int_int.calls k2 _ _ x5_1 (rd (rd_L1 l0_6 (rd x5_1 (ji5))) x28_2) false _ ?side1 ?side2 A15.out).mono ?_); (case side1 => exact zp2); (case side2 => exact (Kd.R_reads' HO_5.out).2.1); rintro e w' ⟨rfl, ⟨nd, rfl⟩⟩; (try first | exact ⟨rfl, _, World.drewN_drewN _ _ _⟩ | exact ⟨rfl, _, Eq.trans (World.drewN_drewN _ _ _) (congrArg (World.drewN _) (Nat.add_assoc _ _ _))⟩); have hcz19_0 : wr.cell? ⟨gb0, 0, none⟩ = some (.int .i64 a0_0) := (blk_cell BK0.out 0).trans rfl; have hcz19_1 : wr.cell? ⟨gb0, 1, none⟩ = some (.int .i64 a0_1) := (blk_cell BK0.out 1).trans rfl; have hcz19_2 : wr.cell? ⟨gb0, 2, none⟩ = some (.slice A0_2 l0_2.length c0_2) := (blk_cell BK0.out 2).trans rfl; have hcz19_3 : wr.cell? ⟨gb0, 3, none⟩ = some (.int .i64 a0_3) := (blk_cell BK0.out 3).trans rfl; have hcz19_4 : wr.cell? ⟨gb0, 4, none⟩ = some (.int .i64 a0_4) := (blk_cell BK0.out 4).trans rfl; have hcz19_5 : wr.cell? ⟨gb0, 5, none⟩ = some (.slice A0_5 l0_5.length c0_5) := (blk_cell BK0.out 5).trans rfl; have hcz19_6 : wr.cell? ⟨gb0, 6, none⟩ = some (.slice (some ad373) l0_6.length c0_6) := (blk_cell BK0.out 6).trans rfl; have hfz19_0 := blk_frozen BK0.out 0; have hfz19_1 := blk_frozen BK0.out 1; have hfz19_2 := blk_frozen BK0.out 2; have hfz19_3 := blk_frozen BK0.out 3; have hfz19_4 := blk_frozen BK0.out 4; have hfz19_5 := blk_frozen BK0.out 5; have hfz19_6 := blk_frozen BK0.out 6; have p379 : 0 ≤ ((rd (rd_L1 l0_6 (rd x5_1 (ji5))) x28_2) : Int) := of_decide_eq_true zp7; have q379 : (rd (rd_L1 l0_6 (rd x5_1 (ji5))) x28_2) < (l0_6.length : Int) := of_decide_eq_true zp7; obtain ⟨ad379, A379_0, c379_0, e379, hx379_0, hl379_0, hi379_0⟩ := at_L1 HR0_6.out (rd (rd_L1 l0_6 (rd x5_1 (ji5))) x28_2) p379 q379; obtain rfl : ad373 = ad379 := (by injection e379); (first | replace hx379_0 := (HB.out.cell (World.block_lt_of_cell? w _ hx379_0)).trans hx379_0 | skip); have HR379_0 := Aside0.mk hi379_0; have HC379_0 := Aside0.mk hl379_0; clear hi379_0 hl379_0; replace p379 := eq_true p379; replace q379 := eq_true q379))))); all_goals (refine wpQuiet_nil ?_; intro _ hw2_; obtain ⟨nq, hw3_⟩ := hw2_; subst hw3_))); try go_wp2_with (first | (go_at_call 101; (with_reducible refine (slices_Contains_int_int.calls k2 _ _ x5_1 (rd (rd_L1 l0_6 (rd x5_1 (ji5))) x28_2) false _ ?side1 ?side2 A15.out).mono ?_); (case side1 => exact zp2); (case side2 => exact (Kd.R_reads' HO_5.out).2.1); rintro e w' ⟨rfl, ⟨nd, rfl⟩⟩; (try first | exact ⟨rfl, _, World.drewN_drewN _ _ _⟩ | exact ⟨rfl, _, Eq.trans (World.drewN_drewN _ _ _) (congrArg (World.drewN _) (Nat.add_assoc _ _ _))⟩); have hcz19_0 : wr.cell? ⟨gb0, 0, none⟩ = some (.int .i64 a0_0) := (blk_cell BK0.out 0).trans rfl; have hcz19_1 : wr.cell? ⟨gb0, 1, none⟩ = some (.int .i64 a0_1) := (blk_cell BK0.out 1).trans rfl; have hcz19_2 : wr.cell? ⟨gb0, 2, none⟩ = some (.slice A0_2 l0_2.length c0_2) := (blk_cell BK0.out 2).trans rfl; have hcz19_3 : wr.cell? ⟨gb0, 3, none⟩ = some (.int .i64 a0_3) := (blk_cell BK0.out 3).trans rfl; have hcz19_4 : wr.cell? ⟨gb0, 4, none⟩ = some (.int .i64 a0_4) := (blk_cell BK0.out 4).trans rfl; have hcz19_5 : wr.cell? ⟨gb0, 5, none⟩ = some (.slice A0_5 l0_5.length c0_5) := (blk_cell BK0.out 5).trans rfl; have hcz19_6 : wr.cell? ⟨gb0, 6, none⟩ = some (.slice (some ad373) l0_6.length c0_6) := (blk_cell BK0.out 6).trans rfl; have hfz19_0 := blk_frozen BK0.out 0; have hfz19_1 := blk_frozen BK0.out 1; have hfz19_2 := blk_frozen BK0.out 2; have hfz19_3 := blk_frozen BK0.out 3; have hfz19_4 := blk_frozen BK0.out 4; have hfz19_5 := blk_frozen BK0.out 5; have hfz19_6 := blk_frozen BK0.out 6; have p379 : 0 ≤ ((rd (rd_L1 l0_6 (rd x5_1 (ji5))) x28_2) : Int) := of_decide_eq_true zp7; have q379 : (rd (rd_L1 l0_6 (rd x5_1 (ji5))) x28_2) < (l0_6.length : Int) := of_decide_eq_true zp7; obtain ⟨ad379, A379_0, c379_0, e379, hx379_0, hl379_0, hi379_0⟩ := at_L1 HR0_6.out (rd (rd_L1 l0_6 (rd x5_1 (ji5))) x28_2) p379 q379; obtain rfl : ad373 = ad379 := (by injection e379); (first | replace hx379_0 := (HB.out.cell (World.block_lt_of_cell? w _ hx379_0)).trans hx379_0 | skip); have HR379_0 := Aside0.mk hi379_0; have HC379_0 := Aside0.mk hl379_0; clear hi379_0 hl379_0; replace p379 := eq_true p379; replace q379 := eq_true q379)))
     go_loopg [10, 43] k2 (fun kq v10 v43 w' => ∃ (x10_3 : Int) (x43_3 : Int), v10 = .int .i64 x10_3 ∧ v43 = .int .i64 x43_3 ∧ Aside0 (impl_graph_onward.l2 kq x5_1 x6_2 x7_2 (rd (rd_L1 l0_6 (rd x5_1 (ji5))) x28_2) x10_3 (rd_L1 l0_6 (rd x5_1 (ji5))) ((rd_L1 l0_6 (rd x5_1 (ji5))).length : Int) x28_2 (rd_L1 l0_6 (rd (rd_L1 l0_6 (rd x5_1 (ji5))) x28_2)) ((rd_L1 l0_6 (rd (rd_L1 l0_6 (rd x5_1 (ji5))) x28_2)).length : Int) x43_3 a0_0 a0_1 l0_2 a0_3 a0_4 l0_5 l0_6 = some r) ∧ Aside0 (kq ≤ k2) ∧ Aside0 (Kd.R (Kd.int .i64) 3 w' w.heap.size (fun _ => True) (.slice (some ad372) x5_1.length co11) x5_1) ∧ Aside0 (w'.heap[gb0]? = some (.cells #[.int .i64 a0_0, .int .i64 a0_1, (.slice A0_2 l0_2.length c0_2), .int .i64 a0_3, .int .i64 a0_4, (.slice A0_5 l0_5.length c0_5), (.slice (some ad373) l0_6.length c0_6)] 82 (0, 0))) ∧ Aside0 (Below w.heap.size w w'))
     case atStart => exact ⟨(0), (0), zp9, zp9, H', ⟨Nat.le_refl _⟩, ⟨zp5⟩, ⟨zp3⟩, ⟨zp1⟩⟩
     case round =>
      clear H'
      try clear c1; try clear p2; try clear c3; try clear p3; try clear q3; try clear hx3; try clear c5; try clear c6; try clear c6b0; try clear p6; try clear c7; try clear c7b0; try clear c8; try clear c8b0; try clear c9; try clear c9b0; try clear c12; try clear c12b0; try clear c13; try clear c13b0; try clear c14; try clear c14b0; try clear c16; try clear c17; try clear c17b0; try clear c18; try clear c18b0; try clear hcz10_0; try clear hcz10_1; try clear hcz10_2; try clear hcz10_3; try clear hcz10_4; try clear hcz10_5; try clear hcz10_6; try clear hcz19_0; try clear hcz19_1; try clear hcz19_2; try clear hcz19_3
      try clear hcz19_4; try clear hcz19_5; try clear hcz19_6; try clear hfz10_0; try clear hfz10_1; try clear hfz10_2; try clear hfz10_3; try clear hfz10_4; try clear hfz10_5; try clear hfz10_6; try clear hfz19_0; try clear hfz19_1; try clear hfz19_2; try clear hfz19_3; try clear hfz19_4; try clear hfz19_5; try clear hfz19_6; try clear hx372_0; try clear hx373_0; try clear hx377_0; try clear hx379_0; try clear p2; try clear p3; try clear p372; try clear p373; try clear p377; try clear p379; try clear p6; try clear q3; try clear q372; try clear q373; try clear q377; try clear q379
      obtain ⟨x10_3, x43_3, rfl, rfl, HA, HK3, HO_5, BK0, HB⟩ := hrel
      cases gk with
      | zero => exact absurd HA.out (by simp [impl_graph_onward.l2])
      | succ k3 =>
       have H := HA.out
       clear HA
       simp only [impl_graph_onward.l2] at H
       by_cases c20 : x43_3 < ((rd_L1 l0_6 (rd (rd_L1 l0_6 (rd x5_1 (ji5))) x28_2)).length : Int)
       rotate_left
       ·rw [if_neg c20] at H
        have c20b0 : decide (x43_3 < ((rd_L1 l0_6 (rd (rd_L1 l0_6 (rd x5_1 (ji5))) x28_2)).length : Int)) = false := decide_eq_false c20
        clear c20
        by_cases c25 : x6_2 < 0
        ·rw [if_pos c25] at H
         have c25b0 : decide (x6_2 < 0) = true := decide_eq_true c25
         clear c25
         have H' := Aside0.mk H
         clear H
         go_wp2
         repeat ((first | go_quiet (fail) | (refine wp_region_quiet_lit (by kernel_rfl) (by kernel_rfl) ?_; (repeat (any_goals (first | go_big_quiet_step (fail) | quiet_step (fail)))); all_goals (refine wpQuiet_nil ?_; intro _ hw2_; obtain ⟨nq, hw3_⟩ := hw2_; subst hw3_))); try go_wp2)
         go_roundg k3
         case measure => have := HK1.out; have := HK2.out; have := HK3.out; omega
         case rel => exact ⟨((rd (rd_L1 l0_6 (rd x5_1 (ji5))) x28_2)), (x10_3), (wrap64 (x28_2 + 1)), (by first | rfl | (simp; done) | (simp only [← hji5] <;> (first | rfl | simp)) | (simp [*]; done)), zp9, zp9, H', ⟨zp15⟩, ⟨zp5⟩, ⟨zp3⟩, ⟨zp1⟩⟩
        rw [if_neg c25] at H
        have c25b0 : decide (x6_2 < 0) = false := decide_eq_false c25
        clear c25
        by_cases c26 : x10_3 < x7_2
        ·rw [if_pos c26] at H
         have c26b0 : decide (x10_3 < x7_2) = true := decide_eq_true c26
         clear c26
         have H' := Aside0.mk H
         clear H
         go_wp2
         repeat ((first | go_quiet (fail) | (refine wp_region_quiet_lit (by kernel_rfl) (by kernel_rfl) ?_; (repeat (any_goals (first | go_big_quiet_step (fail) | quiet_step (fail)))); all_goals (refine wpQuiet_nil ?_; intro _ hw2_; obtain ⟨nq, hw3_⟩ := hw2_; subst hw3_))); try go_wp2)
         go_roundg k3
         case measure => have := HK1.out; have := HK2.out; have := HK3.out; omega
         case rel => exact ⟨((rd (rd_L1 l0_6 (rd x5_1 (ji5))) x28_2)), (x10_3), (wrap64 (x28_2 + 1)), (by first | rfl | (simp; done) | (simp only [← hji5] <;> (first | rfl | simp)) | (simp [*]; done)), zp9, zp9, H', ⟨zp15⟩, ⟨zp5⟩, ⟨zp3⟩, ⟨zp1⟩⟩
        rw [if_neg c26] at H
        have c26b0 : decide (x10_3 < x7_2) = false := decide_eq_false c26
        clear c26
        have H' := Aside0.mk H
        clear H
        go_wp2
        repeat ((first | go_quiet (fail) | (refine wp_region_quiet_lit (by kernel_rfl) (by kernel_rfl) ?_; (repeat (any_goals (first | go_big_quiet_step (fail) | quiet_step (fail)))); all_goals (refine wpQuiet_nil ?_; intro _ hw2_; obtain ⟨nq, hw3_⟩ := hw2_; subst hw3_))); try go_wp2)
        go_roundg k3
        case measure => have := HK1.out; have := HK2.out; have := HK3.out; omega
        case rel => exact ⟨(x6_2), (x7_2), (wrap64 (x28_2 + 1)), zp9, zp9, zp9, H', ⟨zp15⟩, ⟨zp5⟩, ⟨zp3⟩, ⟨zp1⟩⟩
       rw [if_pos c20] at H
       have c20b0 : decide (x43_3 < ((rd_L1 l0_6 (rd (rd_L1 l0_6 (rd x5_1 (ji5))) x28_2)).length : Int)) = true := decide_eq_true c20
       clear c20
       by_cases c21 : 0 ≤ x43_3
       rotate_left
       ·rw [if_neg c21] at H
        exact absurd H (by simp)
       rw [if_pos c21] at H
       have c21b0 : decide (0 ≤ x43_3) = true := decide_eq_true c21
       clear c21
       by_cases c22 : x43_3 < ((rd_L1 l0_6 (rd (rd_L1 l0_6 (rd x5_1 (ji5))) x28_2)).length : Int)
       rotate_left
       ·rw [if_neg c22] at H
        exact absurd H (by simp)
       rw [if_pos c22] at H
       have c22b0 : decide (x43_3 < ((rd_L1 l0_6 (rd (rd_L1 l0_6 (rd x5_1 (ji5))) x28_2)).length : Int)) = true := decide_eq_true c22
       clear c22
       replace H := Option.bind_eq_some_iff.mp H
       obtain ⟨t381, A230, H⟩ := H
       replace H : (if t381 = true then (impl_graph_onward.l2 k3 x5_1 x6_2 x7_2 (rd (rd_L1 l0_6 (rd x5_1 (ji5))) x28_2) x10_3 (rd_L1 l0_6 (rd x5_1 (ji5))) ((rd_L1 l0_6 (rd x5_1 (ji5))).length : Int) x28_2 (rd_L1 l0_6 (rd (rd_L1 l0_6 (rd x5_1 (ji5))) x28_2)) ((rd_L1 l0_6 (rd (rd_L1 l0_6 (rd x5_1 (ji5))) x28_2)).length : Int) (wrap64 (x43_3 + 1)) a0_0 a0_1 l0_2 a0_3 a0_4 l0_5 l0_6) else (impl_graph_onward.l2 k3 x5_1 x6_2 x7_2 (rd (rd_L1 l0_6 (rd x5_1 (ji5))) x28_2) (wrap64 (x10_3 + 1)) (rd_L1 l0_6 (rd x5_1 (ji5))) ((rd_L1 l0_6 (rd x5_1 (ji5))).length : Int) x28_2 (rd_L1 l0_6 (rd (rd_L1 l0_6 (rd x5_1 (ji5))) x28_2)) ((rd_L1 l0_6 (rd (rd_L1 l0_6 (rd x5_1 (ji5))) x28_2)).length : Int) (wrap64 (x43_3 + 1)) a0_0 a0_1 l0_2 a0_3 a0_4 l0_5 l0_6)) = some r := H
       have A23 := Aside0.mk A230
       clear A230
       by_cases c24 : t381 = true
       ·subst c24
        have H1 : (impl_graph_onward.l2 k3 x5_1 x6_2 x7_2 (rd (rd_L1 l0_6 (rd x5_1 (ji5))) x28_2) x10_3 (rd_L1 l0_6 (rd x5_1 (ji5))) ((rd_L1 l0_6 (rd x5_1 (ji5))).length : Int) x28_2 (rd_L1 l0_6 (rd (rd_L1 l0_6 (rd x5_1 (ji5))) x28_2)) ((rd_L1 l0_6 (rd (rd_L1 l0_6 (rd x5_1 (ji5))) x28_2)).length : Int) (wrap64 (x43_3 + 1)) a0_0 a0_1 l0_2 a0_3 a0_4 l0_5 l0_6) = some r := by rw [if_pos rfl] at H; exact H
        clear H
        have H := H1
        clear H1
        have H' := Aside0.mk H
        clear H
        have p380 : 0 ≤ (x43_3 : Int) := of_decide_eq_true zp7
        have q380 : x43_3 < ((rd_L1 l0_6 (rd (rd_L1 l0_6 (rd x5_1 (ji5))) x28_2)).length : Int) := of_decide_eq_true zp7
        obtain ⟨ad380, e380, hx380_0⟩ := Kd.at_int HR379_0.out x43_3 p380 q380
        cases e380
        (first | replace hx380_0 := (HB.out.cell (World.block_lt_of_cell? w _ hx380_0)).trans hx380_0 | skip)
        replace p380 := eq_true p380
        replace q380 := eq_true q380
        go_wp2_with (first | (go_at_call 101; (with_reducible refine (slices_Contains_int_int.calls k3 _ _ x5_1 (rd (rd_L1 l0_6 (rd (rd_L1 l0_6 (rd x5_1 (ji5))) x28_2)) x43_3) true _ ?side1 ?side2 A23.out).mono ?_); (case side1 => exact zp2); (case side2 => exact (Kd.R_reads' HO_5.out).2.1); rintro e w' ⟨rfl, ⟨nd, rfl⟩⟩; (try first | exact ⟨rfl, _, World.drewN_drewN _ _ _⟩ | exact ⟨rfl, _, Eq.trans (World.drewN_drewN _ _ _) (congrArg (World.drewN _) (Nat.add_assoc _ _ _))⟩)))
        repeat ((first | go_quiet (first | (go_at_call 101; (with_reducible refine (slices_Contains_int_int.calls k3 _ _ x5_1 (rd (rd_L1 l0_6 (rd (rd_L1 l0_6 (rd x5_1 (ji5))) x28_2)) x43_3) true _ ?side1 ?side2 A23.out).mono ?_); (case side1 => exact zp2); (case side2 => exact (Kd.R_reads' HO_5.out).2.1); rintro e w' ⟨rfl, ⟨nd, rfl⟩⟩; (try first | exact ⟨rfl, _, World.drewN_drewN _ _ _⟩ | exact ⟨rfl, _, Eq.trans (World.drewN_drewN _ _ _) (congrArg (World.drewN _) (Nat.add_assoc _ _ _))⟩))) | (refine wp_region_quiet_lit (by kernel_rfl) (by kernel_rfl) ?_; (repeat (any_goals (first | go_big_quiet_step (first | (go_at_call 101; (with_reducible refine (slices_Contains_int_int.calls k3 _ _ x5_1 (rd (rd_L1 l0_6 (rd (rd_L1 l0_6 (rd x5_1 (ji5))) x28_2)) x43_3) true _ ?side1 ?side2 A23.out).mono ?_); (case side1 => exact zp2); (case side2 => exact (Kd.R_reads' HO_5.out).2.1); rintro e w' ⟨rfl, ⟨nd, rfl⟩⟩; (try first | exact ⟨rfl, _, World.drewN_drewN _ _ _⟩ | exact ⟨rfl, _, Eq.trans (World.drewN_drewN _ _ _) (congrArg (World.drewN _) (Nat.add_assoc _ _ _))⟩))) | quiet_step (first | (go_at_call 101; (with_reducible refine (slices_Contains_int_int.calls k3 _ _ x5_1 (rd (rd_L1 l0_6 (rd (rd_L1 l0_6 (rd x5_1 (ji5))) x28_2)) x43_3) true _ ?side1 ?side2 A23.out).mono ?_); (case side1 => exact zp2); (case side2 => exact (Kd.R_reads' HO_5.out).2.1); rintro e w' ⟨rfl, ⟨nd, rfl⟩⟩; (try first | exact ⟨rfl, _, World.drewN_drewN _ _ _⟩ | exact ⟨rfl, _, Eq.trans (World.drewN_drewN _ _ _) (congrArg (World.drewN _) (Nat.add_assoc _ _ _))⟩)))))); all_goals (refine wpQuiet_nil ?_; intro _ hw2_; obtain ⟨nq, hw3_⟩ := hw2_; subst hw3_))); try go_wp2_with (first | (go_at_call 101; (with_reducible refine (slices_Contains_int_int.calls k3 _ _ x5_1 (rd (rd_L1 l0_6 (rd (rd_L1 l0_6 (rd x5_1 (ji5))) x28_2)) x43_3) true _ ?side1 ?side2 A23.out).mono ?_); (case side1 => exact zp2); (case side2 => exact (Kd.R_reads' HO_5.out).2.1); rintro e w' ⟨rfl, ⟨nd, rfl⟩⟩; (try first | exact ⟨rfl, _, World.drewN_drewN _ _ _⟩ | exact ⟨rfl, _, Eq.trans (World.drewN_drewN _ _ _) (congrArg (World.drewN _) (Nat.add_assoc _ _ _))⟩))))
        go_roundg k3
        case measure => have := HK1.out; have := HK2.out; have := HK3.out; omega
        case rel => exact ⟨(x10_3), (wrap64 (x43_3 + 1)), zp9, zp9, H', ⟨zp15⟩, ⟨zp5⟩, ⟨zp3⟩, ⟨zp1⟩⟩
       replace c24 := Bool.eq_false_iff.mpr c24
       subst c24
       have H1 : (impl_graph_onward.l2 k3 x5_1 x6_2 x7_2 (rd (rd_L1 l0_6 (rd x5_1 (ji5))) x28_2) (wrap64 (x10_3 + 1)) (rd_L1 l0_6 (rd x5_1 (ji5))) ((rd_L1 l0_6 (rd x5_1 (ji5))).length : Int) x28_2 (rd_L1 l0_6 (rd (rd_L1 l0_6 (rd x5_1 (ji5))) x28_2)) ((rd_L1 l0_6 (rd (rd_L1 l0_6 (rd x5_1 (ji5))) x28_2)).length : Int) (wrap64 (x43_3 + 1)) a0_0 a0_1 l0_2 a0_3 a0_4 l0_5 l0_6) = some r := by rw [if_neg (show ¬ (false = true) by decide)] at H; exact H
       clear H
       have H := H1
       clear H1
       have H' := Aside0.mk H
       clear H
       have p380 : 0 ≤ (x43_3 : Int) := of_decide_eq_true zp7
       have q380 : x43_3 < ((rd_L1 l0_6 (rd (rd_L1 l0_6 (rd x5_1 (ji5))) x28_2)).length : Int) := of_decide_eq_true zp7
       obtain ⟨ad380, e380, hx380_0⟩ := Kd.at_int HR379_0.out x43_3 p380 q380
       cases e380
       (first | replace hx380_0 := (HB.out.cell (World.block_lt_of_cell? w _ hx380_0)).trans hx380_0 | skip)
       replace p380 := eq_true p380
       replace q380 := eq_true q380
       go_wp2_with (first | (go_at_call 101; (with_reducible refine (slices_Contains_int_int.calls k3 _ _ x5_1 (rd (rd_L1 l0_6 (rd (rd_L1 l0_6 (rd x5_1 (ji5))) x28_2)) x43_3) false _ ?side1 ?side2 A23.out).mono ?_); (case side1 => exact zp2); (case side2 => exact (Kd.R_reads' HO_5.out).2.1); rintro e w' ⟨rfl, ⟨nd, rfl⟩⟩; (try first | exact ⟨rfl, _, World.drewN_drewN _ _ _⟩ | exact ⟨rfl, _, Eq.trans (World.drewN_drewN _ _ _) (congrArg (World.drewN _) (Nat.add_assoc _ _ _))⟩)))
       repeat ((first | go_quiet (first | (go_at_call 101; (with_reducible refine (slices_Contains_int_int.calls k3 _ _ x5_1 (rd (rd_L1 l0_6 (rd (rd_L1 l0_6 (rd x5_1 (ji5))) x28_2)) x43_3) false _ ?side1 ?side2 A23.out).mono ?_); (case side1 => exact zp2); (case side2 => exact (Kd.R_reads' HO_5.out).2.1); rintro e w' ⟨rfl, ⟨nd, rfl⟩⟩; (try first | exact ⟨rfl, _, World.drewN_drewN _ _ _⟩ | exact ⟨rfl, _, Eq.trans (World.drewN_drewN _ _ _) (congrArg (World.drewN _) (Nat.add_assoc _ _ _))⟩))) | (refine wp_region_quiet_lit (by kernel_rfl) (by kernel_rfl) ?_; (repeat (any_goals (first | go_big_quiet_step (first | (go_at_call 101; (with_reducible refine (slices_Contains_int_int.calls k3 _ _ x5_1 (rd (rd_L1 l0_6 (rd (rd_L1 l0_6 (rd x5_1 (ji5))) x28_2)) x43_3) false _ ?side1 ?side2 A23.out).mono ?_); (case side1 => exact zp2); (case side2 => exact (Kd.R_reads' HO_5.out).2.1); rintro e w' ⟨rfl, ⟨nd, rfl⟩⟩; (try first | exact ⟨rfl, _, World.drewN_drewN _ _ _⟩ | exact ⟨rfl, _, Eq.trans (World.drewN_drewN _ _ _) (congrArg (World.drewN _) (Nat.add_assoc _ _ _))⟩))) | quiet_step (first | (go_at_call 101; (with_reducible refine (slices_Contains_int_int.calls k3 _ _ x5_1 (rd (rd_L1 l0_6 (rd (rd_L1 l0_6 (rd x5_1 (ji5))) x28_2)) x43_3) false _ ?side1 ?side2 A23.out).mono ?_); (case side1 => exact zp2); (case side2 => exact (Kd.R_reads' HO_5.out).2.1); rintro e w' ⟨rfl, ⟨nd, rfl⟩⟩; (try first | exact ⟨rfl, _, World.drewN_drewN _ _ _⟩ | exact ⟨rfl, _, Eq.trans (World.drewN_drewN _ _ _) (congrArg (World.drewN _) (Nat.add_assoc _ _ _))⟩)))))); all_goals (refine wpQuiet_nil ?_; intro _ hw2_; obtain ⟨nq, hw3_⟩ := hw2_; subst hw3_))); try go_wp2_with (first | (go_at_call 101; (with_reducible refine (slices_Contains_int_int.calls k3 _ _ x5_1 (rd (rd_L1 l0_6 (rd (rd_L1 l0_6 (rd x5_1 (ji5))) x28_2)) x43_3) false _ ?side1 ?side2 A23.out).mono ?_); (case side1 => exact zp2); (case side2 => exact (Kd.R_reads' HO_5.out).2.1); rintro e w' ⟨rfl, ⟨nd, rfl⟩⟩; (try first | exact ⟨rfl, _, World.drewN_drewN _ _ _⟩ | exact ⟨rfl, _, Eq.trans (World.drewN_drewN _ _ _) (congrArg (World.drewN _) (Nat.add_assoc _ _ _))⟩))))
       go_roundg k3
       case measure => have := HK1.out; have := HK2.out; have := HK3.out; omega
       case rel => exact ⟨(wrap64 (x10_3 + 1)), (wrap64 (x43_3 + 1)), zp9, zp9, H', ⟨zp15⟩, ⟨zp5⟩, ⟨zp3⟩, ⟨zp1⟩⟩

/-! ### impl_FewestOnward: function 27 -/
def impl_FewestOnward.f (k : Nat) (a0_0 : Int) (a0_1 : Int) (l0_2 : List Int) (a1_0 : Int) (a1_1 : Int) (a2 : Int) : Option (List Int × Bool) := (impl_two.f k a0_0 a0_1 l0_2 a1_0 a1_1 a2 a2).bind fun bt384 => (if bt384.2.2 = true then ((impl_graph_onward.f k a0_0 a0_1 l0_2 a1_0 a1_1 bt384.1 bt384.2.1 a2).bind fun t393 => (some (t393, true))) else (some (([] : List Int), false)))
set_option maxHeartbeats 8000000 in
set_option maxRecDepth 100000 in
theorem impl_FewestOnward.calls (k : Nat) (a0_0 : Int) (a0_1 : Int) (A0_2 : Option Addr) (c0_2 : Nat) (l0_2 : List Int) (a1_0 : Int) (a1_1 : Int) (a2 : Int) (r1 : List Int) (r2 : Bool) (w : World) (hr0_2 : Kd.C (Kd.int .i64) w A0_2 l0_2.length l0_2) (hc0_2 : l0_2.length ≤ c0_2) (h : impl_FewestOnward.f k a0_0 a0_1 l0_2 a1_0 a1_1 a2 = some (r1, r2)) :
  Calls Try.prog 27 #[.agg #[.int .i64 a0_0, .int .i64 a0_1, .slice A0_2 l0_2.length c0_2], .agg #[.int .i64 a1_0, .int .i64 a1_1], .int .i64 a2] w fun e w' => ∃ v0_ : Value, e = .returned (.tuple #[v0_, .bool r2]) ∧ Kd.R (Kd.int .i64) 3 w' w.heap.size (fun _ => True) v0_ r1 ∧ Below w.heap.size w w' := by
 have hu30 := Try.underlying30
 have hu32 := Try.underlying32
 have HR0_2 := Aside0.mk hr0_2
 have HC0_2 := Aside0.mk hc0_2
 clear hr0_2 hc0_2
 have HB := Aside0.mk (Below.refl w.heap.size w)
 have H : ((impl_two.f k a0_0 a0_1 l0_2 a1_0 a1_1 a2 a2).bind fun bt384 => (if bt384.2.2 = true then ((impl_graph_onward.f k a0_0 a0_1 l0_2 a1_0 a1_1 bt384.1 bt384.2.1 a2).bind fun t393 => (some (t393, true))) else (some (([] : List Int), false)))) = some (r1, r2) := h
 clear h
 replace H := Option.bind_eq_some_iff.mp H
 obtain ⟨⟨t384, t387, t392⟩, A40, H⟩ := H
 replace H : (if t392 = true then ((impl_graph_onward.f k a0_0 a0_1 l0_2 a1_0 a1_1 t384 t387 a2).bind fun t393 => (some (t393, true))) else (some (([] : List Int), false))) = some (r1, r2) := H
 have A4 := Aside0.mk A40
 clear A40
 by_cases c5 : t392 = true
 rotate_left
 ·replace c5 := Bool.eq_false_iff.mpr c5
  subst c5
  have H1 : (some (([] : List Int), false)) = some (r1, r2) := by rw [if_neg (show ¬ (false = true) by decide)] at H; exact H
  clear H
  have H := H1
  clear H1
  simp only [Option.some.injEq, Prod.mk.injEq] at H
  obtain ⟨rfl, rfl⟩ := H
  go_enter Try.func27, Try.ntmps27
  go_wp2_with (first | ((with_reducible refine gate_dst (N := 3) rfl ?_); refine box_event ?hg (N := 3) ?hd (cs := #[.int .i64 a0_0, .int .i64 a0_1, .slice A0_2 l0_2.length c0_2]) (t := 30) ?hr ?_; (case hd => rfl); (case hg => rfl); (case hr => first | (go_simp; done) | (go_simp; rfl)); intro gb382 hg w16 hbox hb; have n0_ := Aside0.mk (below_step zp10 hb); have n1_ := Aside0.mk (hbox); have n2_ := Aside0.mk ((by rw [hg]; exact (below_size zp10) : w.heap.size ≤ gb382)); have n3_ := Aside0.mk ((by rw [hg]; exact (below_size zp10) : w.heap.size ≤ gb382)); clear HB; have HB := n0_; have BK382 := n1_; have GW382 := n2_; have GE382 := n3_; clear n0_ n1_ n2_ n3_; clear hb hbox hg) | ((with_reducible refine gate_dst (N := 4) rfl ?_); refine box_event ?hg (N := 4) ?hd (cs := #[.int .i64 a1_0, .int .i64 a1_1]) (t := 32) ?hr ?_; (case hd => rfl); (case hg => rfl); (case hr => first | (go_simp; done) | (go_simp; rfl)); intro gb383 hg w17 hbox hb; have n0_ := Aside0.mk (blk_below (g := gb382) (o := .cells #[.int .i64 a0_0, .int .i64 a0_1, .slice A0_2 l0_2.length c0_2] 30 (0, 0)) zp6 hb); have n1_ := Aside0.mk (below_step zp8 hb); have n2_ := Aside0.mk (hbox); have n3_ := Aside0.mk ((by rw [hg]; exact (below_size zp8) : w.heap.size ≤ gb383)); have n4_ := Aside0.mk ((by rw [hg]; exact (below_size zp8) : w.heap.size ≤ gb383)); have n5_ := Aside0.mk ((zp17 : gb382 ≠ gb383)); have n6_ := Aside0.mk ((zp18 : gb383 ≠ gb382)); clear BK382; clear HB; have BK382 := n0_; have HB := n1_; have BK383 := n2_; have GW383 := n3_; have GE383 := n4_; have NB382_383 := n5_; have NB383_382 := n6_; clear n0_ n1_ n2_ n3_ n4_ n5_ n6_; clear hb hbox hg; have hnb18 := NB382_383.out; have hnc18 := NB383_382.out; have hcz19_0 : w17.cell? ⟨gb382, 0, none⟩ = some (.int .i64 a0_0) := (blk_cell BK382.out 0).trans rfl; have hcz19_1 : w17.cell? ⟨gb382, 1, none⟩ = some (.int .i64 a0_1) := (blk_cell BK382.out 1).trans rfl; have hcz19_2 : w17.cell? ⟨gb382, 2, none⟩ = some (.slice A0_2 l0_2.length c0_2) := (blk_cell BK382.out 2).trans rfl; have hfz19_0 := blk_frozen BK382.out 0; have hfz19_1 := blk_frozen BK382.out 1; have hfz19_2 := blk_frozen BK382.out 2; have hcz20_0 : w17.cell? ⟨gb383, 0, none⟩ = some (.int .i64 a1_0) := (blk_cell BK383.out 0).trans rfl; have hcz20_1 : w17.cell? ⟨gb383, 1, none⟩ = some (.int .i64 a1_1) := (blk_cell BK383.out 1).trans rfl; have hfz20_0 := blk_frozen BK383.out 0; have hfz20_1 := blk_frozen BK383.out 1) | ((with_reducible refine gate_callee (f := 58) rfl ?_); refine goesL_ (some 15) rfl rfl Try.func58 (by kernel_rfl) rfl #[.agg #[.int .i64 a0_0, .int .i64 a0_1, .slice A0_2 l0_2.length c0_2], .agg #[.int .i64 a1_0, .int .i64 a1_1], .int .i64 a2, .int .i64 a2] rfl zp14 ?_; (with_reducible refine (impl_two.calls k a0_0 a0_1 _ _ l0_2 a1_0 a1_1 a2 a2 t384 t387 false _ ?side1 ?side2 A4.out).mono ?_); (case side1 => exact zp13); (case side2 => exact HC0_2.out); rintro e w21 ⟨v385, v388, pv391, rfl, hgp, ho0, ho1, hb⟩; refine ⟨_, rfl, ?_⟩; obtain rfl := hgp.2 rfl; have n0_ := Aside0.mk (Kd.R_lower ho0 (below_size zp4)); have n1_ := Aside0.mk (Kd.S_lower ho1 (below_size zp4)); have n2_ := Aside0.mk (blk_below (g := gb382) (o := .cells #[.int .i64 a0_0, .int .i64 a0_1, .slice A0_2 l0_2.length c0_2] 30 (0, 0)) zp6 hb); have n3_ := Aside0.mk (blk_below (g := gb383) (o := .cells #[.int .i64 a1_0, .int .i64 a1_1] 32 (0, 0)) zp11 hb); have n4_ := Aside0.mk (below_step zp4 hb); clear BK382; clear BK383; clear HB; have HO386 := n0_; have HO389 := n1_; have BK382 := n2_; have BK383 := n3_; have HB := n4_; clear n0_ n1_ n2_ n3_ n4_; (try clear hb); (try clear hb2); (try clear hk); (try clear hi); (try clear ho0); (try clear ho1); (try clear hgp); (try clear hbox); (try clear hge); (try clear hna_); (try clear hnb_)))
  go_ret2
  exact ⟨_, by first | rfl | (simp [errW_none, errW_some] <;> rfl) | (simp [*, errW_none, errW_some] <;> rfl), by first | exact Kd.R_nil _ _ _ _ _ | exact Kd.N_nil _ _ _ _ _ | exact Kd.V_nil _ _ _ _ _ | exact Kd.Q_nil _ _ _ _ _ | exact Kd.S_nil _ _ _ _ _, zp4⟩
 subst c5
 have H1 : ((impl_graph_onward.f k a0_0 a0_1 l0_2 a1_0 a1_1 t384 t387 a2).bind fun t393 => (some (t393, true))) = some (r1, r2) := by rw [if_pos rfl] at H; exact H
 clear H
 have H := H1
 clear H1
 replace H := Option.bind_eq_some_iff.mp H
 obtain ⟨t393, A60, H⟩ := H
 replace H : (some (t393, true)) = some (r1, r2) := H
 have A6 := Aside0.mk A60
 clear A60
 simp only [Option.some.injEq, Prod.mk.injEq] at H
 obtain ⟨rfl, rfl⟩ := H
 go_enter Try.func27, Try.ntmps27
 go_wp2_with (first | ((with_reducible refine gate_dst (N := 3) rfl ?_); refine box_event ?hg (N := 3) ?hd (cs := #[.int .i64 a0_0, .int .i64 a0_1, .slice A0_2 l0_2.length c0_2]) (t := 30) ?hr ?_; (case hd => rfl); (case hg => rfl); (case hr => first | (go_simp; done) | (go_simp; rfl)); intro gb382 hg w7 hbox hb; have n0_ := Aside0.mk (below_step zp10 hb); have n1_ := Aside0.mk (hbox); have n2_ := Aside0.mk ((by rw [hg]; exact (below_size zp10) : w.heap.size ≤ gb382)); have n3_ := Aside0.mk ((by rw [hg]; exact (below_size zp10) : w.heap.size ≤ gb382)); clear HB; have HB := n0_; have BK382 := n1_; have GW382 := n2_; have GE382 := n3_; clear n0_ n1_ n2_ n3_; clear hb hbox hg) | ((with_reducible refine gate_dst (N := 4) rfl ?_); refine box_event ?hg (N := 4) ?hd (cs := #[.int .i64 a1_0, .int .i64 a1_1]) (t := 32) ?hr ?_; (case hd => rfl); (case hg => rfl); (case hr => first | (go_simp; done) | (go_simp; rfl)); intro gb383 hg w8 hbox hb; have n0_ := Aside0.mk (blk_below (g := gb382) (o := .cells #[.int .i64 a0_0, .int .i64 a0_1, .slice A0_2 l0_2.length c0_2] 30 (0, 0)) zp6 hb); have n1_ := Aside0.mk (below_step zp8 hb); have n2_ := Aside0.mk (hbox); have n3_ := Aside0.mk ((by rw [hg]; exact (below_size zp8) : w.heap.size ≤ gb383)); have n4_ := Aside0.mk ((by rw [hg]; exact (below_size zp8) : w.heap.size ≤ gb383)); have n5_ := Aside0.mk ((zp17 : gb382 ≠ gb383)); have n6_ := Aside0.mk ((zp18 : gb383 ≠ gb382)); clear BK382; clear HB; have BK382 := n0_; have HB := n1_; have BK383 := n2_; have GW383 := n3_; have GE383 := n4_; have NB382_383 := n5_; have NB383_382 := n6_; clear n0_ n1_ n2_ n3_ n4_ n5_ n6_; clear hb hbox hg; have hnb9 := NB382_383.out; have hnc9 := NB383_382.out; have hcz10_0 : w8.cell? ⟨gb382, 0, none⟩ = some (.int .i64 a0_0) := (blk_cell BK382.out 0).trans rfl; have hcz10_1 : w8.cell? ⟨gb382, 1, none⟩ = some (.int .i64 a0_1) := (blk_cell BK382.out 1).trans rfl; have hcz10_2 : w8.cell? ⟨gb382, 2, none⟩ = some (.slice A0_2 l0_2.length c0_2) := (blk_cell BK382.out 2).trans rfl; have hfz10_0 := blk_frozen BK382.out 0; have hfz10_1 := blk_frozen BK382.out 1; have hfz10_2 := blk_frozen BK382.out 2; have hcz11_0 : w8.cell? ⟨gb383, 0, none⟩ = some (.int .i64 a1_0) := (blk_cell BK383.out 0).trans rfl; have hcz11_1 : w8.cell? ⟨gb383, 1, none⟩ = some (.int .i64 a1_1) := (blk_cell BK383.out 1).trans rfl; have hfz11_0 := blk_frozen BK383.out 0; have hfz11_1 := blk_frozen BK383.out 1) | ((with_reducible refine gate_callee (f := 58) rfl ?_); refine goesL_ (some 15) rfl rfl Try.func58 (by kernel_rfl) rfl #[.agg #[.int .i64 a0_0, .int .i64 a0_1, .slice A0_2 l0_2.length c0_2], .agg #[.int .i64 a1_0, .int .i64 a1_1], .int .i64 a2, .int .i64 a2] rfl zp14 ?_; (with_reducible refine (impl_two.calls k a0_0 a0_1 _ _ l0_2 a1_0 a1_1 a2 a2 t384 t387 true _ ?side1 ?side2 A4.out).mono ?_); (case side1 => exact zp13); (case side2 => exact HC0_2.out); rintro e w12 ⟨v385, v388, pv391, rfl, hgp, ho0, ho1, hb⟩; refine ⟨_, rfl, ?_⟩; obtain ⟨gb390, rfl, hbox, hge⟩ := hgp.1 rfl; have n0_ := Aside0.mk (Kd.R_lower ho0 (below_size zp4)); have n1_ := Aside0.mk (Kd.S_lower ho1 (below_size zp4)); have n2_ := Aside0.mk (blk_below (g := gb382) (o := .cells #[.int .i64 a0_0, .int .i64 a0_1, .slice A0_2 l0_2.length c0_2] 30 (0, 0)) zp6 hb); have n3_ := Aside0.mk (blk_below (g := gb383) (o := .cells #[.int .i64 a1_0, .int .i64 a1_1] 32 (0, 0)) zp11 hb); have n4_ := Aside0.mk (hbox); have n5_ := Aside0.mk ((Nat.le_trans (by exact (below_size zp4)) hge : w.heap.size ≤ gb390)); have n6_ := Aside0.mk ((Nat.le_trans (by exact (below_size zp4)) hge : w.heap.size ≤ gb390)); have n7_ := Aside0.mk ((Nat.ne_of_lt (Nat.lt_of_lt_of_le (blk_lt (g := gb382) (o := .cells #[.int .i64 a0_0, .int .i64 a0_1, .slice A0_2 l0_2.length c0_2] 30 (0, 0)) zp6) hge) : gb382 ≠ gb390)); have n8_ := Aside0.mk ((Nat.ne_of_gt (Nat.lt_of_lt_of_le (blk_lt (g := gb382) (o := .cells #[.int .i64 a0_0, .int .i64 a0_1, .slice A0_2 l0_2.length c0_2] 30 (0, 0)) zp6) hge) : gb390 ≠ gb382)); have n9_ := Aside0.mk ((Nat.ne_of_lt (Nat.lt_of_lt_of_le (blk_lt (g := gb383) (o := .cells #[.int .i64 a1_0, .int .i64 a1_1] 32 (0, 0)) zp11) hge) : gb383 ≠ gb390)); have n10_ := Aside0.mk ((Nat.ne_of_gt (Nat.lt_of_lt_of_le (blk_lt (g := gb383) (o := .cells #[.int .i64 a1_0, .int .i64 a1_1] 32 (0, 0)) zp11) hge) : gb390 ≠ gb383)); have n11_ := Aside0.mk (below_step zp4 hb); clear BK382; clear BK383; clear HB; have HO386 := n0_; have HO389 := n1_; have BK382 := n2_; have BK383 := n3_; have BK390 := n4_; have GW390 := n5_; have GE390 := n6_; have NB382_390 := n7_; have NB390_382 := n8_; have NB383_390 := n9_; have NB390_383 := n10_; have HB := n11_; clear n0_ n1_ n2_ n3_ n4_ n5_ n6_ n7_ n8_ n9_ n10_ n11_; (try clear hb); (try clear hb2); (try clear hk); (try clear hi); (try clear ho0); (try clear ho1); (try clear hgp); (try clear hbox); (try clear hge); (try clear hna_); (try clear hnb_); obtain ⟨Ao13, co13, eo13⟩ := Kd.R_slice HO386.out; subst eo13; obtain ⟨Ao14, co14, eo14⟩ := Kd.S_slice HO389.out; subst eo14) | ((with_reducible refine gate_callee (f := 59) rfl ?_); refine goesL_ (some 22) rfl rfl Try.func59 (by kernel_rfl) rfl #[.pointer (some ⟨gb390, 0, none⟩), .int .i64 a2] rfl zp14 ?_; (with_reducible refine (impl_graph_onward.calls k gb390 a0_0 a0_1 A0_2 c0_2 l0_2 a1_0 a1_1 Ao13 co13 t384 Ao14 co14 t387 a2 t393 _ ?side1 ?side2 ?side3 ?side4 ?side5 ?side6 ?side7 A6.out).mono ?_); (case side1 => exact zp16); (case side2 => exact zp13); (case side3 => exact HC0_2.out); (case side4 => repeat (first | exact (Kd.R_reads' HO386.out).2.2 | (with_reducible refine Kd.C_alloc ?_ _) | (with_reducible refine Kd.C_drewN ?_ _) | (with_reducible refine Kd.C_drew ?_))); (case side5 => exact (Kd.R_reads' HO386.out).2.1); (case side6 => repeat (first | exact (Kd.S_reads' HO389.out).2.2 | (with_reducible refine Kd.C_alloc ?_ _) | (with_reducible refine Kd.C_drewN ?_ _) | (with_reducible refine Kd.C_drew ?_))); (case side7 => exact (Kd.S_reads' HO389.out).2.1); rintro e w15 ⟨v394, rfl, ho0, hb⟩; refine ⟨_, rfl, ?_⟩; have n0_ := Aside0.mk (Kd.R_elder' (by (with_reducible repeat (first | apply Kd.R_alloc | apply Kd.R_drewN | apply Kd.R_drew)); exact HO386.out) (Kd.R_base ho0) hb); have n1_ := Aside0.mk (Kd.S_elder' (by (with_reducible repeat (first | apply Kd.S_alloc | apply Kd.S_drewN | apply Kd.S_drew)); exact HO389.out) (Kd.R_base ho0) hb); have n2_ := Aside0.mk (Kd.R_lower (Kd.R_new' ho0 (Kd.R_lt (by (with_reducible repeat (first | apply Kd.R_alloc | apply Kd.R_drewN | apply Kd.R_drew)); exact HO386.out))) (below_size zp12)); have n3_ := Aside0.mk (blk_below (g := gb382) (o := .cells #[.int .i64 a0_0, .int .i64 a0_1, .slice A0_2 l0_2.length c0_2] 30 (0, 0)) zp6 hb); have n4_ := Aside0.mk (blk_below (g := gb383) (o := .cells #[.int .i64 a1_0, .int .i64 a1_1] 32 (0, 0)) zp11 hb); have n5_ := Aside0.mk (blk_below (g := gb390) (o := .cells #[.int .i64 a0_0, .int .i64 a0_1, .slice A0_2 l0_2.length c0_2, .int .i64 a1_0, .int .i64 a1_1, .slice Ao13 t384.length co13, .slice Ao14 t387.length co14] 82 (0, 0)) zp16 hb); have n6_ := Aside0.mk (below_step zp12 hb); clear HO386; clear HO389; clear BK382; clear BK383; clear BK390; clear HB; have HO386 := n0_; have HO389 := n1_; have HO395 := n2_; have BK382 := n3_; have BK383 := n4_; have BK390 := n5_; have HB := n6_; clear n0_ n1_ n2_ n3_ n4_ n5_ n6_; (try clear hb); (try clear hb2); (try clear hk); (try clear hi); (try clear ho0); (try clear hna_); (try clear hnb_)))
 go_ret2
 exact ⟨_, by first | rfl | (simp [errW_none, errW_some] <;> rfl) | (simp [*, errW_none, errW_some] <;> rfl), by (with_reducible repeat (first | apply Kd.R_alloc | apply Kd.R_drewN | apply Kd.R_drew)); exact Kd.R_mono HO395.out (fun _ hk => trivial), zp12⟩

end Go.Proofs.Ytjeongckkfkehaa.Q

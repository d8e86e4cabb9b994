/- Written by a program of this session: functions of the translation as plain Lean functions, each with a proof that the call does what the plain function says; the conditions stand in each theorem. -/
import Derived.Test.YtjeongckkfkehaaQ0
import Derived.Test.YtjeongckkfkehaaQ4
import Derived.Test.YtjeongckkfkehaaQ24
import Derived.Test.YtjeongckkfkehaaHSort
namespace Go.Proofs.Ytjeongckkfkehaa.Q
open Go.RowKit Go.Proofs.YtjeongckkfkehaaW.PrintWords Go.Proofs.YtjeongckkfkehaaW.PrintLast Go.Proofs.YtjeongckkfkehaaW.PrintMore
attribute [local go_sem] max2_int min2_int max_two min_two max_three min_three max_four min_four   -- for this text's walks alone
set_option linter.unusedVariables false
set_option linter.unusedSimpArgs false

theorem zak1 {p : Prop} (h : p := by repeat (first | (with_reducible first | exact HB.out | apply below_alloc | apply pw_below_drewN | apply below_drew1 | refine below_set ?_ GE1040.out | refine below_set ?_ GE1041.out) | exact HB.out)) : p := h
theorem zak2 {p : Prop} (h : p := by repeat (first | (with_reducible first | exact HB.out | apply below_alloc | apply pw_below_drewN | apply below_drew1 | refine below_set ?_ GE1040.out | refine below_set ?_ GE1041.out | refine below_set ?_ GE1048.out) | exact HB.out)) : p := h
theorem zak3 {p : Prop} (h : p := by (with_reducible repeat (first | refine blk_drewN ?_ _ | refine blk_drew ?_ | refine blk_alloc ?_ _)); exact BK1040.out) : p := h
theorem zak4 {p : Prop} (h : p := by repeat (first | (with_reducible first | exact HB.out | apply below_alloc | apply pw_below_drewN | apply below_drew1 | refine below_set ?_ GE0.out) | exact HB.out)) : p := h
theorem zak5 {p : Prop} (h : p := by repeat (first | (with_reducible first | exact HB.out | apply below_alloc | apply pw_below_drewN | apply below_drew1 | refine below_set ?_ GE1062.out | refine below_set ?_ GE1063.out) | exact HB.out)) : p := h
theorem zak6 {p : Prop} (h : p := by repeat (first | (with_reducible first | exact HB.out | apply below_alloc | apply pw_below_drewN | apply below_drew1) | exact HB.out)) : p := h
theorem zak7 {p : Prop} (h : p := by (with_reducible repeat (first | refine blk_drewN ?_ _ | refine blk_drew ?_ | refine blk_alloc ?_ _)); exact BK1041.out) : p := h
theorem zak8 {p : Prop} (h : p := by repeat (first | exact (Kd.C_below HR0_2.out HB.out) | (with_reducible refine Kd.C_alloc ?_ _) | (with_reducible refine Kd.C_drewN ?_ _) | (with_reducible refine Kd.C_drew ?_))) : p := h
theorem zak9 {p : Prop} (h : p := by repeat (first | (with_reducible first | exact HB.out | apply below_alloc | apply pw_below_drewN | apply below_drew1 | refine below_set ?_ GE1040.out) | exact HB.out)) : p := h
theorem zak10 {p : Prop} (h : p := by (try simp only [List.map_toArray, List.map_cons, List.map_nil]); first | done | rfl | (simp only [List.length_drop, List.length_take]; rfl)) : p := h
theorem zak11 {p : Prop} (h : p := by (with_reducible repeat (first | refine blk_drewN ?_ _ | refine blk_drew ?_ | refine blk_alloc ?_ _)); exact BK1062.out) : p := h
theorem zak12 {p : Prop} (h : p := by (with_reducible repeat (first | refine blk_drewN ?_ _ | refine blk_drew ?_ | refine blk_alloc ?_ _)); exact BK1048.out) : p := h
theorem zak13 {p : Prop} (h : p := by (with_reducible repeat (first | refine blk_drewN ?_ _ | refine blk_drew ?_ | refine blk_alloc ?_ _)); exact BK0.out) : p := h
theorem zak14 {p : Prop} (h : p := by repeat (first | (with_reducible first | exact HB.out | apply below_alloc | apply pw_below_drewN | apply below_drew1 | refine below_set ?_ GE1062.out) | exact HB.out)) : p := h
theorem zak15 {p : Prop} (h : p := by first | (with_reducible assumption) | assumption) : p := h
theorem zak16 {p : Prop} (h : p := by first | exact Kd.R_nil _ _ _ _ _ | exact Kd.N_nil _ _ _ _ _ | exact Kd.V_nil _ _ _ _ _ | exact Kd.Q_nil _ _ _ _ _ | exact Kd.S_nil _ _ _ _ _) : p := h
theorem zak17 {p : Prop} (h : p := by (with_reducible repeat (first | apply Kd.S_alloc | apply Kd.S_drewN | apply Kd.S_drew)); exact HO_3.out) : p := h
theorem zak18 {p : Prop} (h : p := by first | rfl | (simp [errW_none, errW_some] <;> rfl) | (simp [*, errW_none, errW_some] <;> rfl)) : p := h
theorem zak19 {p : Prop} (h : p := by (with_reducible repeat (first | apply Kd.R_alloc | apply Kd.R_drewN | apply Kd.R_drew)); exact HO_4.out) : p := h
theorem zak20 {p : Prop} (h : p := by (with_reducible repeat (first | refine blk_drewN ?_ _ | refine blk_drew ?_ | refine blk_alloc ?_ _)); exact BK1063.out) : p := h
theorem zak21 {p : Prop} (h : p := by (with_reducible repeat (first | apply Kd.R_alloc | apply Kd.R_drewN | apply Kd.R_drew)); exact HO_1049005.out) : p := h
theorem zak22 {p : Prop} (h : p := by (with_reducible repeat (first | apply Kd.S_alloc | apply Kd.S_drewN | apply Kd.S_drew)); exact HO1047.out) : p := h
theorem zak23 {p : Prop} (h : p := by (with_reducible repeat (first | apply Kd.R_alloc | apply Kd.R_drewN | apply Kd.R_drew)); exact HO1044.out) : p := h
theorem zak24 {p : Prop} (h : p := by (with_reducible repeat (first | apply Kd.R_alloc | apply Kd.R_drewN | apply Kd.R_drew)); exact HO_31.out) : p := h
theorem zak25 {p : Prop} (h : p := by first | rfl | (simp; done) | (simp [*]; done)) : p := h
theorem zak26 {p : Prop} (h : p := by first | exact Kd.S_nil _ _ _ _ _ | exact Kd.N_nil _ _ _ _ _ | exact Kd.V_nil _ _ _ _ _ | exact Kd.Q_nil _ _ _ _ _ | exact Kd.R_nil _ _ _ _ _) : p := h
theorem zak27 {p : Prop} (h : p := by (try simp only [hl4_2]); (with_reducible repeat (first | refine blk_drewN ?_ _ | refine blk_drew ?_ | refine blk_alloc ?_ _)); exact BK0.out) : p := h
theorem zak28 {p : Prop} (h : p := by (try simp only [hl4_2]); (with_reducible repeat (first | apply Kd.R_alloc | apply Kd.R_drewN | apply Kd.R_drew)); exact HO_4.out) : p := h
theorem zak29 {p : Prop} (h : p := by (with_reducible repeat (first | apply Kd.R_alloc | apply Kd.R_drewN | apply Kd.R_drew)); exact HO_29.out) : p := h
theorem zak30 {p : Prop} (h : p := by (with_reducible repeat (first | apply Kd.R_alloc | apply Kd.R_drewN | apply Kd.R_drew)); exact HO_7.out) : p := h
theorem zak31 {p : Prop} (h : p := by repeat (first | exact (Kd.S_reads' HO1047.out).2.2 | (with_reducible refine Kd.C_alloc ?_ _) | (with_reducible refine Kd.C_drewN ?_ _) | (with_reducible refine Kd.C_drew ?_))) : p := h
theorem zak32 {p : Prop} (h : p := by repeat (first | exact (Kd.R_reads' HO1044.out).2.2 | (with_reducible refine Kd.C_alloc ?_ _) | (with_reducible refine Kd.C_drewN ?_ _) | (with_reducible refine Kd.C_drew ?_))) : p := h
theorem zak33 {p : Prop} (h : p := by (with_reducible repeat (first | apply Kd.R_alloc | apply Kd.R_drewN | apply Kd.R_drew)); exact Kd.R_mono HO1044.out (fun _ hk => (by simp [Value.ownBlock]))) : p := h
theorem zak34 {p : Prop} (h : p := by rw [hg]; exact Nat.ne_of_lt (blk_lt (g := gb1040) (o := .cells #[.int .i64 a0_0, .int .i64 a0_1, .slice A0_2 l0_2.length c0_2] 30 (0, 0)) zak3)) : p := h
theorem zak35 {p : Prop} (h : p := by rw [hg]; exact Nat.ne_of_gt (blk_lt (g := gb1040) (o := .cells #[.int .i64 a0_0, .int .i64 a0_1, .slice A0_2 l0_2.length c0_2] 30 (0, 0)) zak3)) : p := h
theorem zak36 {p : Prop} (h : p := by rw [hg]; exact (below_size zak6)) : p := h
theorem zak37 {p : Prop} (h : p := by rw [hg]; exact (below_size zak9)) : p := h
theorem zak38 {p : Prop} (h : p := by rw [hg]; exact Nat.ne_of_lt (blk_lt (g := gb1062) (o := .cells #[.int .i64 a0_0, .int .i64 a0_1, .slice A0_2 l0_2.length c0_2] 30 (0, 0)) zak11)) : p := h
theorem zak39 {p : Prop} (h : p := by rw [hg]; exact Nat.ne_of_gt (blk_lt (g := gb1062) (o := .cells #[.int .i64 a0_0, .int .i64 a0_1, .slice A0_2 l0_2.length c0_2] 30 (0, 0)) zak11)) : p := h
/-! ### impl_graph_parts: function 103 -/
mutual
def impl_graph_parts.l0 : Nat → List (List Int) → List Bool → List Int → Int → Int → Int → Int → List Int → Int → Int → List Int → List (List Int) → Option ((List (List Int)))
 | 0, _, _, _, _, _, _, _, _, _, _, _, _ => none
 | k + 1, x3, x4, x19, x20, x21, x1000, x1001, x1002, x1003, x1004, x1005, x1006 => if x21 < x20 then (if 0 ≤ x21 then (if x21 < (x19.length : Int) then (if 0 ≤ (rd x19 x21) then (if (rd x19 x21) < (x4.length : Int) then (if rdOf false x4 (rd x19 x21) = true then (impl_graph_parts.l0 k x3 x4 x19 x20 (wrap64 (x21 + 1)) x1000 x1001 x1002 x1003 x1004 x1005 x1006) else ((impl_graph_far.f k x1000 x1001 x1002 x1003 x1004 x1005 x1006 (rd x19 x21)).bind fun t1029 => (impl_graph_parts.l1 k x3 x4 ([] : List Int) x19 x20 x21 t1029 (t1029.length : Int) 0 x1000 x1001 x1002 x1003 x1004 x1005 x1006))) else (none)) else (none)) else (none)) else (none)) else (some x3)
def impl_graph_parts.l1 : Nat → List (List Int) → List Bool → List Int → List Int → Int → Int → List Int → Int → Int → Int → Int → List Int → Int → Int → List Int → List (List Int) → Option ((List (List Int)))
 | 0, _, _, _, _, _, _, _, _, _, _, _, _, _, _, _, _ => none
 | k + 1, x3, x4, x7, x19, x20, x21, x31, x32, x33, x1000, x1001, x1002, x1003, x1004, x1005, x1006 => if x33 < x32 then (if 0 ≤ x33 then (if x33 < (x31.length : Int) then (if (rd x31 x33) ≥ 0 then (if x33 < (x4.length : Int) then (if x7.length < 17592186044416 then (impl_graph_parts.l1 k x3 (x4.set (x33 : Int).toNat true) (x7 ++ [x33]) x19 x20 x21 x31 x32 (wrap64 (x33 + 1)) x1000 x1001 x1002 x1003 x1004 x1005 x1006) else (none)) else (none)) else (impl_graph_parts.l1 k x3 x4 x7 x19 x20 x21 x31 x32 (wrap64 (x33 + 1)) x1000 x1001 x1002 x1003 x1004 x1005 x1006)) else (none)) else (none)) else (if x3.length < 5864062014805 then (impl_graph_parts.l0 k (x3 ++ [x7]) x4 x19 x20 (wrap64 (x21 + 1)) x1000 x1001 x1002 x1003 x1004 x1005 x1006) else (none))
end
def impl_graph_parts.f (k : Nat) (a0_0 : Int) (a0_1 : Int) (l0_2 : List Int) (a0_3 : Int) (a0_4 : Int) (l0_5 : List Int) (l0_6 : List (List Int)) : Option ((List (List Int))) := if 0 ≤ (l0_6.length : Int) then (if ((l0_6.length : Int) : Int).toNat ≤ 281474976710656 then (impl_graph_parts.l0 k ([] : List (List Int)) (List.replicate ((l0_6.length : Int) : Int).toNat false) l0_5 (l0_5.length : Int) 0 a0_0 a0_1 l0_2 a0_3 a0_4 l0_5 l0_6) else (none)) else (none)
set_option maxHeartbeats 8000000 in
set_option maxRecDepth 100000 in
theorem impl_graph_parts.calls (k : Nat) (gb0 : Nat) (a0_0 : Int) (a0_1 : Int) (A0_2 : Option Addr) (c0_2 : Nat) (l0_2 : List Int) (a0_3 : Int) (a0_4 : Int) (A0_5 : Option Addr) (c0_5 : Nat) (l0_5 : List Int) (A0_6 : Option Addr) (c0_6 : Nat) (l0_6 : List (List Int)) (r : List (List Int)) (w : World) (hg0 : w.heap[gb0]? = some (.cells #[.int .i64 a0_0, .int .i64 a0_1, .slice A0_2 l0_2.length c0_2, .int .i64 a0_3, .int .i64 a0_4, .slice A0_5 l0_5.length c0_5, .slice A0_6 l0_6.length c0_6] 82 (0, 0))) (hr0_2 : Kd.C (Kd.int .i64) w A0_2 l0_2.length l0_2) (hc0_2 : l0_2.length ≤ c0_2) (hr0_5 : Kd.C (Kd.int .i64) w A0_5 l0_5.length l0_5) (hc0_5 : l0_5.length ≤ c0_5) (hr0_6 : Kd.C (Kd.slice 3 (Kd.int .i64)) w A0_6 l0_6.length l0_6) (hc0_6 : l0_6.length ≤ c0_6) (h : impl_graph_parts.f k a0_0 a0_1 l0_2 a0_3 a0_4 l0_5 l0_6 = some r) :
  Calls Try.prog 103 #[.pointer (some ⟨gb0, 0, none⟩)] w fun e w' => ∃ v0_ : Value, e = .returned (v0_) ∧ Kd.S (Kd.slice 3 (Kd.int .i64)) 22 w' w.heap.size (fun _ => True) v0_ r ∧ Below w.heap.size w w' := by
 have HR0_2 := Aside0.mk hr0_2
 have HC0_2 := Aside0.mk hc0_2
 clear hr0_2 hc0_2
 have HR0_5 := Aside0.mk hr0_5
 have HC0_5 := Aside0.mk hc0_5
 clear hr0_5 hc0_5
 have HR0_6 := Aside0.mk hr0_6
 have HC0_6 := Aside0.mk hc0_6
 clear hr0_6 hc0_6
 have BK0 := Aside0.mk hg0
 clear hg0
 have HB := Aside0.mk (Below.refl w.heap.size w)
 have H : (if 0 ≤ (l0_6.length : Int) then (if ((l0_6.length : Int) : Int).toNat ≤ 281474976710656 then (impl_graph_parts.l0 k ([] : List (List Int)) (List.replicate ((l0_6.length : Int) : Int).toNat false) l0_5 (l0_5.length : Int) 0 a0_0 a0_1 l0_2 a0_3 a0_4 l0_5 l0_6) else (none)) else (none)) = some r := h
 clear h
 by_cases c2 : 0 ≤ (l0_6.length : Int)
 rotate_left
 ·rw [if_neg c2] at H
  exact absurd H (by simp)
 rw [if_pos c2] at H
 have c2b0 := eq_true c2
 have c2b1 : decide (0 ≤ (l0_6.length : Int)) = true := decide_eq_true c2
 clear c2
 by_cases c3 : ((l0_6.length : Int) : Int).toNat ≤ 281474976710656
 rotate_left
 ·rw [if_neg c3] at H
  exact absurd H (by simp)
 rw [if_pos c3] at H
 have c3b0 := eq_true c3
 have c3b1 : decide (((l0_6.length : Int) : Int).toNat ≤ 281474976710656) = true := decide_eq_true c3
 clear c3
 obtain ⟨y1024, hy1024⟩ : ∃ y_ : List Bool, y_ = (List.replicate ((l0_6.length : Int) : Int).toNat false) := ⟨_, rfl⟩
 replace H : (impl_graph_parts.l0 k ([] : List (List Int)) y1024 l0_5 (l0_5.length : Int) 0 a0_0 a0_1 l0_2 a0_3 a0_4 l0_5 l0_6) = some r := by first | (rw [hy1024]; with_reducible exact H) | (have H2_ := (Option.bind_some _ _).symm.trans H; rw [hy1024]; with_reducible exact H2_) | (have H2_ := (Option.bind_some _ _).symm.trans H; with_reducible exact H2_) | with_reducible exact H | (rw [hy1024]; exact H) | exact H
 have Ny1024 := Aside0.mk hy1024
 clear hy1024
 have H' := Aside0.mk H
 clear H
 have hcz4_0 : w.cell? ⟨gb0, 0, none⟩ = some (.int .i64 a0_0) := (blk_cell BK0.out 0).trans rfl
 have hcz4_1 : w.cell? ⟨gb0, 1, none⟩ = some (.int .i64 a0_1) := (blk_cell BK0.out 1).trans rfl
 have hcz4_2 : w.cell? ⟨gb0, 2, none⟩ = some (.slice A0_2 l0_2.length c0_2) := (blk_cell BK0.out 2).trans rfl
 have hcz4_3 : w.cell? ⟨gb0, 3, none⟩ = some (.int .i64 a0_3) := (blk_cell BK0.out 3).trans rfl
 have hcz4_4 : w.cell? ⟨gb0, 4, none⟩ = some (.int .i64 a0_4) := (blk_cell BK0.out 4).trans rfl
 have hcz4_5 : w.cell? ⟨gb0, 5, none⟩ = some (.slice A0_5 l0_5.length c0_5) := (blk_cell BK0.out 5).trans rfl
 have hcz4_6 : w.cell? ⟨gb0, 6, none⟩ = some (.slice A0_6 l0_6.length c0_6) := (blk_cell BK0.out 6).trans rfl
 have hfz4_0 := blk_frozen BK0.out 0
 have hfz4_1 := blk_frozen BK0.out 1
 have hfz4_2 := blk_frozen BK0.out 2
 have hfz4_3 := blk_frozen BK0.out 3
 have hfz4_4 := blk_frozen BK0.out 4
 have hfz4_5 := blk_frozen BK0.out 5
 have hfz4_6 := blk_frozen BK0.out 6
 go_enter Try.func103, Try.ntmps103
 go_wp2_with (first | ((with_reducible refine gate_dst (N := 15) rfl ?_); refine Kd.R_make Kd.bool _ 4 rfl (N := 15) rfl 92 _ _ rfl (l0_6.length : Int) rfl rfl Try.underlying92 (.bool false) 1 info4 rfl (by decide) (by omega) false (ok := fun _ => True) (okp := fun _ => True) rfl (fun _ hk => hk) trivial (of_decide_eq_true zak15) (Nat.le_trans (Nat.mul_le_mul_right _ (of_decide_eq_true zak15 : (l0_6.length : Int).toNat ≤ 281474976710656)) (by omega)) (Below.refl _ _) (Nat.le_refl _) ?_; intro v1025 w5 ho6 hb hg_ hnew_; clear hg_ hnew_; (first | rw [← Ny1024.out] at ho6 | (simp only [Int.reduceToNat] at ho6; rw [← Ny1024.out] at ho6)); have n0_ := Aside0.mk (Kd.R_lower ho6 (below_size zak4)); have n1_ := Aside0.mk (blk_below (g := gb0) (o := .cells #[.int .i64 a0_0, .int .i64 a0_1, .slice A0_2 l0_2.length c0_2, .int .i64 a0_3, .int .i64 a0_4, .slice A0_5 l0_5.length c0_5, .slice A0_6 l0_6.length c0_6] 82 (0, 0)) zak13 hb); have n2_ := Aside0.mk (below_step zak4 hb); clear BK0; clear HB; have HO1026 := n0_; have BK0 := n1_; have HB := n2_; clear n0_ n1_ n2_; clear hb ho6; have hcz7_0 : w5.cell? ⟨gb0, 0, none⟩ = some (.int .i64 a0_0) := (blk_cell BK0.out 0).trans rfl; have hcz7_1 : w5.cell? ⟨gb0, 1, none⟩ = some (.int .i64 a0_1) := (blk_cell BK0.out 1).trans rfl; have hcz7_2 : w5.cell? ⟨gb0, 2, none⟩ = some (.slice A0_2 l0_2.length c0_2) := (blk_cell BK0.out 2).trans rfl; have hcz7_3 : w5.cell? ⟨gb0, 3, none⟩ = some (.int .i64 a0_3) := (blk_cell BK0.out 3).trans rfl; have hcz7_4 : w5.cell? ⟨gb0, 4, none⟩ = some (.int .i64 a0_4) := (blk_cell BK0.out 4).trans rfl; have hcz7_5 : w5.cell? ⟨gb0, 5, none⟩ = some (.slice A0_5 l0_5.length c0_5) := (blk_cell BK0.out 5).trans rfl; have hcz7_6 : w5.cell? ⟨gb0, 6, none⟩ = some (.slice A0_6 l0_6.length c0_6) := (blk_cell BK0.out 6).trans rfl; have hfz7_0 := blk_frozen BK0.out 0; have hfz7_1 := blk_frozen BK0.out 1; have hfz7_2 := blk_frozen BK0.out 2; have hfz7_3 := blk_frozen BK0.out 3; have hfz7_4 := blk_frozen BK0.out 4; have hfz7_5 := blk_frozen BK0.out 5; have hfz7_6 := blk_frozen BK0.out 6))
 go_loopg [3, 21] k (fun kq v3 v21 w' => ∃ (x3_1 : List (List Int)) (x4_1 : List Bool) (x21_1 : Int), v21 = .int .i64 x21_1 ∧ Aside0 (impl_graph_parts.l0 kq x3_1 x4_1 l0_5 (l0_5.length : Int) x21_1 a0_0 a0_1 l0_2 a0_3 a0_4 l0_5 l0_6 = some r) ∧ Aside0 (kq ≤ k) ∧ Aside0 (Kd.S (Kd.slice 3 (Kd.int .i64)) 22 w' w.heap.size (fun _ => True) v3 x3_1) ∧ Aside0 (Kd.R Kd.bool 4 w' w.heap.size (fun _ => True) v1025 x4_1) ∧ Aside0 (w'.heap[gb0]? = some (.cells #[.int .i64 a0_0, .int .i64 a0_1, (.slice A0_2 l0_2.length c0_2), .int .i64 a0_3, .int .i64 a0_4, (.slice A0_5 l0_5.length c0_5), (.slice A0_6 l0_6.length c0_6)] 82 (0, 0))) ∧ Aside0 (Below w.heap.size w w'))
 case atStart => exact ⟨(([] : List (List Int))), (y1024), (0), zak25, H', ⟨Nat.le_refl _⟩, ⟨zak26⟩, ⟨by (with_reducible repeat (first | apply Kd.R_alloc | apply Kd.R_drewN | apply Kd.R_drew)); exact HO1026.out⟩, ⟨zak13⟩, ⟨zak4⟩⟩
 case round =>
  clear H'
  try clear c1; try clear c2; try clear c2b0; try clear c2b1; try clear p2; try clear c3; try clear c3b0; try clear c3b1; try clear hcz4_0; try clear hcz4_1; try clear hcz4_2; try clear hcz4_3; try clear hcz4_4; try clear hcz4_5; try clear hcz4_6; try clear hcz7_0; try clear hcz7_1; try clear hcz7_2; try clear hcz7_3; try clear hcz7_4; try clear hcz7_5; try clear hcz7_6; try clear hfz4_0; try clear hfz4_1; try clear hfz4_2; try clear hfz4_3; try clear hfz4_4; try clear hfz4_5; try clear hfz4_6; try clear hfz7_0; try clear hfz7_1; try clear hfz7_2; try clear hfz7_3; try clear hfz7_4; try clear hfz7_5
  try clear hfz7_6
  obtain ⟨x3_1, x4_1, x21_1, rfl, HA, HK1, HO_3, HO_4, BK0, HB⟩ := hrel
  cases gk with
  | zero => exact absurd HA.out (by simp [impl_graph_parts.l0])
  | succ k1 =>
   have H := HA.out
   clear HA
   simp only [impl_graph_parts.l0] at H
   by_cases c8 : x21_1 < (l0_5.length : Int)
   rotate_left
   ·rw [if_neg c8] at H
    have c8b0 : decide (x21_1 < (l0_5.length : Int)) = false := decide_eq_false c8
    clear c8
    obtain rfl := Option.some.inj H
    go_wp2
    go_ret
    exact ⟨_, zak18, zak17, zak4⟩
   rw [if_pos c8] at H
   have c8b0 : decide (x21_1 < (l0_5.length : Int)) = true := decide_eq_true c8
   clear c8
   by_cases c9 : 0 ≤ x21_1
   rotate_left
   ·rw [if_neg c9] at H
    exact absurd H (by simp)
   rw [if_pos c9] at H
   have c9b0 : decide (0 ≤ x21_1) = true := decide_eq_true c9
   clear c9
   by_cases c10 : x21_1 < (l0_5.length : Int)
   rotate_left
   ·rw [if_neg c10] at H
    exact absurd H (by simp)
   rw [if_pos c10] at H
   have c10b0 : decide (x21_1 < (l0_5.length : Int)) = true := decide_eq_true c10
   clear c10
   by_cases c11 : 0 ≤ (rd l0_5 x21_1)
   rotate_left
   ·rw [if_neg c11] at H
    exact absurd H (by simp)
   rw [if_pos c11] at H
   have c11b0 : decide (0 ≤ (rd l0_5 x21_1)) = true := decide_eq_true c11
   clear c11
   by_cases c12 : (rd l0_5 x21_1) < (x4_1.length : Int)
   rotate_left
   ·rw [if_neg c12] at H
    exact absurd H (by simp)
   rw [if_pos c12] at H
   have c12b0 : decide ((rd l0_5 x21_1) < (x4_1.length : Int)) = true := decide_eq_true c12
   clear c12
   obtain ⟨bq13, hbq13⟩ : ∃ b_ : Bool, b_ = (rdOf false x4_1 (rd l0_5 x21_1)) := ⟨_, rfl⟩
   replace H : (if bq13 = true then (impl_graph_parts.l0 k1 x3_1 x4_1 l0_5 (l0_5.length : Int) (wrap64 (x21_1 + 1)) a0_0 a0_1 l0_2 a0_3 a0_4 l0_5 l0_6) else ((impl_graph_far.f k1 a0_0 a0_1 l0_2 a0_3 a0_4 l0_5 l0_6 (rd l0_5 x21_1)).bind fun t1029 => (impl_graph_parts.l1 k1 x3_1 x4_1 ([] : List Int) l0_5 (l0_5.length : Int) x21_1 t1029 (t1029.length : Int) 0 a0_0 a0_1 l0_2 a0_3 a0_4 l0_5 l0_6))) = some r := by rw [← hbq13] at H; exact H
   have Nbq13 := Aside0.mk hbq13
   clear hbq13
   by_cases c14 : bq13 = true
   ·subst c14
    have H1 : (impl_graph_parts.l0 k1 x3_1 x4_1 l0_5 (l0_5.length : Int) (wrap64 (x21_1 + 1)) a0_0 a0_1 l0_2 a0_3 a0_4 l0_5 l0_6) = some r := by rw [if_pos rfl] at H; exact H
    clear H
    have H := H1
    clear H1
    have H' := Aside0.mk H
    clear H
    have p1027 : 0 ≤ (x21_1 : Int) := of_decide_eq_true zak15
    have q1027 : x21_1 < (l0_5.length : Int) := of_decide_eq_true zak15
    obtain ⟨ad1027, e1027, hx1027_0⟩ := Kd.at_int HR0_5.out x21_1 p1027 q1027
    cases e1027
    (first | replace hx1027_0 := (HB.out.cell (World.block_lt_of_cell? w _ hx1027_0)).trans hx1027_0 | skip)
    replace p1027 := eq_true p1027
    replace q1027 := eq_true q1027
    obtain ⟨Ao15, co15, eo15⟩ := Kd.R_slice HO_4.out
    subst eo15
    have p1028 : 0 ≤ ((rd l0_5 x21_1) : Int) := of_decide_eq_true zak15
    have q1028 : (rd l0_5 x21_1) < (x4_1.length : Int) := of_decide_eq_true zak15
    obtain ⟨ad1028, e1028, hx1028_0⟩ := Kd.at_bool (Kd.R_reads' HO_4.out).2.2 (rd l0_5 x21_1) p1028 q1028
    (try rw [← Nbq13.out] at hx1028_0)
    cases e1028
    replace p1028 := eq_true p1028
    replace q1028 := eq_true q1028
    go_wp2
    go_roundg k1
    case measure => have := HK1.out; omega
    case rel => exact ⟨(x3_1), (x4_1), (wrap64 (x21_1 + 1)), zak25, H', ⟨by have := HK1.out; omega⟩, ⟨zak17⟩, ⟨zak19⟩, ⟨zak13⟩, ⟨zak4⟩⟩
   replace c14 := Bool.eq_false_iff.mpr c14
   subst c14
   have H1 : ((impl_graph_far.f k1 a0_0 a0_1 l0_2 a0_3 a0_4 l0_5 l0_6 (rd l0_5 x21_1)).bind fun t1029 => (impl_graph_parts.l1 k1 x3_1 x4_1 ([] : List Int) l0_5 (l0_5.length : Int) x21_1 t1029 (t1029.length : Int) 0 a0_0 a0_1 l0_2 a0_3 a0_4 l0_5 l0_6)) = some r := by rw [if_neg (show ¬ (false = true) by decide)] at H; exact H
   clear H
   have H := H1
   clear H1
   replace H := Option.bind_eq_some_iff.mp H
   obtain ⟨t1029, A160, H⟩ := H
   replace H : (impl_graph_parts.l1 k1 x3_1 x4_1 ([] : List Int) l0_5 (l0_5.length : Int) x21_1 t1029 (t1029.length : Int) 0 a0_0 a0_1 l0_2 a0_3 a0_4 l0_5 l0_6) = some r := H
   have A16 := Aside0.mk A160
   clear A160
   have H' := Aside0.mk H
   clear H
   have p1027 : 0 ≤ (x21_1 : Int) := of_decide_eq_true zak15
   have q1027 : x21_1 < (l0_5.length : Int) := of_decide_eq_true zak15
   obtain ⟨ad1027, e1027, hx1027_0⟩ := Kd.at_int HR0_5.out x21_1 p1027 q1027
   cases e1027
   (first | replace hx1027_0 := (HB.out.cell (World.block_lt_of_cell? w _ hx1027_0)).trans hx1027_0 | skip)
   replace p1027 := eq_true p1027
   replace q1027 := eq_true q1027
   obtain ⟨Ao17, co17, eo17⟩ := Kd.R_slice HO_4.out
   subst eo17
   have p1028 : 0 ≤ ((rd l0_5 x21_1) : Int) := of_decide_eq_true zak15
   have q1028 : (rd l0_5 x21_1) < (x4_1.length : Int) := of_decide_eq_true zak15
   obtain ⟨ad1028, e1028, hx1028_0⟩ := Kd.at_bool (Kd.R_reads' HO_4.out).2.2 (rd l0_5 x21_1) p1028 q1028
   (try rw [← Nbq13.out] at hx1028_0)
   cases e1028
   replace p1028 := eq_true p1028
   replace q1028 := eq_true q1028
   go_wp2_with (first | ((with_reducible refine gate_callee (f := 66) rfl ?_); refine goesL_ (some 31) rfl rfl Try.func66 (by kernel_rfl) rfl #[.pointer (some ⟨gb0, 0, none⟩), .int .i64 (rd l0_5 x21_1)] rfl zak10 ?_; (with_reducible refine (impl_graph_far.calls k1 gb0 a0_0 a0_1 A0_2 c0_2 l0_2 a0_3 a0_4 (some ad1027) c0_5 l0_5 A0_6 c0_6 l0_6 (rd l0_5 x21_1) t1029 _ ?side1 ?side2 ?side3 ?side4 ?side5 ?side6 ?side7 A16.out).mono ?_); (case side1 => exact zak13); (case side2 => exact zak8); (case side3 => exact HC0_2.out); (case side4 => repeat (first | exact (Kd.C_below HR0_5.out HB.out) | (with_reducible refine Kd.C_alloc ?_ _) | (with_reducible refine Kd.C_drewN ?_ _) | (with_reducible refine Kd.C_drew ?_))); (case side5 => exact HC0_5.out); (case side6 => repeat (first | exact (Kd.C_below HR0_6.out HB.out) | (with_reducible refine Kd.C_alloc ?_ _) | (with_reducible refine Kd.C_drewN ?_ _) | (with_reducible refine Kd.C_drew ?_))); (case side7 => exact HC0_6.out); rintro e w18 ⟨v1030, rfl, ho0, hb⟩; refine ⟨_, rfl, ?_⟩; have n0_ := Aside0.mk (Kd.S_elder' zak17 (Kd.R_base ho0) hb); have n1_ := Aside0.mk (Kd.R_below zak19 hb); have n2_ := Aside0.mk (Kd.R_lower ho0 (below_size zak4)); have n3_ := Aside0.mk (blk_below (g := gb0) (o := .cells #[.int .i64 a0_0, .int .i64 a0_1, .slice A0_2 l0_2.length c0_2, .int .i64 a0_3, .int .i64 a0_4, .slice (some ad1027) l0_5.length c0_5, .slice A0_6 l0_6.length c0_6] 82 (0, 0)) zak13 hb); have n4_ := Aside0.mk (below_step zak4 hb); clear HO_3; clear HO_4; clear BK0; clear HB; have HO_3 := n0_; have HO_4 := n1_; have HO1031 := n2_; have BK0 := n3_; have HB := n4_; clear n0_ n1_ n2_ n3_ n4_; (try clear hb); (try clear hb2); (try clear hk); (try clear hi); (try clear ho0); (try clear hna_); (try clear hnb_); obtain ⟨Ao19, co19, eo19⟩ := Kd.R_slice HO1031.out; subst eo19))
   go_loopg [7, 33] k1 (fun kq v7 v33 w' => ∃ (x4_2 : List Bool) (x7_2 : List Int) (x33_2 : Int), v33 = .int .i64 x33_2 ∧ Aside0 (impl_graph_parts.l1 kq x3_1 x4_2 x7_2 l0_5 (l0_5.length : Int) x21_1 t1029 (t1029.length : Int) x33_2 a0_0 a0_1 l0_2 a0_3 a0_4 l0_5 l0_6 = some r) ∧ Aside0 (kq ≤ k1) ∧ Aside0 (Kd.S (Kd.slice 3 (Kd.int .i64)) 22 w' w.heap.size (fun k_ => some k_ ≠ (v7 : Value).ownBlock ∧ some k_ ≠ ((.slice Ao19 t1029.length co19) : Value).ownBlock) u3 x3_1) ∧ Aside0 (Kd.R Kd.bool 4 w' w.heap.size (fun _ => True) (.slice (some ad1028) x4_1.length co17) x4_2) ∧ Aside0 (Kd.R (Kd.int .i64) 3 w' w.heap.size (fun k_ => some k_ ≠ ((.slice Ao19 t1029.length co19) : Value).ownBlock) v7 x7_2) ∧ Aside0 (Kd.R (Kd.int .i64) 3 w' w.heap.size (fun k_ => some k_ ≠ (v7 : Value).ownBlock) (.slice Ao19 t1029.length co19) t1029) ∧ Aside0 (w'.heap[gb0]? = some (.cells #[.int .i64 a0_0, .int .i64 a0_1, (.slice A0_2 l0_2.length c0_2), .int .i64 a0_3, .int .i64 a0_4, (.slice (some ad1027) l0_5.length c0_5), (.slice A0_6 l0_6.length c0_6)] 82 (0, 0))) ∧ Aside0 (Below w.heap.size w w'))
   case atStart => exact ⟨(x4_1), (([] : List Int)), (0), zak25, H', ⟨Nat.le_refl _⟩, ⟨by (with_reducible repeat (first | apply Kd.S_alloc | apply Kd.S_drewN | apply Kd.S_drew)); exact Kd.S_mono HO_3.out (fun _ hk => ⟨(by simp [Value.ownBlock]), hk.2⟩)⟩, ⟨zak19⟩, ⟨zak16⟩, ⟨by (with_reducible repeat (first | apply Kd.R_alloc | apply Kd.R_drewN | apply Kd.R_drew)); exact Kd.R_mono HO1031.out (fun _ hk => (by simp [Value.ownBlock]))⟩, ⟨zak13⟩, ⟨zak4⟩⟩
   case round =>
    clear H'
    try clear c1; try clear p1; try clear q1; try clear hx1; try clear c2; try clear c2b0; try clear c2b1; try clear p2; try clear c3; try clear c3b0; try clear c3b1; try clear c6; try clear p6; try clear c8; try clear c8b0; try clear c9; try clear c9b0; try clear c10; try clear c10b0; try clear p10; try clear q10; try clear hx10; try clear c11; try clear c11b0; try clear c12; try clear c12b0; try clear q13; try clear c14; try clear hcz4_0; try clear hcz4_1; try clear hcz4_2; try clear hcz4_3; try clear hcz4_4; try clear hcz4_5; try clear hcz4_6; try clear hcz7_0; try clear hcz7_1; try clear hcz7_2
    try clear hcz7_3; try clear hcz7_4; try clear hcz7_5; try clear hcz7_6; try clear hfz4_0; try clear hfz4_1; try clear hfz4_2; try clear hfz4_3; try clear hfz4_4; try clear hfz4_5; try clear hfz4_6; try clear hfz7_0; try clear hfz7_1; try clear hfz7_2; try clear hfz7_3; try clear hfz7_4; try clear hfz7_5; try clear hfz7_6; try clear hx1027_0; try clear hx1028_0; try clear p1027; try clear p1028; try clear p2; try clear q1027; try clear q1028
    obtain ⟨x4_2, x7_2, x33_2, rfl, HA, HK2, HO_3, HO_4, HO_7, HO_31, BK0, HB⟩ := hrel
    have hl4_2 := (Kd.R_reads' HO_4.out).1
    rw [hl4_2] at HO_4
    (try simp only [hl4_2])
    (try simp only [hl4_2] at BK0)
    (try simp only [hl4_2] at HO_3)
    (try simp only [hl4_2] at HO_7)
    (try simp only [hl4_2] at HO_31)
    cases gk with
    | zero => exact absurd HA.out (by simp [impl_graph_parts.l1])
    | succ k2 =>
     have H := HA.out
     clear HA
     simp only [impl_graph_parts.l1] at H
     by_cases c20 : x33_2 < (t1029.length : Int)
     rotate_left
     ·rw [if_neg c20] at H
      have c20b0 : decide (x33_2 < (t1029.length : Int)) = false := decide_eq_false c20
      have c20b8 := c20b0
      (try simp only [hl4_2] at c20b8)
      clear c20
      by_cases c30 : x3_1.length < 5864062014805
      rotate_left
      ·rw [if_neg c30] at H
       exact absurd H (by simp)
      rw [if_pos c30] at H
      have LMc30 := Aside0.mk c30
      clear c30
      obtain ⟨y1037, hy1037⟩ : ∃ y_ : List (List Int), y_ = (x3_1 ++ [x7_2]) := ⟨_, rfl⟩
      replace H : (impl_graph_parts.l0 k2 y1037 x4_2 l0_5 (l0_5.length : Int) (wrap64 (x21_1 + 1)) a0_0 a0_1 l0_2 a0_3 a0_4 l0_5 l0_6) = some r := by first | (rw [hy1037]; with_reducible exact H) | (have H2_ := (Option.bind_some _ _).symm.trans H; rw [hy1037]; with_reducible exact H2_) | (have H2_ := (Option.bind_some _ _).symm.trans H; with_reducible exact H2_) | with_reducible exact H | (rw [hy1037]; exact H) | exact H
      have Ny1037 := Aside0.mk hy1037
      clear hy1037
      have H' := Aside0.mk H
      clear H
      obtain ⟨Ao32, co32, eo32⟩ := Kd.R_slice HO_7.out
      subst eo32
      go_wp2_with (first | ((with_reducible refine gate_builtin (b := .append) (xs := #[.tmp 48, .tmp 50]) rfl ?_); at_builtin; refine Kd.S_append (Kd.slice 3 (Kd.int .i64)) (w0 := w) w.heap.size rfl (.tmp 48) (.tmp 50) 69 22 (.slice none 0 0) 24 rfl Try.underlying69 info22 rfl (by decide) (by omega) u3 x3_1 x7_2 [.slice Ao32 x7_2.length co32] (fun k_ => some k_ ≠ (.slice Ao19 t1029.length co19 : Value).ownBlock) (fun k_ => some k_ = (.slice Ao32 x7_2.length co32 : Value).ownBlock) rfl rfl ?aP (fun k_ hk_ => ((Kd.R_mono (ok' := fun k_ => ((fun k_ => some k_ ≠ (.slice Ao19 t1029.length co19 : Value).ownBlock)) k_ ∧ some k_ ≠ (u3 : Value).ownBlock) (Kd.R_apart' (HO_7.out) (Kd.S_typed HO_3.out) (by decide)) (fun k_ hk => ⟨hk.1, hk.2⟩))).1 k_ hk_.symm) ?aF ?aO ?aB ?aS ?aL ?_; (case aP => exact Kd.M_row (Kd.R_mono (Kd.R_tight rfl (Kd.R_mono (ok' := fun k_ => ((fun k_ => some k_ ≠ (.slice Ao19 t1029.length co19 : Value).ownBlock)) k_ ∧ some k_ ≠ (u3 : Value).ownBlock) (Kd.R_apart' (HO_7.out) (Kd.S_typed HO_3.out) (by decide)) (fun k_ hk => ⟨hk.1, hk.2⟩))) (fun _ h_ => h_))); (case aB => exact zak4); (case aF => exact (fun k_ hk => Kd.fresh' (Kd.R_lt zak24) k_ hk)); (case aO => exact (by (with_reducible repeat (first | apply Kd.S_alloc | apply Kd.S_drewN | apply Kd.S_drew)); exact Kd.S_mono HO_3.out (fun k_ hk => ⟨hk.2, fun e_ => hk.1 e_⟩))); (case aS => exact (below_size zak4)); (case aL => have := LMc30.out; omega); intro v1038 w31 ho hb hg hat; rw [← Ny1037.out] at ho; have n0_ := Aside0.mk (Kd.R_over' zak19 (Kd.S_typed zak17) (by decide) hg); have n1_ := Aside0.mk (Kd.R_over' zak24 (Kd.S_typed zak17) (by decide) hg); have n2_ := Aside0.mk (blk_grown (g := gb0) (o := .cells #[.int .i64 a0_0, .int .i64 a0_1, .slice A0_2 l0_2.length c0_2, .int .i64 a0_3, .int .i64 a0_4, .slice (some ad1027) l0_5.length c0_5, .slice A0_6 l0_6.length c0_6] 82 (0, 0)) zak13 hg (Kd.S_ne HO_3.out BK0.out (by decide))); have n3_ := Aside0.mk (hb); have n4_ := Aside0.mk (ho); clear HO_4; clear HO_31; clear BK0; clear HB; clear HO_3; clear HO_7; have HO_4 := n0_; have HO_31 := n1_; have BK0 := n2_; have HB := n3_; have HO1039 := n4_; clear n0_ n1_ n2_ n3_ n4_; clear ho hb hg hat))
      (try simp only [← hl4_2])
      go_roundg k2
      case measure => have := HK1.out; have := HK2.out; omega
      case rel => exact ⟨(y1037), (x4_2), (wrap64 (x21_1 + 1)), zak25, H', ⟨by have := HK1.out; have := HK2.out; omega⟩, ⟨by (try simp only [hl4_2]); (with_reducible repeat (first | apply Kd.S_alloc | apply Kd.S_drewN | apply Kd.S_drew)); exact Kd.S_mono HO1039.out (fun _ hk => trivial)⟩, ⟨zak28⟩, ⟨zak27⟩, ⟨zak4⟩⟩
     rw [if_pos c20] at H
     have c20b0 : decide (x33_2 < (t1029.length : Int)) = true := decide_eq_true c20
     have c20b8 := c20b0
     (try simp only [hl4_2] at c20b8)
     clear c20
     by_cases c21 : 0 ≤ x33_2
     rotate_left
     ·rw [if_neg c21] at H
      exact absurd H (by simp)
     rw [if_pos c21] at H
     have c21b0 : decide (0 ≤ x33_2) = true := decide_eq_true c21
     clear c21
     by_cases c22 : x33_2 < (t1029.length : Int)
     rotate_left
     ·rw [if_neg c22] at H
      exact absurd H (by simp)
     rw [if_pos c22] at H
     have c22b0 : decide (x33_2 < (t1029.length : Int)) = true := decide_eq_true c22
     have c22b8 := c22b0
     (try simp only [hl4_2] at c22b8)
     clear c22
     by_cases c23 : (rd t1029 x33_2) ≥ 0
     rotate_left
     ·rw [if_neg c23] at H
      have c23b0 : decide (0 ≤ (rd t1029 x33_2)) = false := decide_eq_false c23
      clear c23
      have H' := Aside0.mk H
      clear H
      have p1032 : 0 ≤ (x33_2 : Int) := of_decide_eq_true zak15
      have q1032 : x33_2 < (t1029.length : Int) := of_decide_eq_true zak15
      obtain ⟨ad1032, e1032, hx1032_0⟩ := Kd.at_int (Kd.R_reads' HO_31.out).2.2 x33_2 p1032 q1032
      cases e1032
      replace p1032 := eq_true p1032
      replace q1032 := eq_true q1032
      go_wp2
      (try simp only [← hl4_2])
      go_roundg k2
      case measure => have := HK1.out; have := HK2.out; omega
      case rel => exact ⟨(x4_2), (x7_2), (wrap64 (x33_2 + 1)), zak25, H', ⟨by have := HK1.out; have := HK2.out; omega⟩, ⟨by (try simp only [hl4_2]); (with_reducible repeat (first | apply Kd.S_alloc | apply Kd.S_drewN | apply Kd.S_drew)); exact HO_3.out⟩, ⟨zak28⟩, ⟨by (try simp only [hl4_2]); (with_reducible repeat (first | apply Kd.R_alloc | apply Kd.R_drewN | apply Kd.R_drew)); exact HO_7.out⟩, ⟨by (try simp only [hl4_2]); (with_reducible repeat (first | apply Kd.R_alloc | apply Kd.R_drewN | apply Kd.R_drew)); exact HO_31.out⟩, ⟨zak27⟩, ⟨zak4⟩⟩
     rw [if_pos c23] at H
     have c23b0 : decide (0 ≤ (rd t1029 x33_2)) = true := decide_eq_true c23
     clear c23
     by_cases c24 : x33_2 < (x4_2.length : Int)
     rotate_left
     ·rw [if_neg c24] at H
      exact absurd H (by simp)
     rw [if_pos c24] at H
     have c24b0 : decide (x33_2 < (x4_2.length : Int)) = true := decide_eq_true c24
     have c24b8 := c24b0
     (try simp only [hl4_2] at c24b8)
     clear c24
     obtain ⟨y1033, hy1033⟩ : ∃ y_ : List Bool, y_ = (x4_2.set (x33_2 : Int).toNat true) := ⟨_, rfl⟩
     replace H : (if x7_2.length < 17592186044416 then (impl_graph_parts.l1 k2 x3_1 y1033 (x7_2 ++ [x33_2]) l0_5 (l0_5.length : Int) x21_1 t1029 (t1029.length : Int) (wrap64 (x33_2 + 1)) a0_0 a0_1 l0_2 a0_3 a0_4 l0_5 l0_6) else (none)) = some r := by first | (rw [hy1033]; with_reducible exact H) | (have H2_ := (Option.bind_some _ _).symm.trans H; rw [hy1033]; with_reducible exact H2_) | (have H2_ := (Option.bind_some _ _).symm.trans H; with_reducible exact H2_) | with_reducible exact H | (rw [hy1033]; exact H) | exact H
     have Ny1033 := Aside0.mk hy1033
     clear hy1033
     by_cases c26 : x7_2.length < 17592186044416
     rotate_left
     ·rw [if_neg c26] at H
      exact absurd H (by simp)
     rw [if_pos c26] at H
     have LMc26 := Aside0.mk c26
     clear c26
     obtain ⟨y1034, hy1034⟩ : ∃ y_ : List Int, y_ = (x7_2 ++ [x33_2]) := ⟨_, rfl⟩
     replace H : (impl_graph_parts.l1 k2 x3_1 y1033 y1034 l0_5 (l0_5.length : Int) x21_1 t1029 (t1029.length : Int) (wrap64 (x33_2 + 1)) a0_0 a0_1 l0_2 a0_3 a0_4 l0_5 l0_6) = some r := by first | (rw [hy1034]; with_reducible exact H) | (have H2_ := (Option.bind_some _ _).symm.trans H; rw [hy1034]; with_reducible exact H2_) | (have H2_ := (Option.bind_some _ _).symm.trans H; with_reducible exact H2_) | with_reducible exact H | (rw [hy1034]; exact H) | exact H
     have Ny1034 := Aside0.mk hy1034
     clear hy1034
     have H' := Aside0.mk H
     clear H
     have p1032 : 0 ≤ (x33_2 : Int) := of_decide_eq_true zak15
     have q1032 : x33_2 < (t1029.length : Int) := of_decide_eq_true zak15
     obtain ⟨ad1032, e1032, hx1032_0⟩ := Kd.at_int (Kd.R_reads' HO_31.out).2.2 x33_2 p1032 q1032
     cases e1032
     replace p1032 := eq_true p1032
     replace q1032 := eq_true q1032
     have p25 : 0 ≤ (x33_2 : Int) := of_decide_eq_true zak15
     have q25 : (x33_2 : Int) < ((x4_2.length : Int) : Int) := of_decide_eq_true zak15
     obtain ⟨go25, co25, eo25, gb25, gl25, cl25, HG25⟩ := Kd.R_form HO_4.out (by omega)
     (first | cases eo25 | (injection eo25 with ea_ en_ ec_; (first | subst ea_ | (injection ea_ with ea_; subst ea_)); subst ec_; clear en_))
     have GB25 := Aside0.mk gb25
     have GG25 := Aside0.mk HG25
     clear gb25 gl25 HG25
     (try simp only [add_plain] at *)
     (first | simp only [add_plain] at hx1028_0 | skip)
     obtain ⟨hx25_0, hf25_0⟩ := Kd.R_celln false HO_4.out (x33_2 : Int) p25 q25
     replace p25 := eq_true p25
     replace q25 := eq_true q25
     have HP27 := Kd.R_putg HO_4.out (x33_2 : Int) true
     go_wp2_with (first | ((with_reducible refine gate_store (t := 4) (p := 42) rfl ?_); refine store_event (t := 4) (p := 42) (v := ?vo_w28) (w1 := (wr.setCell ⟨go25, (x33_2 : Int).toNat, none⟩ (.bool true))) ?hg ?ho ?hn ?hr ?_; (case ho => rfl); (case hg => rfl); (case hn => rfl); (case hr => first | (go_simp; done) | (go_simp; rfl)); intro w28 hw; have hg : wr.grownBy w28 (some go25) := (by rw [hw]; exact HP27.2); have hp_ : Kd.R Kd.bool 4 w28 w.heap.size (fun _ => True) (.slice (some ⟨go25, 0, none⟩) x4_2.length co17) y1033 := (by rw [hw, Ny1033.out]; exact HP27.1); clear HP27; have n0_ := Aside0.mk (Kd.S_over' (v := (.slice (some ⟨go25, 0, none⟩) x4_2.length co17)) zak17 (Kd.R_typed HO_4.out) (by decide) hg); have n1_ := Aside0.mk (hp_); have n2_ := Aside0.mk (Kd.R_over' (v := (.slice (some ⟨go25, 0, none⟩) x4_2.length co17)) zak30 (Kd.R_typed HO_4.out) (by decide) hg); have n3_ := Aside0.mk (Kd.R_over' (v := (.slice (some ⟨go25, 0, none⟩) x4_2.length co17)) zak24 (Kd.R_typed HO_4.out) (by decide) hg); have n4_ := Aside0.mk (blk_grown (g := gb0) (o := .cells #[.int .i64 a0_0, .int .i64 a0_1, .slice A0_2 l0_2.length c0_2, .int .i64 a0_3, .int .i64 a0_4, .slice (some ad1027) l0_5.length c0_5, .slice A0_6 l0_6.length c0_6] 82 (0, 0)) zak13 hg (Kd.R_ne HO_4.out BK0.out (by decide))); have n5_ := Aside0.mk ((by rw [hw]; exact below_set (HB.out) GB25.out : Below w.heap.size w w28)); clear HO_3; clear HO_4; clear HO_7; clear HO_31; clear BK0; clear HB; have HO_3 := n0_; have HO_4 := n1_; have HO_7 := n2_; have HO_31 := n3_; have BK0 := n4_; have HB := n5_; clear n0_ n1_ n2_ n3_ n4_ n5_; clear hg hw hp_) | ((with_reducible refine gate_builtin (b := .append) (xs := #[.tmp 43, .tmp 45]) rfl ?_); at_builtin; refine Kd.R_append (Kd.int .i64) (w0 := w) w.heap.size rfl (.tmp 43) (.tmp 45) 22 3 (.int .i64 0) 8 rfl Try.underlying22 info3 rfl (by decide) (by omega) u7 x7_2 x33_2 [.int .i64 x33_2] (fun k_ => some k_ ≠ (.slice (some ad1032) t1029.length co19 : Value).ownBlock) (fun _ => False) rfl rfl ?aP (fun _ hk => hk.elim) ?aF ?aO ?aB ?aS ?aL ?_; (case aP => exact rfl); (case aB => exact zak4); (case aF => exact (fun k_ hk => Kd.fresh' (Kd.R_lt zak24) k_ hk)); (case aO => exact zak30); (case aS => exact (below_size zak4)); (case aL => have := LMc26.out; omega); intro v1035 w29 ho hb hg hat; rw [← Ny1034.out] at ho; have n0_ := Aside0.mk (Kd.S_after (ok := (fun k_ => some k_ ≠ (.slice (some ad1032) t1029.length co19 : Value).ownBlock)) (by (with_reducible repeat (first | apply Kd.S_alloc | apply Kd.S_drewN | apply Kd.S_drew)); exact Kd.S_mono HO_3.out (fun _ hk => ⟨hk.2, hk.1⟩)) hg hat); have n1_ := Aside0.mk (Kd.R_over' zak19 (Kd.R_typed zak30) (by decide) hg); have n2_ := Aside0.mk (Kd.R_after (ok := (fun _ => True)) (by (with_reducible repeat (first | apply Kd.R_alloc | apply Kd.R_drewN | apply Kd.R_drew)); exact Kd.R_mono HO_31.out (fun _ hk => ⟨trivial, hk⟩)) hg hat); have n3_ := Aside0.mk (blk_grown (g := gb0) (o := .cells #[.int .i64 a0_0, .int .i64 a0_1, .slice A0_2 l0_2.length c0_2, .int .i64 a0_3, .int .i64 a0_4, .slice (some ad1027) l0_5.length c0_5, .slice A0_6 l0_6.length c0_6] 82 (0, 0)) zak13 hg (Kd.R_ne HO_7.out BK0.out (by decide))); have n4_ := Aside0.mk (hb); have n5_ := Aside0.mk (ho); clear HO_3; clear HO_4; clear HO_31; clear BK0; clear HB; clear HO_7; have HO_3 := n0_; have HO_4 := n1_; have HO_31 := n2_; have BK0 := n3_; have HB := n4_; have HO1036 := n5_; clear n0_ n1_ n2_ n3_ n4_ n5_; clear ho hb hg hat))
     (try simp only [← hl4_2])
     go_roundg k2
     case measure => have := HK1.out; have := HK2.out; omega
     case rel => exact ⟨(y1033), (y1034), (wrap64 (x33_2 + 1)), zak25, H', ⟨by have := HK1.out; have := HK2.out; omega⟩, ⟨by (try simp only [hl4_2]); (with_reducible repeat (first | apply Kd.S_alloc | apply Kd.S_drewN | apply Kd.S_drew)); exact Kd.S_mono HO_3.out (fun _ hk => ⟨hk.2, hk.1⟩)⟩, ⟨zak28⟩, ⟨by (try simp only [hl4_2]); (with_reducible repeat (first | apply Kd.R_alloc | apply Kd.R_drewN | apply Kd.R_drew)); exact HO1036.out⟩, ⟨by (try simp only [hl4_2]); (with_reducible repeat (first | apply Kd.R_alloc | apply Kd.R_drewN | apply Kd.R_drew)); exact Kd.R_mono HO_31.out (fun _ hk => hk.2)⟩, ⟨zak27⟩, ⟨zak4⟩⟩

/-! ### impl_greatest: function 77 -/
def impl_greatest.l0 : Nat → List Int → List Int → Int → Int → Int → Int → List Int → Int → Int → List Int → List (List Int) → Option (List Int × (List (List Int)) × List Int × Bool)
 | 0, _, _, _, _, _, _, _, _, _, _, _ => none
 | k + 1, x9, x29, x30, x31, x1049000, x1049001, x1049002, x1049003, x1049004, x1049005, x1049006 => if x31 < x30 then (if 0 ≤ x31 then (if x31 < (x29.length : Int) then ((impl_graph_far.f k x1049000 x1049001 x1049002 x1049003 x1049004 x1049005 x1049006 (rd x29 x31)).bind fun t1055 => ((slices_Max_int_int.f t1055).bind fun t1058 => (if x9.length < 17592186044416 then (impl_greatest.l0 k (x9 ++ [t1058]) x29 x30 (wrap64 (x31 + 1)) x1049000 x1049001 x1049002 x1049003 x1049004 x1049005 x1049006) else (none)))) else (none)) else (none)) else (some (x1049005, x1049006, x9, true))
def impl_greatest.f (k : Nat) (a0_0 : Int) (a0_1 : Int) (l0_2 : List Int) (a1_0 : Int) (a1_1 : Int) : Option (List Int × (List (List Int)) × List Int × Bool) := (impl_graphOf.f k a0_0 a0_1 l0_2 a1_0 a1_1).bind fun bt1042 => (if bt1042.2.2 = true then ((impl_graph_parts.f k a0_0 a0_1 l0_2 a1_0 a1_1 bt1042.1 bt1042.2.1).bind fun t1051 => (if (t1051.length : Int) = 1 then (impl_greatest.l0 k ([] : List Int) bt1042.1 (bt1042.1.length : Int) 0 a0_0 a0_1 l0_2 a1_0 a1_1 bt1042.1 bt1042.2.1) else (some (([] : List Int), ([] : List (List Int)), ([] : List Int), false)))) else (some (([] : List Int), ([] : List (List Int)), ([] : List Int), false)))
set_option maxHeartbeats 8000000 in
set_option maxRecDepth 100000 in
theorem impl_greatest.calls (k : Nat) (a0_0 : Int) (a0_1 : Int) (A0_2 : Option Addr) (c0_2 : Nat) (l0_2 : List Int) (a1_0 : Int) (a1_1 : Int) (r1 : List Int) (r2 : List (List Int)) (r3 : List Int) (r4 : Bool) (w : World) (hr0_2 : Kd.C (Kd.int .i64) w A0_2 l0_2.length l0_2) (hc0_2 : l0_2.length ≤ c0_2) (h : impl_greatest.f k a0_0 a0_1 l0_2 a1_0 a1_1 = some (r1, r2, r3, r4)) :
  Calls Try.prog 77 #[.agg #[.int .i64 a0_0, .int .i64 a0_1, .slice A0_2 l0_2.length c0_2], .agg #[.int .i64 a1_0, .int .i64 a1_1]] w fun e w' => ∃ v0_ v1_ v2_ : Value, ∃ pv_ : Value, e = .returned (.tuple #[pv_, v2_, .bool r4]) ∧ GPT r4 pv_ w w' #[.int .i64 a0_0, .int .i64 a0_1, .slice A0_2 l0_2.length c0_2, .int .i64 a1_0, .int .i64 a1_1, v0_, v1_] ∧ Kd.R (Kd.int .i64) 3 w' w.heap.size (fun k_ => some k_ ≠ (v2_ : Value).ownBlock) v0_ r1 ∧ Kd.S (Kd.slice 3 (Kd.int .i64)) 22 w' w.heap.size (fun k_ => some k_ ≠ (v0_ : Value).ownBlock ∧ some k_ ≠ (v2_ : Value).ownBlock) v1_ r2 ∧ Kd.R (Kd.int .i64) 3 w' w.heap.size (fun k_ => some k_ ≠ (v0_ : Value).ownBlock) v2_ r3 ∧ Below w.heap.size w w' := by
 have hu30 := Try.underlying30
 have hu32 := Try.underlying32
 have HR0_2 := Aside0.mk hr0_2
 have HC0_2 := Aside0.mk hc0_2
 clear hr0_2 hc0_2
 have HB := Aside0.mk (Below.refl w.heap.size w)
 have H : ((impl_graphOf.f k a0_0 a0_1 l0_2 a1_0 a1_1).bind fun bt1042 => (if bt1042.2.2 = true then ((impl_graph_parts.f k a0_0 a0_1 l0_2 a1_0 a1_1 bt1042.1 bt1042.2.1).bind fun t1051 => (if (t1051.length : Int) = 1 then (impl_greatest.l0 k ([] : List Int) bt1042.1 (bt1042.1.length : Int) 0 a0_0 a0_1 l0_2 a1_0 a1_1 bt1042.1 bt1042.2.1) else (some (([] : List Int), ([] : List (List Int)), ([] : List Int), false)))) else (some (([] : List Int), ([] : List (List Int)), ([] : List Int), false)))) = some (r1, r2, r3, r4) := h
 clear h
 replace H := Option.bind_eq_some_iff.mp H
 obtain ⟨⟨t1042, t1045, t1050⟩, A30, H⟩ := H
 replace H : (if t1050 = true then ((impl_graph_parts.f k a0_0 a0_1 l0_2 a1_0 a1_1 t1042 t1045).bind fun t1051 => (if (t1051.length : Int) = 1 then (impl_greatest.l0 k ([] : List Int) t1042 (t1042.length : Int) 0 a0_0 a0_1 l0_2 a1_0 a1_1 t1042 t1045) else (some (([] : List Int), ([] : List (List Int)), ([] : List Int), false)))) else (some (([] : List Int), ([] : List (List Int)), ([] : List Int), false))) = some (r1, r2, r3, r4) := H
 have A3 := Aside0.mk A30
 clear A30
 by_cases c4 : t1050 = true
 rotate_left
 ·replace c4 := Bool.eq_false_iff.mpr c4
  subst c4
  have H1 : (some (([] : List Int), ([] : List (List Int)), ([] : List Int), false)) = some (r1, r2, r3, r4) := by rw [if_neg (show ¬ (false = true) by decide)] at H; exact H
  clear H
  have H := H1
  clear H1
  simp only [Option.some.injEq, Prod.mk.injEq] at H
  obtain ⟨rfl, rfl, rfl, rfl⟩ := H
  go_enter Try.func77, Try.ntmps77
  go_wp2_with (first | ((with_reducible refine gate_dst (N := 2) rfl ?_); (try (refine gate_guard (by rfl) ?_; dsimp only)); refine box_event ?hg (N := 2) ?hd (cs := #[.int .i64 a0_0, .int .i64 a0_1, .slice A0_2 l0_2.length c0_2]) (t := 30) ?hr ?_; (case hd => rfl); (case hg => rfl); (case hr => first | (go_simp; done) | (go_simp; rfl)); intro gb1040 hg w39 hbox hb; have n0_ := Aside0.mk (below_step zak6 hb); have n1_ := Aside0.mk (hbox); have n2_ := Aside0.mk ((zak36 : w.heap.size ≤ gb1040)); have n3_ := Aside0.mk ((zak36 : w.heap.size ≤ gb1040)); clear HB; have HB := n0_; have BK1040 := n1_; have GW1040 := n2_; have GE1040 := n3_; clear n0_ n1_ n2_ n3_; clear hb hbox hg) | ((with_reducible refine gate_dst (N := 3) rfl ?_); (try (refine gate_guard (by rfl) ?_; dsimp only)); refine box_event ?hg (N := 3) ?hd (cs := #[.int .i64 a1_0, .int .i64 a1_1]) (t := 32) ?hr ?_; (case hd => rfl); (case hg => rfl); (case hr => first | (go_simp; done) | (go_simp; rfl)); intro gb1041 hg w40 hbox hb; have n0_ := Aside0.mk (blk_below (g := gb1040) (o := .cells #[.int .i64 a0_0, .int .i64 a0_1, .slice A0_2 l0_2.length c0_2] 30 (0, 0)) zak3 hb); have n1_ := Aside0.mk (below_step zak9 hb); have n2_ := Aside0.mk (hbox); have n3_ := Aside0.mk ((zak37 : w.heap.size ≤ gb1041)); have n4_ := Aside0.mk ((zak37 : w.heap.size ≤ gb1041)); have n5_ := Aside0.mk ((zak34 : gb1040 ≠ gb1041)); have n6_ := Aside0.mk ((zak35 : gb1041 ≠ gb1040)); clear BK1040; clear HB; have BK1040 := n0_; have HB := n1_; have BK1041 := n2_; have GW1041 := n3_; have GE1041 := n4_; have NB1040_1041 := n5_; have NB1041_1040 := n6_; clear n0_ n1_ n2_ n3_ n4_ n5_ n6_; clear hb hbox hg; have hnb41 := NB1040_1041.out; have hnc41 := NB1041_1040.out; have hcz42_0 : w40.cell? ⟨gb1040, 0, none⟩ = some (.int .i64 a0_0) := (blk_cell BK1040.out 0).trans rfl; have hcz42_1 : w40.cell? ⟨gb1040, 1, none⟩ = some (.int .i64 a0_1) := (blk_cell BK1040.out 1).trans rfl; have hcz42_2 : w40.cell? ⟨gb1040, 2, none⟩ = some (.slice A0_2 l0_2.length c0_2) := (blk_cell BK1040.out 2).trans rfl; have hfz42_0 := blk_frozen BK1040.out 0; have hfz42_1 := blk_frozen BK1040.out 1; have hfz42_2 := blk_frozen BK1040.out 2; have hcz43_0 : w40.cell? ⟨gb1041, 0, none⟩ = some (.int .i64 a1_0) := (blk_cell BK1041.out 0).trans rfl; have hcz43_1 : w40.cell? ⟨gb1041, 1, none⟩ = some (.int .i64 a1_1) := (blk_cell BK1041.out 1).trans rfl; have hfz43_0 := blk_frozen BK1041.out 0; have hfz43_1 := blk_frozen BK1041.out 1) | ((with_reducible refine gate_callee (f := 50) rfl ?_); refine goesL_ (some 15) rfl rfl Try.func50 (by kernel_rfl) rfl #[.agg #[.int .i64 a0_0, .int .i64 a0_1, .slice A0_2 l0_2.length c0_2], .agg #[.int .i64 a1_0, .int .i64 a1_1]] rfl zak10 ?_; (with_reducible refine (impl_graphOf.calls k a0_0 a0_1 _ _ l0_2 a1_0 a1_1 t1042 t1045 false _ ?side1 ?side2 A3.out).mono ?_); (case side1 => exact zak8); (case side2 => exact HC0_2.out); rintro e w44 ⟨v1043, v1046, pv1049, rfl, hgp, ho0, ho1, hb⟩; refine ⟨_, rfl, ?_⟩; obtain rfl := hgp.2 rfl; have n0_ := Aside0.mk (Kd.R_lower ho0 (below_size zak1)); have n1_ := Aside0.mk (Kd.S_lower ho1 (below_size zak1)); have n2_ := Aside0.mk (blk_below (g := gb1040) (o := .cells #[.int .i64 a0_0, .int .i64 a0_1, .slice A0_2 l0_2.length c0_2] 30 (0, 0)) zak3 hb); have n3_ := Aside0.mk (blk_below (g := gb1041) (o := .cells #[.int .i64 a1_0, .int .i64 a1_1] 32 (0, 0)) zak7 hb); have n4_ := Aside0.mk (below_step zak1 hb); clear BK1040; clear BK1041; clear HB; have HO1044 := n0_; have HO1047 := n1_; have BK1040 := n2_; have BK1041 := n3_; have HB := n4_; clear n0_ n1_ n2_ n3_ n4_; (try clear hb); (try clear hb2); (try clear hk); (try clear hi); (try clear ho0); (try clear ho1); (try clear hgp); (try clear hbox); (try clear hge); (try clear hna_); (try clear hnb_)))
  go_ret3
  exact ⟨_, _, _, _, zak18, ⟨(fun h_ => by cases h_), fun _ => rfl⟩, zak16, zak26, zak16, zak1⟩
 subst c4
 have H1 : ((impl_graph_parts.f k a0_0 a0_1 l0_2 a1_0 a1_1 t1042 t1045).bind fun t1051 => (if (t1051.length : Int) = 1 then (impl_greatest.l0 k ([] : List Int) t1042 (t1042.length : Int) 0 a0_0 a0_1 l0_2 a1_0 a1_1 t1042 t1045) else (some (([] : List Int), ([] : List (List Int)), ([] : List Int), false)))) = some (r1, r2, r3, r4) := by rw [if_pos rfl] at H; exact H
 clear H
 have H := H1
 clear H1
 replace H := Option.bind_eq_some_iff.mp H
 obtain ⟨t1051, A50, H⟩ := H
 replace H : (if (t1051.length : Int) = 1 then (impl_greatest.l0 k ([] : List Int) t1042 (t1042.length : Int) 0 a0_0 a0_1 l0_2 a1_0 a1_1 t1042 t1045) else (some (([] : List Int), ([] : List (List Int)), ([] : List Int), false))) = some (r1, r2, r3, r4) := H
 have A5 := Aside0.mk A50
 clear A50
 by_cases c6 : (t1051.length : Int) = 1
 rotate_left
 ·rw [if_neg c6] at H
  have c6b0 : ((t1051.length : Int) == 1) = false := beq_eq_false_iff_ne.mpr c6
  have c6b1 : ((t1051.length : Int) != 1) = true := bne_iff_ne.mpr c6
  simp only [Option.some.injEq, Prod.mk.injEq] at H
  obtain ⟨rfl, rfl, rfl, rfl⟩ := H
  go_enter Try.func77, Try.ntmps77
  go_wp2_with (first | ((with_reducible refine gate_dst (N := 2) rfl ?_); (try (refine gate_guard (by rfl) ?_; dsimp only)); refine box_event ?hg (N := 2) ?hd (cs := #[.int .i64 a0_0, .int .i64 a0_1, .slice A0_2 l0_2.length c0_2]) (t := 30) ?hr ?_; (case hd => rfl); (case hg => rfl); (case hr => first | (go_simp; done) | (go_simp; rfl)); intro gb1040 hg w29 hbox hb; have n0_ := Aside0.mk (below_step zak6 hb); have n1_ := Aside0.mk (hbox); have n2_ := Aside0.mk ((zak36 : w.heap.size ≤ gb1040)); have n3_ := Aside0.mk ((zak36 : w.heap.size ≤ gb1040)); clear HB; have HB := n0_; have BK1040 := n1_; have GW1040 := n2_; have GE1040 := n3_; clear n0_ n1_ n2_ n3_; clear hb hbox hg) | ((with_reducible refine gate_dst (N := 3) rfl ?_); (try (refine gate_guard (by rfl) ?_; dsimp only)); refine box_event ?hg (N := 3) ?hd (cs := #[.int .i64 a1_0, .int .i64 a1_1]) (t := 32) ?hr ?_; (case hd => rfl); (case hg => rfl); (case hr => first | (go_simp; done) | (go_simp; rfl)); intro gb1041 hg w30 hbox hb; have n0_ := Aside0.mk (blk_below (g := gb1040) (o := .cells #[.int .i64 a0_0, .int .i64 a0_1, .slice A0_2 l0_2.length c0_2] 30 (0, 0)) zak3 hb); have n1_ := Aside0.mk (below_step zak9 hb); have n2_ := Aside0.mk (hbox); have n3_ := Aside0.mk ((zak37 : w.heap.size ≤ gb1041)); have n4_ := Aside0.mk ((zak37 : w.heap.size ≤ gb1041)); have n5_ := Aside0.mk ((zak34 : gb1040 ≠ gb1041)); have n6_ := Aside0.mk ((zak35 : gb1041 ≠ gb1040)); clear BK1040; clear HB; have BK1040 := n0_; have HB := n1_; have BK1041 := n2_; have GW1041 := n3_; have GE1041 := n4_; have NB1040_1041 := n5_; have NB1041_1040 := n6_; clear n0_ n1_ n2_ n3_ n4_ n5_ n6_; clear hb hbox hg; have hnb31 := NB1040_1041.out; have hnc31 := NB1041_1040.out; have hcz32_0 : w30.cell? ⟨gb1040, 0, none⟩ = some (.int .i64 a0_0) := (blk_cell BK1040.out 0).trans rfl; have hcz32_1 : w30.cell? ⟨gb1040, 1, none⟩ = some (.int .i64 a0_1) := (blk_cell BK1040.out 1).trans rfl; have hcz32_2 : w30.cell? ⟨gb1040, 2, none⟩ = some (.slice A0_2 l0_2.length c0_2) := (blk_cell BK1040.out 2).trans rfl; have hfz32_0 := blk_frozen BK1040.out 0; have hfz32_1 := blk_frozen BK1040.out 1; have hfz32_2 := blk_frozen BK1040.out 2; have hcz33_0 : w30.cell? ⟨gb1041, 0, none⟩ = some (.int .i64 a1_0) := (blk_cell BK1041.out 0).trans rfl; have hcz33_1 : w30.cell? ⟨gb1041, 1, none⟩ = some (.int .i64 a1_1) := (blk_cell BK1041.out 1).trans rfl; have hfz33_0 := blk_frozen BK1041.out 0; have hfz33_1 := blk_frozen BK1041.out 1) | ((with_reducible refine gate_callee (f := 50) rfl ?_); refine goesL_ (some 15) rfl rfl Try.func50 (by kernel_rfl) rfl #[.agg #[.int .i64 a0_0, .int .i64 a0_1, .slice A0_2 l0_2.length c0_2], .agg #[.int .i64 a1_0, .int .i64 a1_1]] rfl zak10 ?_; (with_reducible refine (impl_graphOf.calls k a0_0 a0_1 _ _ l0_2 a1_0 a1_1 t1042 t1045 true _ ?side1 ?side2 A3.out).mono ?_); (case side1 => exact zak8); (case side2 => exact HC0_2.out); rintro e w34 ⟨v1043, v1046, pv1049, rfl, hgp, ho0, ho1, hb⟩; refine ⟨_, rfl, ?_⟩; obtain ⟨gb1048, rfl, hbox, hge⟩ := hgp.1 rfl; have n0_ := Aside0.mk (Kd.R_lower ho0 (below_size zak1)); have n1_ := Aside0.mk (Kd.S_lower ho1 (below_size zak1)); have n2_ := Aside0.mk (blk_below (g := gb1040) (o := .cells #[.int .i64 a0_0, .int .i64 a0_1, .slice A0_2 l0_2.length c0_2] 30 (0, 0)) zak3 hb); have n3_ := Aside0.mk (blk_below (g := gb1041) (o := .cells #[.int .i64 a1_0, .int .i64 a1_1] 32 (0, 0)) zak7 hb); have n4_ := Aside0.mk (hbox); have n5_ := Aside0.mk ((Nat.le_trans (by exact (below_size zak1)) hge : w.heap.size ≤ gb1048)); have n6_ := Aside0.mk ((Nat.le_trans (by exact (below_size zak1)) hge : w.heap.size ≤ gb1048)); have n7_ := Aside0.mk ((Nat.ne_of_lt (Nat.lt_of_lt_of_le (blk_lt (g := gb1040) (o := .cells #[.int .i64 a0_0, .int .i64 a0_1, .slice A0_2 l0_2.length c0_2] 30 (0, 0)) zak3) hge) : gb1040 ≠ gb1048)); have n8_ := Aside0.mk ((Nat.ne_of_gt (Nat.lt_of_lt_of_le (blk_lt (g := gb1040) (o := .cells #[.int .i64 a0_0, .int .i64 a0_1, .slice A0_2 l0_2.length c0_2] 30 (0, 0)) zak3) hge) : gb1048 ≠ gb1040)); have n9_ := Aside0.mk ((Nat.ne_of_lt (Nat.lt_of_lt_of_le (blk_lt (g := gb1041) (o := .cells #[.int .i64 a1_0, .int .i64 a1_1] 32 (0, 0)) zak7) hge) : gb1041 ≠ gb1048)); have n10_ := Aside0.mk ((Nat.ne_of_gt (Nat.lt_of_lt_of_le (blk_lt (g := gb1041) (o := .cells #[.int .i64 a1_0, .int .i64 a1_1] 32 (0, 0)) zak7) hge) : gb1048 ≠ gb1041)); have n11_ := Aside0.mk (below_step zak1 hb); clear BK1040; clear BK1041; clear HB; have HO1044 := n0_; have HO1047 := n1_; have BK1040 := n2_; have BK1041 := n3_; have BK1048 := n4_; have GW1048 := n5_; have GE1048 := n6_; have NB1040_1048 := n7_; have NB1048_1040 := n8_; have NB1041_1048 := n9_; have NB1048_1041 := n10_; have HB := n11_; clear n0_ n1_ n2_ n3_ n4_ n5_ n6_ n7_ n8_ n9_ n10_ n11_; (try clear hb); (try clear hb2); (try clear hk); (try clear hi); (try clear ho0); (try clear ho1); (try clear hgp); (try clear hbox); (try clear hge); (try clear hna_); (try clear hnb_); obtain ⟨Ao35, co35, eo35⟩ := Kd.R_slice HO1044.out; subst eo35; obtain ⟨Ao36, co36, eo36⟩ := Kd.S_slice HO1047.out; subst eo36) | (go_at_call 103; (with_reducible refine (impl_graph_parts.calls k gb1048 a0_0 a0_1 A0_2 c0_2 l0_2 a1_0 a1_1 Ao35 co35 t1042 Ao36 co36 t1045 t1051 _ ?side1 ?side2 ?side3 ?side4 ?side5 ?side6 ?side7 A5.out).mono ?_); (case side1 => exact zak12); (case side2 => exact zak8); (case side3 => exact HC0_2.out); (case side4 => exact zak32); (case side5 => exact (Kd.R_reads' HO1044.out).2.1); (case side6 => exact zak31); (case side7 => exact (Kd.S_reads' HO1047.out).2.1); rintro e w37 ⟨v1052, rfl, ho0, hb⟩; have n0_ := Aside0.mk (Kd.R_below zak23 hb); have n1_ := Aside0.mk (Kd.S_elder' zak22 (Kd.S_base ho0) hb); have n2_ := Aside0.mk (Kd.S_lower (Kd.S_new' (Kd.S_new' ho0 (Kd.R_lt zak23)) (Kd.S_lt zak22)) (below_size zak2)); have n3_ := Aside0.mk (blk_below (g := gb1040) (o := .cells #[.int .i64 a0_0, .int .i64 a0_1, .slice A0_2 l0_2.length c0_2] 30 (0, 0)) zak3 hb); have n4_ := Aside0.mk (blk_below (g := gb1041) (o := .cells #[.int .i64 a1_0, .int .i64 a1_1] 32 (0, 0)) zak7 hb); have n5_ := Aside0.mk (blk_below (g := gb1048) (o := .cells #[.int .i64 a0_0, .int .i64 a0_1, .slice A0_2 l0_2.length c0_2, .int .i64 a1_0, .int .i64 a1_1, .slice Ao35 t1042.length co35, .slice Ao36 t1045.length co36] 82 (0, 0)) zak12 hb); have n6_ := Aside0.mk (below_step zak2 hb); clear HO1044; clear HO1047; clear BK1040; clear BK1041; clear BK1048; clear HB; have HO1044 := n0_; have HO1047 := n1_; have HO1053 := n2_; have BK1040 := n3_; have BK1041 := n4_; have BK1048 := n5_; have HB := n6_; clear n0_ n1_ n2_ n3_ n4_ n5_ n6_; (try clear hb); (try clear hb2); (try clear hk); (try clear hi); (try clear ho0); (try clear hna_); (try clear hnb_); obtain ⟨Ao38, co38, eo38⟩ := Kd.S_slice HO1053.out; subst eo38))
  go_ret3
  exact ⟨_, _, _, _, zak18, ⟨(fun h_ => by cases h_), fun _ => rfl⟩, zak16, zak26, zak16, zak2⟩
 rw [if_pos c6] at H
 have c6b0 : ((t1051.length : Int) == 1) = true := beq_iff_eq.mpr c6
 have c6b1 : ((t1051.length : Int) != 1) = false := bne_eq_false_iff_eq.mpr c6
 clear c6
 have H' := Aside0.mk H
 clear H
 go_enter Try.func77, Try.ntmps77
 go_wp2_with (first | ((with_reducible refine gate_dst (N := 2) rfl ?_); (try (refine gate_guard (by rfl) ?_; dsimp only)); refine box_event ?hg (N := 2) ?hd (cs := #[.int .i64 a0_0, .int .i64 a0_1, .slice A0_2 l0_2.length c0_2]) (t := 30) ?hr ?_; (case hd => rfl); (case hg => rfl); (case hr => first | (go_simp; done) | (go_simp; rfl)); intro gb1040 hg w7 hbox hb; have n0_ := Aside0.mk (below_step zak6 hb); have n1_ := Aside0.mk (hbox); have n2_ := Aside0.mk ((zak36 : w.heap.size ≤ gb1040)); have n3_ := Aside0.mk ((zak36 : w.heap.size ≤ gb1040)); clear HB; have HB := n0_; have BK1040 := n1_; have GW1040 := n2_; have GE1040 := n3_; clear n0_ n1_ n2_ n3_; clear hb hbox hg) | ((with_reducible refine gate_dst (N := 3) rfl ?_); (try (refine gate_guard (by rfl) ?_; dsimp only)); refine box_event ?hg (N := 3) ?hd (cs := #[.int .i64 a1_0, .int .i64 a1_1]) (t := 32) ?hr ?_; (case hd => rfl); (case hg => rfl); (case hr => first | (go_simp; done) | (go_simp; rfl)); intro gb1041 hg w8 hbox hb; have n0_ := Aside0.mk (blk_below (g := gb1040) (o := .cells #[.int .i64 a0_0, .int .i64 a0_1, .slice A0_2 l0_2.length c0_2] 30 (0, 0)) zak3 hb); have n1_ := Aside0.mk (below_step zak9 hb); have n2_ := Aside0.mk (hbox); have n3_ := Aside0.mk ((zak37 : w.heap.size ≤ gb1041)); have n4_ := Aside0.mk ((zak37 : w.heap.size ≤ gb1041)); have n5_ := Aside0.mk ((zak34 : gb1040 ≠ gb1041)); have n6_ := Aside0.mk ((zak35 : gb1041 ≠ gb1040)); clear BK1040; clear HB; have BK1040 := n0_; have HB := n1_; have BK1041 := n2_; have GW1041 := n3_; have GE1041 := n4_; have NB1040_1041 := n5_; have NB1041_1040 := n6_; clear n0_ n1_ n2_ n3_ n4_ n5_ n6_; clear hb hbox hg; have hnb9 := NB1040_1041.out; have hnc9 := NB1041_1040.out; have hcz10_0 : w8.cell? ⟨gb1040, 0, none⟩ = some (.int .i64 a0_0) := (blk_cell BK1040.out 0).trans rfl; have hcz10_1 : w8.cell? ⟨gb1040, 1, none⟩ = some (.int .i64 a0_1) := (blk_cell BK1040.out 1).trans rfl; have hcz10_2 : w8.cell? ⟨gb1040, 2, none⟩ = some (.slice A0_2 l0_2.length c0_2) := (blk_cell BK1040.out 2).trans rfl; have hfz10_0 := blk_frozen BK1040.out 0; have hfz10_1 := blk_frozen BK1040.out 1; have hfz10_2 := blk_frozen BK1040.out 2; have hcz11_0 : w8.cell? ⟨gb1041, 0, none⟩ = some (.int .i64 a1_0) := (blk_cell BK1041.out 0).trans rfl; have hcz11_1 : w8.cell? ⟨gb1041, 1, none⟩ = some (.int .i64 a1_1) := (blk_cell BK1041.out 1).trans rfl; have hfz11_0 := blk_frozen BK1041.out 0; have hfz11_1 := blk_frozen BK1041.out 1) | ((with_reducible refine gate_callee (f := 50) rfl ?_); refine goesL_ (some 15) rfl rfl Try.func50 (by kernel_rfl) rfl #[.agg #[.int .i64 a0_0, .int .i64 a0_1, .slice A0_2 l0_2.length c0_2], .agg #[.int .i64 a1_0, .int .i64 a1_1]] rfl zak10 ?_; (with_reducible refine (impl_graphOf.calls k a0_0 a0_1 _ _ l0_2 a1_0 a1_1 t1042 t1045 true _ ?side1 ?side2 A3.out).mono ?_); (case side1 => exact zak8); (case side2 => exact HC0_2.out); rintro e w12 ⟨v1043, v1046, pv1049, rfl, hgp, ho0, ho1, hb⟩; refine ⟨_, rfl, ?_⟩; obtain ⟨gb1048, rfl, hbox, hge⟩ := hgp.1 rfl; have n0_ := Aside0.mk (Kd.R_lower ho0 (below_size zak1)); have n1_ := Aside0.mk (Kd.S_lower ho1 (below_size zak1)); have n2_ := Aside0.mk (blk_below (g := gb1040) (o := .cells #[.int .i64 a0_0, .int .i64 a0_1, .slice A0_2 l0_2.length c0_2] 30 (0, 0)) zak3 hb); have n3_ := Aside0.mk (blk_below (g := gb1041) (o := .cells #[.int .i64 a1_0, .int .i64 a1_1] 32 (0, 0)) zak7 hb); have n4_ := Aside0.mk (hbox); have n5_ := Aside0.mk ((Nat.le_trans (by exact (below_size zak1)) hge : w.heap.size ≤ gb1048)); have n6_ := Aside0.mk ((Nat.le_trans (by exact (below_size zak1)) hge : w.heap.size ≤ gb1048)); have n7_ := Aside0.mk ((Nat.ne_of_lt (Nat.lt_of_lt_of_le (blk_lt (g := gb1040) (o := .cells #[.int .i64 a0_0, .int .i64 a0_1, .slice A0_2 l0_2.length c0_2] 30 (0, 0)) zak3) hge) : gb1040 ≠ gb1048)); have n8_ := Aside0.mk ((Nat.ne_of_gt (Nat.lt_of_lt_of_le (blk_lt (g := gb1040) (o := .cells #[.int .i64 a0_0, .int .i64 a0_1, .slice A0_2 l0_2.length c0_2] 30 (0, 0)) zak3) hge) : gb1048 ≠ gb1040)); have n9_ := Aside0.mk ((Nat.ne_of_lt (Nat.lt_of_lt_of_le (blk_lt (g := gb1041) (o := .cells #[.int .i64 a1_0, .int .i64 a1_1] 32 (0, 0)) zak7) hge) : gb1041 ≠ gb1048)); have n10_ := Aside0.mk ((Nat.ne_of_gt (Nat.lt_of_lt_of_le (blk_lt (g := gb1041) (o := .cells #[.int .i64 a1_0, .int .i64 a1_1] 32 (0, 0)) zak7) hge) : gb1048 ≠ gb1041)); have n11_ := Aside0.mk (below_step zak1 hb); clear BK1040; clear BK1041; clear HB; have HO1044 := n0_; have HO1047 := n1_; have BK1040 := n2_; have BK1041 := n3_; have BK1048 := n4_; have GW1048 := n5_; have GE1048 := n6_; have NB1040_1048 := n7_; have NB1048_1040 := n8_; have NB1041_1048 := n9_; have NB1048_1041 := n10_; have HB := n11_; clear n0_ n1_ n2_ n3_ n4_ n5_ n6_ n7_ n8_ n9_ n10_ n11_; (try clear hb); (try clear hb2); (try clear hk); (try clear hi); (try clear ho0); (try clear ho1); (try clear hgp); (try clear hbox); (try clear hge); (try clear hna_); (try clear hnb_); obtain ⟨Ao13, co13, eo13⟩ := Kd.R_slice HO1044.out; subst eo13; obtain ⟨Ao14, co14, eo14⟩ := Kd.S_slice HO1047.out; subst eo14) | (go_at_call 103; (with_reducible refine (impl_graph_parts.calls k gb1048 a0_0 a0_1 A0_2 c0_2 l0_2 a1_0 a1_1 Ao13 co13 t1042 Ao14 co14 t1045 t1051 _ ?side1 ?side2 ?side3 ?side4 ?side5 ?side6 ?side7 A5.out).mono ?_); (case side1 => exact zak12); (case side2 => exact zak8); (case side3 => exact HC0_2.out); (case side4 => exact zak32); (case side5 => exact (Kd.R_reads' HO1044.out).2.1); (case side6 => exact zak31); (case side7 => exact (Kd.S_reads' HO1047.out).2.1); rintro e w15 ⟨v1052, rfl, ho0, hb⟩; have n0_ := Aside0.mk (Kd.R_below zak23 hb); have n1_ := Aside0.mk (Kd.S_elder' zak22 (Kd.S_base ho0) hb); have n2_ := Aside0.mk (Kd.S_lower (Kd.S_new' (Kd.S_new' ho0 (Kd.R_lt zak23)) (Kd.S_lt zak22)) (below_size zak2)); have n3_ := Aside0.mk (blk_below (g := gb1040) (o := .cells #[.int .i64 a0_0, .int .i64 a0_1, .slice A0_2 l0_2.length c0_2] 30 (0, 0)) zak3 hb); have n4_ := Aside0.mk (blk_below (g := gb1041) (o := .cells #[.int .i64 a1_0, .int .i64 a1_1] 32 (0, 0)) zak7 hb); have n5_ := Aside0.mk (blk_below (g := gb1048) (o := .cells #[.int .i64 a0_0, .int .i64 a0_1, .slice A0_2 l0_2.length c0_2, .int .i64 a1_0, .int .i64 a1_1, .slice Ao13 t1042.length co13, .slice Ao14 t1045.length co14] 82 (0, 0)) zak12 hb); have n6_ := Aside0.mk (below_step zak2 hb); clear HO1044; clear HO1047; clear BK1040; clear BK1041; clear BK1048; clear HB; have HO1044 := n0_; have HO1047 := n1_; have HO1053 := n2_; have BK1040 := n3_; have BK1041 := n4_; have BK1048 := n5_; have HB := n6_; clear n0_ n1_ n2_ n3_ n4_ n5_ n6_; (try clear hb); (try clear hb2); (try clear hk); (try clear hi); (try clear ho0); (try clear hna_); (try clear hnb_); obtain ⟨Ao16, co16, eo16⟩ := Kd.S_slice HO1053.out; subst eo16; have hnb17 := NB1048_1040.out; have hnc17 := NB1040_1048.out; have hnb18 := NB1048_1041.out; have hnc18 := NB1041_1048.out; have hcz19_0 : w15.cell? ⟨gb1048, 0, none⟩ = some (.int .i64 a0_0) := (blk_cell BK1048.out 0).trans rfl; have hcz19_1 : w15.cell? ⟨gb1048, 1, none⟩ = some (.int .i64 a0_1) := (blk_cell BK1048.out 1).trans rfl; have hcz19_2 : w15.cell? ⟨gb1048, 2, none⟩ = some (.slice A0_2 l0_2.length c0_2) := (blk_cell BK1048.out 2).trans rfl; have hcz19_3 : w15.cell? ⟨gb1048, 3, none⟩ = some (.int .i64 a1_0) := (blk_cell BK1048.out 3).trans rfl; have hcz19_4 : w15.cell? ⟨gb1048, 4, none⟩ = some (.int .i64 a1_1) := (blk_cell BK1048.out 4).trans rfl; have hcz19_5 : w15.cell? ⟨gb1048, 5, none⟩ = some (.slice Ao13 t1042.length co13) := (blk_cell BK1048.out 5).trans rfl; have hcz19_6 : w15.cell? ⟨gb1048, 6, none⟩ = some (.slice Ao14 t1045.length co14) := (blk_cell BK1048.out 6).trans rfl; have hfz19_0 := blk_frozen BK1048.out 0; have hfz19_1 := blk_frozen BK1048.out 1; have hfz19_2 := blk_frozen BK1048.out 2; have hfz19_3 := blk_frozen BK1048.out 3; have hfz19_4 := blk_frozen BK1048.out 4; have hfz19_5 := blk_frozen BK1048.out 5; have hfz19_6 := blk_frozen BK1048.out 6))
 go_loopg [9, 31] k (fun kq v9 v31 w' => ∃ (x9_1 : List Int) (x31_1 : Int), v31 = .int .i64 x31_1 ∧ Aside0 (impl_greatest.l0 kq x9_1 t1042 (t1042.length : Int) x31_1 a0_0 a0_1 l0_2 a1_0 a1_1 t1042 t1045 = some (r1, r2, r3, r4)) ∧ Aside0 (kq ≤ k) ∧ Aside0 (Kd.R (Kd.int .i64) 3 w' w.heap.size (fun k_ => some k_ ≠ ((.slice Ao13 t1042.length co13) : Value).ownBlock ∧ some k_ ≠ ((.slice Ao13 t1042.length co13) : Value).ownBlock) v9 x9_1) ∧ Aside0 (Kd.R (Kd.int .i64) 3 w' w.heap.size (fun k_ => some k_ ≠ (v9 : Value).ownBlock) (.slice Ao13 t1042.length co13) t1042) ∧ Aside0 (Kd.R (Kd.int .i64) 3 w' w.heap.size (fun k_ => some k_ ≠ (v9 : Value).ownBlock) (.slice Ao13 t1042.length co13) t1042) ∧ Aside0 (Kd.S (Kd.slice 3 (Kd.int .i64)) 22 w' w.heap.size (fun k_ => some k_ ≠ (v9 : Value).ownBlock ∧ some k_ ≠ ((.slice Ao13 t1042.length co13) : Value).ownBlock ∧ some k_ ≠ ((.slice Ao13 t1042.length co13) : Value).ownBlock) (.slice Ao14 t1045.length co14) t1045) ∧ Aside0 (w'.heap[gb1040]? = some (.cells #[.int .i64 a0_0, .int .i64 a0_1, (.slice A0_2 l0_2.length c0_2)] 30 (0, 0))) ∧ Aside0 (w'.heap[gb1041]? = some (.cells #[.int .i64 a1_0, .int .i64 a1_1] 32 (0, 0))) ∧ Aside0 (w'.heap[gb1048]? = some (.cells #[.int .i64 a0_0, .int .i64 a0_1, (.slice A0_2 l0_2.length c0_2), .int .i64 a1_0, .int .i64 a1_1, (.slice Ao13 t1042.length co13), (.slice Ao14 t1045.length co14)] 82 (0, 0))) ∧ Aside0 (Below w.heap.size w w'))
 case atStart => exact ⟨(([] : List Int)), (0), zak25, H', ⟨Nat.le_refl _⟩, ⟨zak16⟩, ⟨zak33⟩, ⟨zak33⟩, ⟨by (with_reducible repeat (first | apply Kd.S_alloc | apply Kd.S_drewN | apply Kd.S_drew)); exact Kd.S_mono HO1047.out (fun _ hk => ⟨(by simp [Value.ownBlock]), ⟨hk.1, hk.1⟩⟩)⟩, ⟨zak3⟩, ⟨zak7⟩, ⟨zak12⟩, ⟨zak2⟩⟩
 case round =>
  clear H'
  try clear c1; try clear p2; try clear c4; try clear c5; try clear c6; try clear c6b0; try clear c6b1; try clear c7; try clear c9; try clear c17; try clear c18; try clear hcz10_0; try clear hcz10_1; try clear hcz10_2; try clear hcz11_0; try clear hcz11_1; try clear hcz19_0; try clear hcz19_1; try clear hcz19_2; try clear hcz19_3; try clear hcz19_4; try clear hcz19_5; try clear hcz19_6; try clear hfz10_0; try clear hfz10_1; try clear hfz10_2; try clear hfz11_0; try clear hfz11_1; try clear hfz19_0; try clear hfz19_1; try clear hfz19_2; try clear hfz19_3; try clear hfz19_4; try clear hfz19_5; try clear hfz19_6
  obtain ⟨x9_1, x31_1, rfl, HA, HK1, HO_9, HO_29, HO_1049005, HO_1049006, BK1040, BK1041, BK1048, HB⟩ := hrel
  cases gk with
  | zero => exact absurd HA.out (by simp [impl_greatest.l0])
  | succ k1 =>
   have H := HA.out
   clear HA
   simp only [impl_greatest.l0] at H
   by_cases c20 : x31_1 < (t1042.length : Int)
   rotate_left
   ·rw [if_neg c20] at H
    have c20b0 : decide (x31_1 < (t1042.length : Int)) = false := decide_eq_false c20
    clear c20
    simp only [Option.some.injEq, Prod.mk.injEq] at H
    obtain ⟨rfl, rfl, rfl, rfl⟩ := H
    go_wp2
    go_ret3
    exact ⟨_, _, _, _, zak18, ⟨fun _ => ⟨_, rfl, zak12, GW1048.out⟩, (fun h_ => by cases h_)⟩, zak21, by (with_reducible repeat (first | apply Kd.S_alloc | apply Kd.S_drewN | apply Kd.S_drew)); exact Kd.S_mono HO_1049006.out (fun _ hk => ⟨hk.2.2, hk.1⟩), by (with_reducible repeat (first | apply Kd.R_alloc | apply Kd.R_drewN | apply Kd.R_drew)); exact Kd.R_mono HO_9.out (fun _ hk => hk.2), zak2⟩
   rw [if_pos c20] at H
   have c20b0 : decide (x31_1 < (t1042.length : Int)) = true := decide_eq_true c20
   clear c20
   by_cases c21 : 0 ≤ x31_1
   rotate_left
   ·rw [if_neg c21] at H
    exact absurd H (by simp)
   rw [if_pos c21] at H
   have c21b0 : decide (0 ≤ x31_1) = true := decide_eq_true c21
   clear c21
   by_cases c22 : x31_1 < (t1042.length : Int)
   rotate_left
   ·rw [if_neg c22] at H
    exact absurd H (by simp)
   rw [if_pos c22] at H
   have c22b0 : decide (x31_1 < (t1042.length : Int)) = true := decide_eq_true c22
   clear c22
   replace H := Option.bind_eq_some_iff.mp H
   obtain ⟨t1055, A230, H⟩ := H
   replace H : ((slices_Max_int_int.f t1055).bind fun t1058 => (if x9_1.length < 17592186044416 then (impl_greatest.l0 k1 (x9_1 ++ [t1058]) t1042 (t1042.length : Int) (wrap64 (x31_1 + 1)) a0_0 a0_1 l0_2 a1_0 a1_1 t1042 t1045) else (none))) = some (r1, r2, r3, r4) := H
   have A23 := Aside0.mk A230
   clear A230
   replace H := Option.bind_eq_some_iff.mp H
   obtain ⟨t1058, A240, H⟩ := H
   replace H : (if x9_1.length < 17592186044416 then (impl_greatest.l0 k1 (x9_1 ++ [t1058]) t1042 (t1042.length : Int) (wrap64 (x31_1 + 1)) a0_0 a0_1 l0_2 a1_0 a1_1 t1042 t1045) else (none)) = some (r1, r2, r3, r4) := H
   have A24 := Aside0.mk A240
   clear A240
   by_cases c25 : x9_1.length < 17592186044416
   rotate_left
   ·rw [if_neg c25] at H
    exact absurd H (by simp)
   rw [if_pos c25] at H
   have LMc25 := Aside0.mk c25
   clear c25
   obtain ⟨y1059, hy1059⟩ : ∃ y_ : List Int, y_ = (x9_1 ++ [t1058]) := ⟨_, rfl⟩
   replace H : (impl_greatest.l0 k1 y1059 t1042 (t1042.length : Int) (wrap64 (x31_1 + 1)) a0_0 a0_1 l0_2 a1_0 a1_1 t1042 t1045) = some (r1, r2, r3, r4) := by first | (rw [hy1059]; with_reducible exact H) | (have H2_ := (Option.bind_some _ _).symm.trans H; rw [hy1059]; with_reducible exact H2_) | (have H2_ := (Option.bind_some _ _).symm.trans H; with_reducible exact H2_) | with_reducible exact H | (rw [hy1059]; exact H) | exact H
   have Ny1059 := Aside0.mk hy1059
   clear hy1059
   have H' := Aside0.mk H
   clear H
   have p1054 : 0 ≤ (x31_1 : Int) := of_decide_eq_true zak15
   have q1054 : x31_1 < (t1042.length : Int) := of_decide_eq_true zak15
   obtain ⟨ad1054, e1054, hx1054_0⟩ := Kd.at_int (Kd.R_reads' HO_29.out).2.2 x31_1 p1054 q1054
   cases e1054
   replace p1054 := eq_true p1054
   replace q1054 := eq_true q1054
   go_wp2_with (first | ((with_reducible refine gate_callee (f := 66) rfl ?_); refine goesL_ (some 38) rfl rfl Try.func66 (by kernel_rfl) rfl #[.pointer (some ⟨gb1048, 0, none⟩), .int .i64 (rd t1042 x31_1)] rfl zak10 ?_; (with_reducible refine (impl_graph_far.calls k1 gb1048 a0_0 a0_1 A0_2 c0_2 l0_2 a1_0 a1_1 (some ad1054) co13 t1042 Ao14 co14 t1045 (rd t1042 x31_1) t1055 _ ?side1 ?side2 ?side3 ?side4 ?side5 ?side6 ?side7 A23.out).mono ?_); (case side1 => exact zak12); (case side2 => exact zak8); (case side3 => exact HC0_2.out); (case side4 => repeat (first | exact (Kd.R_reads' HO_1049005.out).2.2 | (with_reducible refine Kd.C_alloc ?_ _) | (with_reducible refine Kd.C_drewN ?_ _) | (with_reducible refine Kd.C_drew ?_))); (case side5 => exact (Kd.R_reads' HO_1049005.out).2.1); (case side6 => repeat (first | exact (Kd.S_reads' HO_1049006.out).2.2 | (with_reducible refine Kd.C_alloc ?_ _) | (with_reducible refine Kd.C_drewN ?_ _) | (with_reducible refine Kd.C_drew ?_))); (case side7 => exact (Kd.S_reads' HO_1049006.out).2.1); rintro e w26 ⟨v1056, rfl, ho0, hb⟩; refine ⟨_, rfl, ?_⟩; have n0_ := Aside0.mk (Kd.R_elder' (by (with_reducible repeat (first | apply Kd.R_alloc | apply Kd.R_drewN | apply Kd.R_drew)); exact HO_9.out) (Kd.R_base ho0) hb); have n1_ := Aside0.mk (Kd.R_elder' zak29 (Kd.R_base ho0) hb); have n2_ := Aside0.mk (Kd.R_elder' zak21 (Kd.R_base ho0) hb); have n3_ := Aside0.mk (Kd.S_elder' (by (with_reducible repeat (first | apply Kd.S_alloc | apply Kd.S_drewN | apply Kd.S_drew)); exact HO_1049006.out) (Kd.R_base ho0) hb); have n4_ := Aside0.mk (Kd.R_lower (Kd.R_new' (Kd.R_new' (Kd.R_new' ho0 (Kd.R_lt (by (with_reducible repeat (first | apply Kd.R_alloc | apply Kd.R_drewN | apply Kd.R_drew)); exact HO_9.out))) (Kd.R_lt zak29)) (Kd.R_lt zak21)) (below_size zak2)); have n5_ := Aside0.mk (blk_below (g := gb1040) (o := .cells #[.int .i64 a0_0, .int .i64 a0_1, .slice A0_2 l0_2.length c0_2] 30 (0, 0)) zak3 hb); have n6_ := Aside0.mk (blk_below (g := gb1041) (o := .cells #[.int .i64 a1_0, .int .i64 a1_1] 32 (0, 0)) zak7 hb); have n7_ := Aside0.mk (blk_below (g := gb1048) (o := .cells #[.int .i64 a0_0, .int .i64 a0_1, .slice A0_2 l0_2.length c0_2, .int .i64 a1_0, .int .i64 a1_1, .slice (some ad1054) t1042.length co13, .slice Ao14 t1045.length co14] 82 (0, 0)) zak12 hb); have n8_ := Aside0.mk (below_step zak2 hb); clear HO_9; clear HO_29; clear HO_1049005; clear HO_1049006; clear BK1040; clear BK1041; clear BK1048; clear HB; have HO_9 := n0_; have HO_29 := n1_; have HO_1049005 := n2_; have HO_1049006 := n3_; have HO1057 := n4_; have BK1040 := n5_; have BK1041 := n6_; have BK1048 := n7_; have HB := n8_; clear n0_ n1_ n2_ n3_ n4_ n5_ n6_ n7_ n8_; (try clear hb); (try clear hb2); (try clear hk); (try clear hi); (try clear ho0); (try clear hna_); (try clear hnb_); obtain ⟨Ao27, co27, eo27⟩ := Kd.R_slice HO1057.out; subst eo27) | ((with_reducible refine gate_callee (f := 78) rfl ?_); refine goesL_ (some 39) rfl rfl Try.func78 (by kernel_rfl) rfl #[.slice Ao27 t1055.length co27] rfl zak10 ?_; (with_reducible refine (slices_Max_int_int.calls _ _ t1055 t1058 _ ?side1 ?side2 A24.out).mono ?_); (case side1 => repeat (first | exact (Kd.R_reads' HO1057.out).2.2 | (with_reducible refine Kd.C_alloc ?_ _) | (with_reducible refine Kd.C_drewN ?_ _) | (with_reducible refine Kd.C_drew ?_))); (case side2 => exact (Kd.R_reads' HO1057.out).2.1); rintro e w' ⟨rfl, ⟨nd, rfl⟩⟩; refine ⟨_, rfl, ?_⟩) | ((with_reducible refine gate_builtin (b := .append) (xs := #[.tmp 35, .tmp 40]) rfl ?_); (try (refine gate_guard (by rfl) ?_; dsimp only)); at_builtin; refine Kd.R_append (Kd.int .i64) (w0 := w) w.heap.size rfl (.tmp 35) (.tmp 40) 22 3 (.int .i64 0) 8 rfl Try.underlying22 info3 rfl (by decide) (by omega) u9 x9_1 t1058 [.int .i64 t1058] (fun k_ => some k_ ≠ (.slice (some ad1054) t1042.length co13 : Value).ownBlock ∧ some k_ ≠ (.slice (some ad1054) t1042.length co13 : Value).ownBlock ∧ some k_ ≠ (.slice Ao27 t1055.length co27 : Value).ownBlock) (fun _ => False) rfl rfl ?aP (fun _ hk => hk.elim) ?aF ?aO ?aB ?aS ?aL ?_; (case aP => exact rfl); (case aB => exact zak2); (case aF => exact (fun k_ hk => ⟨Kd.fresh' (Kd.R_lt zak29) k_ hk, Kd.fresh' (Kd.R_lt zak21) k_ hk, Kd.fresh' (Kd.R_lt (by (with_reducible repeat (first | apply Kd.R_alloc | apply Kd.R_drewN | apply Kd.R_drew)); exact HO1057.out)) k_ hk⟩)); (case aO => exact (by (with_reducible repeat (first | apply Kd.R_alloc | apply Kd.R_drewN | apply Kd.R_drew)); exact Kd.R_mono HO_9.out (fun _ hk => ⟨hk.1.1, ⟨hk.1.2, hk.2⟩⟩))); (case aS => exact (below_size zak2)); (case aL => have := LMc25.out; omega); intro v1060 w28 ho hb hg hat; rw [← Ny1059.out] at ho; have n0_ := Aside0.mk (Kd.R_after (ok := (fun k_ => some k_ ≠ (.slice Ao27 t1055.length co27 : Value).ownBlock)) (by (with_reducible repeat (first | apply Kd.R_alloc | apply Kd.R_drewN | apply Kd.R_drew)); exact Kd.R_mono HO_29.out (fun _ hk => ⟨hk.2, hk.1⟩)) hg hat); have n1_ := Aside0.mk (Kd.R_after (ok := (fun k_ => some k_ ≠ (.slice Ao27 t1055.length co27 : Value).ownBlock)) (by (with_reducible repeat (first | apply Kd.R_alloc | apply Kd.R_drewN | apply Kd.R_drew)); exact Kd.R_mono HO_1049005.out (fun _ hk => ⟨hk.2, hk.1⟩)) hg hat); have n2_ := Aside0.mk (Kd.S_after (ok := (fun k_ => some k_ ≠ (.slice (some ad1054) t1042.length co13 : Value).ownBlock ∧ some k_ ≠ (.slice (some ad1054) t1042.length co13 : Value).ownBlock ∧ some k_ ≠ (.slice Ao27 t1055.length co27 : Value).ownBlock)) (by (with_reducible repeat (first | apply Kd.S_alloc | apply Kd.S_drewN | apply Kd.S_drew)); exact Kd.S_mono HO_1049006.out (fun _ hk => ⟨⟨hk.1.2.1, ⟨hk.1.2.2, hk.2⟩⟩, hk.1.1⟩)) hg hat); have n3_ := Aside0.mk (blk_grown (g := gb1040) (o := .cells #[.int .i64 a0_0, .int .i64 a0_1, .slice A0_2 l0_2.length c0_2] 30 (0, 0)) zak3 hg (Kd.R_ne HO_9.out BK1040.out (by decide))); have n4_ := Aside0.mk (blk_grown (g := gb1041) (o := .cells #[.int .i64 a1_0, .int .i64 a1_1] 32 (0, 0)) zak7 hg (Kd.R_ne HO_9.out BK1041.out (by decide))); have n5_ := Aside0.mk (blk_grown (g := gb1048) (o := .cells #[.int .i64 a0_0, .int .i64 a0_1, .slice A0_2 l0_2.length c0_2, .int .i64 a1_0, .int .i64 a1_1, .slice (some ad1054) t1042.length co13, .slice Ao14 t1045.length co14] 82 (0, 0)) zak12 hg (Kd.R_ne HO_9.out BK1048.out (by decide))); have n6_ := Aside0.mk (Kd.R_after (ok := (fun k_ => some k_ ≠ (.slice (some ad1054) t1042.length co13 : Value).ownBlock ∧ some k_ ≠ (.slice (some ad1054) t1042.length co13 : Value).ownBlock)) (by (with_reducible repeat (first | apply Kd.R_alloc | apply Kd.R_drewN | apply Kd.R_drew)); exact Kd.R_mono HO1057.out (fun _ hk => ⟨⟨hk.1.2, hk.2⟩, hk.1.1.2⟩)) hg hat); have n7_ := Aside0.mk (hb); have n8_ := Aside0.mk (ho); clear HO_29; clear HO_1049005; clear HO_1049006; clear BK1040; clear BK1041; clear BK1048; clear HO1057; clear HB; clear HO_9; have HO_29 := n0_; have HO_1049005 := n1_; have HO_1049006 := n2_; have BK1040 := n3_; have BK1041 := n4_; have BK1048 := n5_; have HO1057 := n6_; have HB := n7_; have HO1061 := n8_; clear n0_ n1_ n2_ n3_ n4_ n5_ n6_ n7_ n8_; clear ho hb hg hat))
   go_roundg k1
   case measure => have := HK1.out; omega
   case rel => exact ⟨(y1059), (wrap64 (x31_1 + 1)), zak25, H', ⟨by have := HK1.out; omega⟩, ⟨by (with_reducible repeat (first | apply Kd.R_alloc | apply Kd.R_drewN | apply Kd.R_drew)); exact Kd.R_mono HO1061.out (fun _ hk => ⟨hk.1, hk.2.1⟩)⟩, ⟨by (with_reducible repeat (first | apply Kd.R_alloc | apply Kd.R_drewN | apply Kd.R_drew)); exact Kd.R_mono HO_29.out (fun _ hk => hk.2)⟩, ⟨by (with_reducible repeat (first | apply Kd.R_alloc | apply Kd.R_drewN | apply Kd.R_drew)); exact Kd.R_mono HO_1049005.out (fun _ hk => hk.2)⟩, ⟨by (with_reducible repeat (first | apply Kd.S_alloc | apply Kd.S_drewN | apply Kd.S_drew)); exact Kd.S_mono HO_1049006.out (fun _ hk => ⟨hk.2, ⟨hk.1.1, hk.1.2.1⟩⟩)⟩, ⟨zak3⟩, ⟨zak7⟩, ⟨zak12⟩, ⟨zak2⟩⟩

/-! ### impl_WidthOf: function 39 -/
def impl_WidthOf.f (k : Nat) (a0_0 : Int) (a0_1 : Int) (l0_2 : List Int) (a1_0 : Int) (a1_1 : Int) : Option (Int × Bool) := (impl_greatest.f k a0_0 a0_1 l0_2 a1_0 a1_1).bind fun bt1064 => (if bt1064.2.2.2 = true then ((slices_Max_int_int.f bt1064.2.2.1).bind fun t1076 => (some (t1076, true))) else (some (0, false)))
set_option maxHeartbeats 8000000 in
set_option maxRecDepth 100000 in
theorem impl_WidthOf.calls (k : Nat) (a0_0 : Int) (a0_1 : Int) (A0_2 : Option Addr) (c0_2 : Nat) (l0_2 : List Int) (a1_0 : Int) (a1_1 : Int) (r1 : Int) (r2 : Bool) (w : World) (hr0_2 : Kd.C (Kd.int .i64) w A0_2 l0_2.length l0_2) (hc0_2 : l0_2.length ≤ c0_2) (h : impl_WidthOf.f k a0_0 a0_1 l0_2 a1_0 a1_1 = some (r1, r2)) :
  Calls Try.prog 39 #[.agg #[.int .i64 a0_0, .int .i64 a0_1, .slice A0_2 l0_2.length c0_2], .agg #[.int .i64 a1_0, .int .i64 a1_1]] w fun e w' => e = .returned (.tuple #[.int .i64 r1, .bool r2]) ∧ Below w.heap.size w w' := by
 have hu30 := Try.underlying30
 have hu32 := Try.underlying32
 have HR0_2 := Aside0.mk hr0_2
 have HC0_2 := Aside0.mk hc0_2
 clear hr0_2 hc0_2
 have HB := Aside0.mk (Below.refl w.heap.size w)
 have H : ((impl_greatest.f k a0_0 a0_1 l0_2 a1_0 a1_1).bind fun bt1064 => (if bt1064.2.2.2 = true then ((slices_Max_int_int.f bt1064.2.2.1).bind fun t1076 => (some (t1076, true))) else (some (0, false)))) = some (r1, r2) := h
 clear h
 replace H := Option.bind_eq_some_iff.mp H
 obtain ⟨⟨t1064, t1067, t1072, t1075⟩, A30, H⟩ := H
 replace H : (if t1075 = true then ((slices_Max_int_int.f t1072).bind fun t1076 => (some (t1076, true))) else (some (0, false))) = some (r1, r2) := H
 have A3 := Aside0.mk A30
 clear A30
 by_cases c4 : t1075 = true
 rotate_left
 ·replace c4 := Bool.eq_false_iff.mpr c4
  subst c4
  have H1 : (some (0, false)) = some (r1, r2) := by rw [if_neg (show ¬ (false = true) by decide)] at H; exact H
  clear H
  have H := H1
  clear H1
  simp only [Option.some.injEq, Prod.mk.injEq] at H
  obtain ⟨rfl, rfl⟩ := H
  go_enter Try.func39, Try.ntmps39
  go_wp2_with (first | ((with_reducible refine gate_dst (N := 2) rfl ?_); refine box_event ?hg (N := 2) ?hd (cs := #[.int .i64 a0_0, .int .i64 a0_1, .slice A0_2 l0_2.length c0_2]) (t := 30) ?hr ?_; (case hd => rfl); (case hg => rfl); (case hr => first | (go_simp; done) | (go_simp; rfl)); intro gb1062 hg w13 hbox hb; have n0_ := Aside0.mk (below_step zak6 hb); have n1_ := Aside0.mk (hbox); have n2_ := Aside0.mk ((zak36 : w.heap.size ≤ gb1062)); have n3_ := Aside0.mk ((zak36 : w.heap.size ≤ gb1062)); clear HB; have HB := n0_; have BK1062 := n1_; have GW1062 := n2_; have GE1062 := n3_; clear n0_ n1_ n2_ n3_; clear hb hbox hg) | ((with_reducible refine gate_dst (N := 3) rfl ?_); refine box_event ?hg (N := 3) ?hd (cs := #[.int .i64 a1_0, .int .i64 a1_1]) (t := 32) ?hr ?_; (case hd => rfl); (case hg => rfl); (case hr => first | (go_simp; done) | (go_simp; rfl)); intro gb1063 hg w14 hbox hb; have n0_ := Aside0.mk (blk_below (g := gb1062) (o := .cells #[.int .i64 a0_0, .int .i64 a0_1, .slice A0_2 l0_2.length c0_2] 30 (0, 0)) zak11 hb); have n1_ := Aside0.mk (below_step zak14 hb); have n2_ := Aside0.mk (hbox); have n3_ := Aside0.mk ((by rw [hg]; exact (below_size zak14) : w.heap.size ≤ gb1063)); have n4_ := Aside0.mk ((by rw [hg]; exact (below_size zak14) : w.heap.size ≤ gb1063)); have n5_ := Aside0.mk ((zak38 : gb1062 ≠ gb1063)); have n6_ := Aside0.mk ((zak39 : gb1063 ≠ gb1062)); clear BK1062; clear HB; have BK1062 := n0_; have HB := n1_; have BK1063 := n2_; have GW1063 := n3_; have GE1063 := n4_; have NB1062_1063 := n5_; have NB1063_1062 := n6_; clear n0_ n1_ n2_ n3_ n4_ n5_ n6_; clear hb hbox hg; have hnb15 := NB1062_1063.out; have hnc15 := NB1063_1062.out; have hcz16_0 : w14.cell? ⟨gb1062, 0, none⟩ = some (.int .i64 a0_0) := (blk_cell BK1062.out 0).trans rfl; have hcz16_1 : w14.cell? ⟨gb1062, 1, none⟩ = some (.int .i64 a0_1) := (blk_cell BK1062.out 1).trans rfl; have hcz16_2 : w14.cell? ⟨gb1062, 2, none⟩ = some (.slice A0_2 l0_2.length c0_2) := (blk_cell BK1062.out 2).trans rfl; have hfz16_0 := blk_frozen BK1062.out 0; have hfz16_1 := blk_frozen BK1062.out 1; have hfz16_2 := blk_frozen BK1062.out 2; have hcz17_0 : w14.cell? ⟨gb1063, 0, none⟩ = some (.int .i64 a1_0) := (blk_cell BK1063.out 0).trans rfl; have hcz17_1 : w14.cell? ⟨gb1063, 1, none⟩ = some (.int .i64 a1_1) := (blk_cell BK1063.out 1).trans rfl; have hfz17_0 := blk_frozen BK1063.out 0; have hfz17_1 := blk_frozen BK1063.out 1) | ((with_reducible refine gate_callee (f := 77) rfl ?_); refine goesL_ (some 12) rfl rfl Try.func77 (by kernel_rfl) rfl #[.agg #[.int .i64 a0_0, .int .i64 a0_1, .slice A0_2 l0_2.length c0_2], .agg #[.int .i64 a1_0, .int .i64 a1_1]] rfl zak10 ?_; (with_reducible refine (impl_greatest.calls k a0_0 a0_1 _ _ l0_2 a1_0 a1_1 t1064 t1067 t1072 false _ ?side1 ?side2 A3.out).mono ?_); (case side1 => exact zak8); (case side2 => exact HC0_2.out); rintro e w18 ⟨v1065, v1068, v1073, pv1071, rfl, hgp, ho0, ho1, ho2, hb⟩; refine ⟨_, rfl, ?_⟩; obtain rfl := hgp.2 rfl; have n0_ := Aside0.mk (Kd.R_lower ho0 (below_size zak5)); have n1_ := Aside0.mk (Kd.S_lower ho1 (below_size zak5)); have n2_ := Aside0.mk (Kd.R_lower ho2 (below_size zak5)); have n3_ := Aside0.mk (blk_below (g := gb1062) (o := .cells #[.int .i64 a0_0, .int .i64 a0_1, .slice A0_2 l0_2.length c0_2] 30 (0, 0)) zak11 hb); have n4_ := Aside0.mk (blk_below (g := gb1063) (o := .cells #[.int .i64 a1_0, .int .i64 a1_1] 32 (0, 0)) zak20 hb); have n5_ := Aside0.mk (below_step zak5 hb); clear BK1062; clear BK1063; clear HB; have HO1066 := n0_; have HO1069 := n1_; have HO1074 := n2_; have BK1062 := n3_; have BK1063 := n4_; have HB := n5_; clear n0_ n1_ n2_ n3_ n4_ n5_; (try clear hb); (try clear hb2); (try clear hk); (try clear hi); (try clear ho0); (try clear ho1); (try clear ho2); (try clear hgp); (try clear hbox); (try clear hge); (try clear hna_); (try clear hnb_)))
  go_ret2
  exact ⟨zak18, zak5⟩
 subst c4
 have H1 : ((slices_Max_int_int.f t1072).bind fun t1076 => (some (t1076, true))) = some (r1, r2) := by rw [if_pos rfl] at H; exact H
 clear H
 have H := H1
 clear H1
 replace H := Option.bind_eq_some_iff.mp H
 obtain ⟨t1076, A50, H⟩ := H
 replace H : (some (t1076, true)) = some (r1, r2) := H
 have A5 := Aside0.mk A50
 clear A50
 simp only [Option.some.injEq, Prod.mk.injEq] at H
 obtain ⟨rfl, rfl⟩ := H
 go_enter Try.func39, Try.ntmps39
 go_wp2_with (first | ((with_reducible refine gate_dst (N := 2) rfl ?_); refine box_event ?hg (N := 2) ?hd (cs := #[.int .i64 a0_0, .int .i64 a0_1, .slice A0_2 l0_2.length c0_2]) (t := 30) ?hr ?_; (case hd => rfl); (case hg => rfl); (case hr => first | (go_simp; done) | (go_simp; rfl)); intro gb1062 hg w6 hbox hb; have n0_ := Aside0.mk (below_step zak6 hb); have n1_ := Aside0.mk (hbox); have n2_ := Aside0.mk ((zak36 : w.heap.size ≤ gb1062)); have n3_ := Aside0.mk ((zak36 : w.heap.size ≤ gb1062)); clear HB; have HB := n0_; have BK1062 := n1_; have GW1062 := n2_; have GE1062 := n3_; clear n0_ n1_ n2_ n3_; clear hb hbox hg) | ((with_reducible refine gate_dst (N := 3) rfl ?_); refine box_event ?hg (N := 3) ?hd (cs := #[.int .i64 a1_0, .int .i64 a1_1]) (t := 32) ?hr ?_; (case hd => rfl); (case hg => rfl); (case hr => first | (go_simp; done) | (go_simp; rfl)); intro gb1063 hg w7 hbox hb; have n0_ := Aside0.mk (blk_below (g := gb1062) (o := .cells #[.int .i64 a0_0, .int .i64 a0_1, .slice A0_2 l0_2.length c0_2] 30 (0, 0)) zak11 hb); have n1_ := Aside0.mk (below_step zak14 hb); have n2_ := Aside0.mk (hbox); have n3_ := Aside0.mk ((by rw [hg]; exact (below_size zak14) : w.heap.size ≤ gb1063)); have n4_ := Aside0.mk ((by rw [hg]; exact (below_size zak14) : w.heap.size ≤ gb1063)); have n5_ := Aside0.mk ((zak38 : gb1062 ≠ gb1063)); have n6_ := Aside0.mk ((zak39 : gb1063 ≠ gb1062)); clear BK1062; clear HB; have BK1062 := n0_; have HB := n1_; have BK1063 := n2_; have GW1063 := n3_; have GE1063 := n4_; have NB1062_1063 := n5_; have NB1063_1062 := n6_; clear n0_ n1_ n2_ n3_ n4_ n5_ n6_; clear hb hbox hg; have hnb8 := NB1062_1063.out; have hnc8 := NB1063_1062.out; have hcz9_0 : w7.cell? ⟨gb1062, 0, none⟩ = some (.int .i64 a0_0) := (blk_cell BK1062.out 0).trans rfl; have hcz9_1 : w7.cell? ⟨gb1062, 1, none⟩ = some (.int .i64 a0_1) := (blk_cell BK1062.out 1).trans rfl; have hcz9_2 : w7.cell? ⟨gb1062, 2, none⟩ = some (.slice A0_2 l0_2.length c0_2) := (blk_cell BK1062.out 2).trans rfl; have hfz9_0 := blk_frozen BK1062.out 0; have hfz9_1 := blk_frozen BK1062.out 1; have hfz9_2 := blk_frozen BK1062.out 2; have hcz10_0 : w7.cell? ⟨gb1063, 0, none⟩ = some (.int .i64 a1_0) := (blk_cell BK1063.out 0).trans rfl; have hcz10_1 : w7.cell? ⟨gb1063, 1, none⟩ = some (.int .i64 a1_1) := (blk_cell BK1063.out 1).trans rfl; have hfz10_0 := blk_frozen BK1063.out 0; have hfz10_1 := blk_frozen BK1063.out 1) | ((with_reducible refine gate_callee (f := 77) rfl ?_); refine goesL_ (some 12) rfl rfl Try.func77 (by kernel_rfl) rfl #[.agg #[.int .i64 a0_0, .int .i64 a0_1, .slice A0_2 l0_2.length c0_2], .agg #[.int .i64 a1_0, .int .i64 a1_1]] rfl zak10 ?_; (with_reducible refine (impl_greatest.calls k a0_0 a0_1 _ _ l0_2 a1_0 a1_1 t1064 t1067 t1072 true _ ?side1 ?side2 A3.out).mono ?_); (case side1 => exact zak8); (case side2 => exact HC0_2.out); rintro e w11 ⟨v1065, v1068, v1073, pv1071, rfl, hgp, ho0, ho1, ho2, hb⟩; refine ⟨_, rfl, ?_⟩; obtain ⟨gb1070, rfl, hbox, hge⟩ := hgp.1 rfl; have n0_ := Aside0.mk (Kd.R_lower ho0 (below_size zak5)); have n1_ := Aside0.mk (Kd.S_lower ho1 (below_size zak5)); have n2_ := Aside0.mk (Kd.R_lower ho2 (below_size zak5)); have n3_ := Aside0.mk (blk_below (g := gb1062) (o := .cells #[.int .i64 a0_0, .int .i64 a0_1, .slice A0_2 l0_2.length c0_2] 30 (0, 0)) zak11 hb); have n4_ := Aside0.mk (blk_below (g := gb1063) (o := .cells #[.int .i64 a1_0, .int .i64 a1_1] 32 (0, 0)) zak20 hb); have n5_ := Aside0.mk (hbox); have n6_ := Aside0.mk ((Nat.le_trans (by exact (below_size zak5)) hge : w.heap.size ≤ gb1070)); have n7_ := Aside0.mk ((Nat.le_trans (by exact (below_size zak5)) hge : w.heap.size ≤ gb1070)); have n8_ := Aside0.mk ((Nat.ne_of_lt (Nat.lt_of_lt_of_le (blk_lt (g := gb1062) (o := .cells #[.int .i64 a0_0, .int .i64 a0_1, .slice A0_2 l0_2.length c0_2] 30 (0, 0)) zak11) hge) : gb1062 ≠ gb1070)); have n9_ := Aside0.mk ((Nat.ne_of_gt (Nat.lt_of_lt_of_le (blk_lt (g := gb1062) (o := .cells #[.int .i64 a0_0, .int .i64 a0_1, .slice A0_2 l0_2.length c0_2] 30 (0, 0)) zak11) hge) : gb1070 ≠ gb1062)); have n10_ := Aside0.mk ((Nat.ne_of_lt (Nat.lt_of_lt_of_le (blk_lt (g := gb1063) (o := .cells #[.int .i64 a1_0, .int .i64 a1_1] 32 (0, 0)) zak20) hge) : gb1063 ≠ gb1070)); have n11_ := Aside0.mk ((Nat.ne_of_gt (Nat.lt_of_lt_of_le (blk_lt (g := gb1063) (o := .cells #[.int .i64 a1_0, .int .i64 a1_1] 32 (0, 0)) zak20) hge) : gb1070 ≠ gb1063)); have n12_ := Aside0.mk (below_step zak5 hb); clear BK1062; clear BK1063; clear HB; have HO1066 := n0_; have HO1069 := n1_; have HO1074 := n2_; have BK1062 := n3_; have BK1063 := n4_; have BK1070 := n5_; have GW1070 := n6_; have GE1070 := n7_; have NB1062_1070 := n8_; have NB1070_1062 := n9_; have NB1063_1070 := n10_; have NB1070_1063 := n11_; have HB := n12_; clear n0_ n1_ n2_ n3_ n4_ n5_ n6_ n7_ n8_ n9_ n10_ n11_ n12_; (try clear hb); (try clear hb2); (try clear hk); (try clear hi); (try clear ho0); (try clear ho1); (try clear ho2); (try clear hgp); (try clear hbox); (try clear hge); (try clear hna_); (try clear hnb_); obtain ⟨Ao12, co12, eo12⟩ := Kd.R_slice HO1074.out; subst eo12) | ((with_reducible refine gate_callee (f := 78) rfl ?_); refine goesL_ (some 19) rfl rfl Try.func78 (by kernel_rfl) rfl #[.slice Ao12 t1072.length co12] rfl zak10 ?_; (with_reducible refine (slices_Max_int_int.calls _ _ t1072 t1076 _ ?side1 ?side2 A5.out).mono ?_); (case side1 => repeat (first | exact (Kd.R_reads' HO1074.out).2.2 | (with_reducible refine Kd.C_alloc ?_ _) | (with_reducible refine Kd.C_drewN ?_ _) | (with_reducible refine Kd.C_drew ?_))); (case side2 => exact (Kd.R_reads' HO1074.out).2.1); rintro e w' ⟨rfl, ⟨nd, rfl⟩⟩; refine ⟨_, rfl, ?_⟩))
 go_ret2
 exact ⟨zak18, by repeat (first | (with_reducible first | exact HB.out | apply below_alloc | apply pw_below_drewN | apply below_drew1 | refine below_set ?_ GE1062.out | refine below_set ?_ GE1063.out | refine below_set ?_ GE1070.out) | exact HB.out)⟩

end Go.Proofs.Ytjeongckkfkehaa.Q

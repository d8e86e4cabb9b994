/- Written by a program of this session: functions of the translation as plain Lean functions, each with a proof that the call does what the plain function says; the conditions stand in each theorem. -/
import Derived.Test.YtfjomkjngolboaaQ0
import Derived.Test.YtfjomkjngolboaaQ5
namespace Go.Proofs.Ytfjomkjngolboaa.Q
open Go.RowKit Go.Proofs.YtfjomkjngolboaaW.PrintWords Go.Proofs.YtfjomkjngolboaaW.PrintLast Go.Proofs.YtfjomkjngolboaaW.PrintMore
attribute [local go_sem] max2_int min2_int max_two min_two max_three min_three max_four min_four   -- for this text's walks alone
set_option linter.unusedVariables false
set_option linter.unusedSimpArgs false

theorem zg1 {p : Prop} (h : p := by repeat (first | (with_reducible first | exact HB.out | apply below_alloc | apply pw_below_drewN | apply below_drew1 | refine below_set ?_ GE0.out) | exact HB.out)) : p := h
theorem zg2 {p : Prop} (h : p := by repeat (first | (with_reducible first | exact HB.out | apply below_alloc | apply pw_below_drewN | apply below_drew1 | refine below_set ?_ GE334.out) | exact HB.out)) : p := h
theorem zg3 {p : Prop} (h : p := by repeat (first | (with_reducible first | exact HB.out | apply below_alloc | apply pw_below_drewN | apply below_drew1) | exact HB.out)) : p := h
theorem zg4 {p : Prop} (h : p := by first | exact BK334.out | ((with_reducible repeat (first | refine blk_drewN ?_ _ | refine blk_drew ?_ | refine blk_alloc ?_ _)); exact BK334.out)) : p := h
theorem zg5 {p : Prop} (h : p := by first | (with_reducible assumption) | assumption) : p := h
theorem zg6 {p : Prop} (h : p := by first | exact BK0.out | ((with_reducible repeat (first | refine blk_drewN ?_ _ | refine blk_drew ?_ | refine blk_alloc ?_ _)); exact BK0.out)) : p := h
theorem zg7 {p : Prop} (h : p := by repeat (first | (with_reducible first | exact HB.out | apply below_alloc | apply pw_below_drewN | apply below_drew1 | refine below_set ?_ GE334.out | refine below_set ?_ GE335.out) | exact HB.out)) : p := h
theorem zg8 {p : Prop} (h : p := by first | exact HO_3.out | ((with_reducible repeat (first | apply Kd.S_alloc | apply Kd.S_drewN | apply Kd.S_drew)); exact HO_3.out)) : p := h
theorem zg9 {p : Prop} (h : p := by first | rfl | (simp; done) | (simp [*]; done)) : p := h
theorem zg10 {p : Prop} (h : p := by first | exact HO_4.out | ((with_reducible repeat (first | apply Kd.R_alloc | apply Kd.R_drewN | apply Kd.R_drew)); exact HO_4.out)) : p := h
theorem zg11 {p : Prop} (h : p := by first | rfl | (simp [errW_none, errW_some] <;> rfl) | (simp [*, errW_none, errW_some] <;> rfl)) : p := h
theorem zg12 {p : Prop} (h : p := by repeat (first | exact (Kd.C_below HR0_2.out HB.out) | (with_reducible refine Kd.C_alloc ?_ _) | (with_reducible refine Kd.C_drewN ?_ _) | (with_reducible refine Kd.C_drew ?_))) : p := h
theorem zg13 {p : Prop} (h : p := by first | exact HO_31.out | ((with_reducible repeat (first | apply Kd.R_alloc | apply Kd.R_drewN | apply Kd.R_drew)); exact HO_31.out)) : p := h
theorem zg14 {p : Prop} (h : p := by (try simp only [hl4_2]); first | exact BK0.out | ((with_reducible repeat (first | refine blk_drewN ?_ _ | refine blk_drew ?_ | refine blk_alloc ?_ _)); exact BK0.out)) : p := h
theorem zg15 {p : Prop} (h : p := by (try simp only [List.map_toArray, List.map_cons, List.map_nil]); first | done | rfl | (simp only [List.length_drop, List.length_take]; rfl)) : p := h
theorem zg16 {p : Prop} (h : p := by (try simp only [hl4_2]); first | exact HO_4.out | ((with_reducible repeat (first | apply Kd.R_alloc | apply Kd.R_drewN | apply Kd.R_drew)); exact HO_4.out)) : p := h
theorem zg17 {p : Prop} (h : p := by repeat (first | exact Drawn0.refl _ | apply Drawn0.step)) : p := h
theorem zg18 {p : Prop} (h : p := by first | exact HO_7.out | ((with_reducible repeat (first | apply Kd.R_alloc | apply Kd.R_drewN | apply Kd.R_drew)); exact HO_7.out)) : p := h
theorem zg19 {p : Prop} (h : p := by repeat (first | exact (Kd.C_below HR1_2.out HB.out) | (with_reducible refine Kd.C_alloc ?_ _) | (with_reducible refine Kd.C_drewN ?_ _) | (with_reducible refine Kd.C_drew ?_))) : p := h
theorem zg20 {p : Prop} (h : p := by rw [hg]; exact Nat.ne_of_lt (blk_lt (g := gb334) (o := .cells #[.int .i64 a0_0, .int .i64 a0_1, .slice A0_2 l0_2.length c0_2] 30 (0, 0)) zg4)) : p := h
theorem zg21 {p : Prop} (h : p := by rw [hg]; exact Nat.ne_of_gt (blk_lt (g := gb334) (o := .cells #[.int .i64 a0_0, .int .i64 a0_1, .slice A0_2 l0_2.length c0_2] 30 (0, 0)) zg4)) : p := h
theorem zg22 {p : Prop} (h : p := by rw [hg]; exact (below_size zg3)) : p := h
theorem zg23 {p : Prop} (h : p := by rw [hg]; exact (below_size zg2)) : p := h
/-! ### impl_graph_parts: function 29 -/
mutual
def impl_graph_parts.l0 : Nat → List (List Int) → List Bool → List Int → Int → Int → Int → Int → List Int → Int → Int → List Int → List (List Int) → Option ((List (List Int)))
 | 0, _, _, _, _, _, _, _, _, _, _, _, _ => none
 | k + 1, x3, x4, x19, x20, x21, x1000, x1001, x1002, x1003, x1004, x1005, x1006 => if x21 < x20 then (if 0 ≤ x21 then (if x21 < (x19.length : Int) then (if 0 ≤ (rd x19 x21) then (if (rd x19 x21) < (x4.length : Int) then (if rdOf false x4 (rd x19 x21) = true then (impl_graph_parts.l0 k x3 x4 x19 x20 (wrap64 (x21 + 1)) x1000 x1001 x1002 x1003 x1004 x1005 x1006) else ((impl_graph_far.f k x1000 x1001 x1002 x1003 x1004 x1005 x1006 (rd x19 x21)).bind fun t270 => (impl_graph_parts.l1 k x3 x4 ([] : List Int) x19 x20 x21 t270 (t270.length : Int) 0 x1000 x1001 x1002 x1003 x1004 x1005 x1006))) else (none)) else (none)) else (none)) else (none)) else (some x3)
def impl_graph_parts.l1 : Nat → List (List Int) → List Bool → List Int → List Int → Int → Int → List Int → Int → Int → Int → Int → List Int → Int → Int → List Int → List (List Int) → Option ((List (List Int)))
 | 0, _, _, _, _, _, _, _, _, _, _, _, _, _, _, _, _ => none
 | k + 1, x3, x4, x7, x19, x20, x21, x31, x32, x33, x1000, x1001, x1002, x1003, x1004, x1005, x1006 => if x33 < x32 then (if 0 ≤ x33 then (if x33 < (x31.length : Int) then (if (rd x31 x33) ≥ 0 then (if x33 < (x4.length : Int) then (if x7.length < 17592186044416 then (impl_graph_parts.l1 k x3 (x4.set (x33 : Int).toNat true) (x7 ++ [x33]) x19 x20 x21 x31 x32 (wrap64 (x33 + 1)) x1000 x1001 x1002 x1003 x1004 x1005 x1006) else (none)) else (none)) else (impl_graph_parts.l1 k x3 x4 x7 x19 x20 x21 x31 x32 (wrap64 (x33 + 1)) x1000 x1001 x1002 x1003 x1004 x1005 x1006)) else (none)) else (none)) else (if x3.length < 5864062014805 then (impl_graph_parts.l0 k (x3 ++ [x7]) x4 x19 x20 (wrap64 (x21 + 1)) x1000 x1001 x1002 x1003 x1004 x1005 x1006) else (none))
end
def impl_graph_parts.f (k : Nat) (a0_0 : Int) (a0_1 : Int) (l0_2 : List Int) (a0_3 : Int) (a0_4 : Int) (l0_5 : List Int) (l0_6 : List (List Int)) : Option ((List (List Int))) := if 0 ≤ (l0_6.length : Int) then (if ((l0_6.length : Int) : Int).toNat ≤ 281474976710656 then (impl_graph_parts.l0 k ([] : List (List Int)) (List.replicate ((l0_6.length : Int) : Int).toNat false) l0_5 (l0_5.length : Int) 0 a0_0 a0_1 l0_2 a0_3 a0_4 l0_5 l0_6) else (none)) else (none)
set_option maxHeartbeats 8000000 in
set_option maxRecDepth 100000 in
theorem impl_graph_parts.calls (k : Nat) (gb0 : Nat) (a0_0 : Int) (a0_1 : Int) (A0_2 : Option Addr) (c0_2 : Nat) (l0_2 : List Int) (a0_3 : Int) (a0_4 : Int) (A0_5 : Option Addr) (c0_5 : Nat) (l0_5 : List Int) (A0_6 : Option Addr) (c0_6 : Nat) (l0_6 : List (List Int)) (r : List (List Int)) (w : World) (hg0 : w.heap[gb0]? = some (.cells #[.int .i64 a0_0, .int .i64 a0_1, .slice A0_2 l0_2.length c0_2, .int .i64 a0_3, .int .i64 a0_4, .slice A0_5 l0_5.length c0_5, .slice A0_6 l0_6.length c0_6] 53 (0, 0))) (hr0_2 : Kd.C (Kd.int .i64) w A0_2 l0_2.length l0_2) (hc0_2 : l0_2.length ≤ c0_2) (hr0_5 : Kd.C (Kd.int .i64) w A0_5 l0_5.length l0_5) (hc0_5 : l0_5.length ≤ c0_5) (hr0_6 : Kd.C (Kd.slice 3 (Kd.int .i64)) w A0_6 l0_6.length l0_6) (hc0_6 : l0_6.length ≤ c0_6) (h : impl_graph_parts.f k a0_0 a0_1 l0_2 a0_3 a0_4 l0_5 l0_6 = some r) :
  Calls Try.prog 29 #[.pointer (some ⟨gb0, 0, none⟩)] w fun e w' => ∃ v0_ : Value, e = .returned (v0_) ∧ Kd.S (Kd.slice 3 (Kd.int .i64)) 22 w' w.heap.size (fun _ => True) v0_ r ∧ Below w.heap.size w w' := by
 have HR0_2 := Aside0.mk hr0_2
 have HC0_2 := Aside0.mk hc0_2
 clear hr0_2 hc0_2
 have HR0_5 := Aside0.mk hr0_5
 have HC0_5 := Aside0.mk hc0_5
 clear hr0_5 hc0_5
 have HR0_6 := Aside0.mk hr0_6
 have HC0_6 := Aside0.mk hc0_6
 clear hr0_6 hc0_6
 have BK0 := Aside0.mk hg0
 clear hg0
 have HB := Aside0.mk (Below.refl w.heap.size w)
 have H : (if 0 ≤ (l0_6.length : Int) then (if ((l0_6.length : Int) : Int).toNat ≤ 281474976710656 then (impl_graph_parts.l0 k ([] : List (List Int)) (List.replicate ((l0_6.length : Int) : Int).toNat false) l0_5 (l0_5.length : Int) 0 a0_0 a0_1 l0_2 a0_3 a0_4 l0_5 l0_6) else (none)) else (none)) = some r := h
 clear h
 by_cases c2 : 0 ≤ (l0_6.length : Int)
 rotate_left
 ·rw [if_neg c2] at H
  exact absurd H (by simp)
 rw [if_pos c2] at H
 have c2b0 := eq_true c2
 have c2b1 : decide (0 ≤ (l0_6.length : Int)) = true := decide_eq_true c2
 clear c2
 by_cases c3 : ((l0_6.length : Int) : Int).toNat ≤ 281474976710656
 rotate_left
 ·rw [if_neg c3] at H
  exact absurd H (by simp)
 rw [if_pos c3] at H
 have c3b0 := eq_true c3
 have c3b1 : decide (((l0_6.length : Int) : Int).toNat ≤ 281474976710656) = true := decide_eq_true c3
 clear c3
 obtain ⟨y265, hy265⟩ : ∃ y_ : List Bool, y_ = (List.replicate ((l0_6.length : Int) : Int).toNat false) := ⟨_, rfl⟩
 replace H : (impl_graph_parts.l0 k ([] : List (List Int)) y265 l0_5 (l0_5.length : Int) 0 a0_0 a0_1 l0_2 a0_3 a0_4 l0_5 l0_6) = some r := by first | (rw [hy265]; with_reducible exact H) | (have H2_ := (Option.bind_some _ _).symm.trans H; rw [hy265]; with_reducible exact H2_) | (have H2_ := (Option.bind_some _ _).symm.trans H; with_reducible exact H2_) | with_reducible exact H | (rw [hy265]; exact H) | exact H
 have Ny265 := Aside0.mk hy265
 clear hy265
 have H' := Aside0.mk H
 clear H
 have hcz4_0 : w.cell? ⟨gb0, 0, none⟩ = some (.int .i64 a0_0) := (blk_cell BK0.out 0).trans rfl
 have hcz4_1 : w.cell? ⟨gb0, 1, none⟩ = some (.int .i64 a0_1) := (blk_cell BK0.out 1).trans rfl
 have hcz4_2 : w.cell? ⟨gb0, 2, none⟩ = some (.slice A0_2 l0_2.length c0_2) := (blk_cell BK0.out 2).trans rfl
 have hcz4_3 : w.cell? ⟨gb0, 3, none⟩ = some (.int .i64 a0_3) := (blk_cell BK0.out 3).trans rfl
 have hcz4_4 : w.cell? ⟨gb0, 4, none⟩ = some (.int .i64 a0_4) := (blk_cell BK0.out 4).trans rfl
 have hcz4_5 : w.cell? ⟨gb0, 5, none⟩ = some (.slice A0_5 l0_5.length c0_5) := (blk_cell BK0.out 5).trans rfl
 have hcz4_6 : w.cell? ⟨gb0, 6, none⟩ = some (.slice A0_6 l0_6.length c0_6) := (blk_cell BK0.out 6).trans rfl
 have hfz4_0 := blk_frozen BK0.out 0
 have hfz4_1 := blk_frozen BK0.out 1
 have hfz4_2 := blk_frozen BK0.out 2
 have hfz4_3 := blk_frozen BK0.out 3
 have hfz4_4 := blk_frozen BK0.out 4
 have hfz4_5 := blk_frozen BK0.out 5
 have hfz4_6 := blk_frozen BK0.out 6
 go_enter Try.func29, Try.ntmps29
 go_wp2_with (first | ((with_reducible refine gate_dst (N := 15) rfl ?_); refine Kd.R_make Kd.bool _ 4 rfl (N := 15) rfl 56 _ _ rfl (l0_6.length : Int) rfl rfl Try.underlying56 (.bool false) 1 info4 rfl (by decide) (by omega) false (ok := fun _ => True) (okp := fun _ => True) rfl (fun _ hk => hk) trivial (of_decide_eq_true zg5) (Nat.le_trans (Nat.mul_le_mul_right _ (of_decide_eq_true zg5 : (l0_6.length : Int).toNat ≤ 281474976710656)) (by omega)) (Below.refl _ _) (Nat.le_refl _) ?_; intro v266 w5 ho6 hb hg_ hnew_; clear hg_ hnew_; (first | rw [← Ny265.out] at ho6 | (simp only [Int.reduceToNat] at ho6; rw [← Ny265.out] at ho6)); have n0_ := Aside0.mk (Kd.R_lower ho6 (below_size zg1)); have n1_ := Aside0.mk (blk_below (g := gb0) (o := .cells #[.int .i64 a0_0, .int .i64 a0_1, .slice A0_2 l0_2.length c0_2, .int .i64 a0_3, .int .i64 a0_4, .slice A0_5 l0_5.length c0_5, .slice A0_6 l0_6.length c0_6] 53 (0, 0)) zg6 hb); have n2_ := Aside0.mk (below_step zg1 hb); clear BK0; clear HB; have HO267 := n0_; have BK0 := n1_; have HB := n2_; clear n0_ n1_ n2_; clear hb ho6; have hcz7_0 : w5.cell? ⟨gb0, 0, none⟩ = some (.int .i64 a0_0) := (blk_cell BK0.out 0).trans rfl; have hcz7_1 : w5.cell? ⟨gb0, 1, none⟩ = some (.int .i64 a0_1) := (blk_cell BK0.out 1).trans rfl; have hcz7_2 : w5.cell? ⟨gb0, 2, none⟩ = some (.slice A0_2 l0_2.length c0_2) := (blk_cell BK0.out 2).trans rfl; have hcz7_3 : w5.cell? ⟨gb0, 3, none⟩ = some (.int .i64 a0_3) := (blk_cell BK0.out 3).trans rfl; have hcz7_4 : w5.cell? ⟨gb0, 4, none⟩ = some (.int .i64 a0_4) := (blk_cell BK0.out 4).trans rfl; have hcz7_5 : w5.cell? ⟨gb0, 5, none⟩ = some (.slice A0_5 l0_5.length c0_5) := (blk_cell BK0.out 5).trans rfl; have hcz7_6 : w5.cell? ⟨gb0, 6, none⟩ = some (.slice A0_6 l0_6.length c0_6) := (blk_cell BK0.out 6).trans rfl; have hfz7_0 := blk_frozen BK0.out 0; have hfz7_1 := blk_frozen BK0.out 1; have hfz7_2 := blk_frozen BK0.out 2; have hfz7_3 := blk_frozen BK0.out 3; have hfz7_4 := blk_frozen BK0.out 4; have hfz7_5 := blk_frozen BK0.out 5; have hfz7_6 := blk_frozen BK0.out 6))
 go_loopg [3, 21] k (fun kq v3 v21 w' => ∃ (x3_1 : List (List Int)) (x4_1 : List Bool) (x21_1 : Int), v21 = .int .i64 x21_1 ∧ Aside0 (impl_graph_parts.l0 kq x3_1 x4_1 l0_5 (l0_5.length : Int) x21_1 a0_0 a0_1 l0_2 a0_3 a0_4 l0_5 l0_6 = some r) ∧ Aside0 (kq ≤ k) ∧ Aside0 (Kd.S (Kd.slice 3 (Kd.int .i64)) 22 w' w.heap.size (fun _ => True) v3 x3_1) ∧ Aside0 (Kd.R Kd.bool 4 w' w.heap.size (fun _ => True) v266 x4_1) ∧ Aside0 (w'.heap[gb0]? = some (.cells #[.int .i64 a0_0, .int .i64 a0_1, (.slice A0_2 l0_2.length c0_2), .int .i64 a0_3, .int .i64 a0_4, (.slice A0_5 l0_5.length c0_5), (.slice A0_6 l0_6.length c0_6)] 53 (0, 0))) ∧ Aside0 (Below w.heap.size w w'))
 case atStart => exact ⟨(([] : List (List Int))), (y265), (0), zg9, H', ⟨Nat.le_refl _⟩, ⟨by first | exact Kd.S_nil _ _ _ _ _ | exact Kd.N_nil _ _ _ _ _ | exact Kd.V_nil _ _ _ _ _ | exact Kd.Q_nil _ _ _ _ _ | exact Kd.R_nil _ _ _ _ _⟩, ⟨by first | exact HO267.out | ((with_reducible repeat (first | apply Kd.R_alloc | apply Kd.R_drewN | apply Kd.R_drew)); exact HO267.out)⟩, ⟨zg6⟩, ⟨zg1⟩⟩
 case round =>
  clear H'
  try clear c2; try clear c2b0; try clear c2b1; try clear p2; try clear c3; try clear c3b0; try clear c3b1; try clear hcz4_0; try clear hcz4_1; try clear hcz4_2; try clear hcz4_3; try clear hcz4_4; try clear hcz4_5; try clear hcz4_6; try clear hcz7_0; try clear hcz7_1; try clear hcz7_2; try clear hcz7_3; try clear hcz7_4; try clear hcz7_5; try clear hcz7_6; try clear hfz4_0; try clear hfz4_1; try clear hfz4_2; try clear hfz4_3; try clear hfz4_4; try clear hfz4_5; try clear hfz4_6; try clear hfz7_0; try clear hfz7_1; try clear hfz7_2; try clear hfz7_3; try clear hfz7_4; try clear hfz7_5; try clear hfz7_6
  obtain ⟨x3_1, x4_1, x21_1, rfl, HA, HK1, HO_3, HO_4, BK0, HB⟩ := hrel
  cases gk with
  | zero => exact absurd HA.out (by simp [impl_graph_parts.l0])
  | succ k1 =>
   have H := HA.out
   clear HA
   simp only [impl_graph_parts.l0] at H
   by_cases c8 : x21_1 < (l0_5.length : Int)
   rotate_left
   ·rw [if_neg c8] at H
    have c8b0 : decide (x21_1 < (l0_5.length : Int)) = false := decide_eq_false c8
    clear c8
    obtain rfl := Option.some.inj H
    go_wp2
    go_ret
    exact ⟨_, zg11, zg8, zg1⟩
   rw [if_pos c8] at H
   have c8b0 : decide (x21_1 < (l0_5.length : Int)) = true := decide_eq_true c8
   clear c8
   by_cases c9 : 0 ≤ x21_1
   rotate_left
   ·rw [if_neg c9] at H
    exact absurd H (by simp)
   rw [if_pos c9] at H
   have c9b0 : decide (0 ≤ x21_1) = true := decide_eq_true c9
   clear c9
   by_cases c10 : x21_1 < (l0_5.length : Int)
   rotate_left
   ·rw [if_neg c10] at H
    exact absurd H (by simp)
   rw [if_pos c10] at H
   have c10b0 : decide (x21_1 < (l0_5.length : Int)) = true := decide_eq_true c10
   clear c10
   by_cases c11 : 0 ≤ (rd l0_5 x21_1)
   rotate_left
   ·rw [if_neg c11] at H
    exact absurd H (by simp)
   rw [if_pos c11] at H
   have c11b0 : decide (0 ≤ (rd l0_5 x21_1)) = true := decide_eq_true c11
   clear c11
   by_cases c12 : (rd l0_5 x21_1) < (x4_1.length : Int)
   rotate_left
   ·rw [if_neg c12] at H
    exact absurd H (by simp)
   rw [if_pos c12] at H
   have c12b0 : decide ((rd l0_5 x21_1) < (x4_1.length : Int)) = true := decide_eq_true c12
   clear c12
   obtain ⟨bq13, hbq13⟩ : ∃ b_ : Bool, b_ = (rdOf false x4_1 (rd l0_5 x21_1)) := ⟨_, rfl⟩
   replace H : (if bq13 = true then (impl_graph_parts.l0 k1 x3_1 x4_1 l0_5 (l0_5.length : Int) (wrap64 (x21_1 + 1)) a0_0 a0_1 l0_2 a0_3 a0_4 l0_5 l0_6) else ((impl_graph_far.f k1 a0_0 a0_1 l0_2 a0_3 a0_4 l0_5 l0_6 (rd l0_5 x21_1)).bind fun t270 => (impl_graph_parts.l1 k1 x3_1 x4_1 ([] : List Int) l0_5 (l0_5.length : Int) x21_1 t270 (t270.length : Int) 0 a0_0 a0_1 l0_2 a0_3 a0_4 l0_5 l0_6))) = some r := by rw [← hbq13] at H; exact H
   have Nbq13 := Aside0.mk hbq13
   clear hbq13
   by_cases c14 : bq13 = true
   ·subst c14
    have H1 : (impl_graph_parts.l0 k1 x3_1 x4_1 l0_5 (l0_5.length : Int) (wrap64 (x21_1 + 1)) a0_0 a0_1 l0_2 a0_3 a0_4 l0_5 l0_6) = some r := by rw [if_pos rfl] at H; exact H
    clear H
    have H := H1
    clear H1
    have H' := Aside0.mk H
    clear H
    have p268 : 0 ≤ (x21_1 : Int) := of_decide_eq_true zg5
    have q268 : x21_1 < (l0_5.length : Int) := of_decide_eq_true zg5
    obtain ⟨ad268, e268, hx268_0⟩ := Kd.at_int HR0_5.out x21_1 p268 q268
    cases e268
    (first | replace hx268_0 := (HB.out.cell (World.block_lt_of_cell? w _ hx268_0)).trans hx268_0 | skip)
    replace p268 := eq_true p268
    replace q268 := eq_true q268
    obtain ⟨Ao15, co15, eo15⟩ := Kd.R_slice HO_4.out
    subst eo15
    have p269 : 0 ≤ ((rd l0_5 x21_1) : Int) := of_decide_eq_true zg5
    have q269 : (rd l0_5 x21_1) < (x4_1.length : Int) := of_decide_eq_true zg5
    obtain ⟨ad269, e269, hx269_0⟩ := Kd.at_bool (Kd.R_reads' HO_4.out).2.2 (rd l0_5 x21_1) p269 q269
    (try rw [← Nbq13.out] at hx269_0)
    cases e269
    replace p269 := eq_true p269
    replace q269 := eq_true q269
    go_wp2
    go_roundg k1
    case measure => have := HK1.out; omega
    case rel => exact ⟨(x3_1), (x4_1), (wrap64 (x21_1 + 1)), zg9, H', ⟨by have := HK1.out; omega⟩, ⟨zg8⟩, ⟨zg10⟩, ⟨zg6⟩, ⟨zg1⟩⟩
   replace c14 := Bool.eq_false_iff.mpr c14
   subst c14
   have H1 : ((impl_graph_far.f k1 a0_0 a0_1 l0_2 a0_3 a0_4 l0_5 l0_6 (rd l0_5 x21_1)).bind fun t270 => (impl_graph_parts.l1 k1 x3_1 x4_1 ([] : List Int) l0_5 (l0_5.length : Int) x21_1 t270 (t270.length : Int) 0 a0_0 a0_1 l0_2 a0_3 a0_4 l0_5 l0_6)) = some r := by rw [if_neg (show ¬ (false = true) by decide)] at H; exact H
   clear H
   have H := H1
   clear H1
   replace H := Option.bind_eq_some_iff.mp H
   obtain ⟨t270, A160, H⟩ := H
   replace H : (impl_graph_parts.l1 k1 x3_1 x4_1 ([] : List Int) l0_5 (l0_5.length : Int) x21_1 t270 (t270.length : Int) 0 a0_0 a0_1 l0_2 a0_3 a0_4 l0_5 l0_6) = some r := H
   have A16 := Aside0.mk A160
   clear A160
   have H' := Aside0.mk H
   clear H
   have p268 : 0 ≤ (x21_1 : Int) := of_decide_eq_true zg5
   have q268 : x21_1 < (l0_5.length : Int) := of_decide_eq_true zg5
   obtain ⟨ad268, e268, hx268_0⟩ := Kd.at_int HR0_5.out x21_1 p268 q268
   cases e268
   (first | replace hx268_0 := (HB.out.cell (World.block_lt_of_cell? w _ hx268_0)).trans hx268_0 | skip)
   replace p268 := eq_true p268
   replace q268 := eq_true q268
   obtain ⟨Ao17, co17, eo17⟩ := Kd.R_slice HO_4.out
   subst eo17
   have p269 : 0 ≤ ((rd l0_5 x21_1) : Int) := of_decide_eq_true zg5
   have q269 : (rd l0_5 x21_1) < (x4_1.length : Int) := of_decide_eq_true zg5
   obtain ⟨ad269, e269, hx269_0⟩ := Kd.at_bool (Kd.R_reads' HO_4.out).2.2 (rd l0_5 x21_1) p269 q269
   (try rw [← Nbq13.out] at hx269_0)
   cases e269
   replace p269 := eq_true p269
   replace q269 := eq_true q269
   go_wp2_with (first | ((with_reducible refine gate_callee (f := 35) rfl ?_); refine goesL_ (some 31) rfl rfl Try.func35 (by kernel_rfl) rfl #[.pointer (some ⟨gb0, 0, none⟩), .int .i64 (rd l0_5 x21_1)] rfl zg15 ?_; (with_reducible refine (impl_graph_far.calls k1 gb0 a0_0 a0_1 A0_2 c0_2 l0_2 a0_3 a0_4 (some ad268) c0_5 l0_5 A0_6 c0_6 l0_6 (rd l0_5 x21_1) t270 _ ?side1 ?side2 ?side3 ?side4 ?side5 ?side6 ?side7 A16.out).mono ?_); (case side1 => exact zg6); (case side2 => exact zg12); (case side3 => exact HC0_2.out); (case side4 => repeat (first | exact (Kd.C_below HR0_5.out HB.out) | (with_reducible refine Kd.C_alloc ?_ _) | (with_reducible refine Kd.C_drewN ?_ _) | (with_reducible refine Kd.C_drew ?_))); (case side5 => exact HC0_5.out); (case side6 => repeat (first | exact (Kd.C_below HR0_6.out HB.out) | (with_reducible refine Kd.C_alloc ?_ _) | (with_reducible refine Kd.C_drewN ?_ _) | (with_reducible refine Kd.C_drew ?_))); (case side7 => exact HC0_6.out); rintro e w18 ⟨v271, rfl, ho0, hb⟩; refine ⟨_, rfl, ?_⟩; have n0_ := Aside0.mk (Kd.S_elder' zg8 (Kd.R_base ho0) hb); have n1_ := Aside0.mk (Kd.R_below zg10 hb); have n2_ := Aside0.mk (Kd.R_lower ho0 (below_size zg1)); have n3_ := Aside0.mk (blk_below (g := gb0) (o := .cells #[.int .i64 a0_0, .int .i64 a0_1, .slice A0_2 l0_2.length c0_2, .int .i64 a0_3, .int .i64 a0_4, .slice (some ad268) l0_5.length c0_5, .slice A0_6 l0_6.length c0_6] 53 (0, 0)) zg6 hb); have n4_ := Aside0.mk (below_step zg1 hb); clear HO_3; clear HO_4; clear BK0; clear HB; have HO_3 := n0_; have HO_4 := n1_; have HO272 := n2_; have BK0 := n3_; have HB := n4_; clear n0_ n1_ n2_ n3_ n4_; (try clear hb); (try clear hb2); (try clear hk); (try clear hi); (try clear ho0); (try clear hna_); (try clear hnb_); obtain ⟨Ao19, co19, eo19⟩ := Kd.R_slice HO272.out; subst eo19))
   go_loopg [7, 33] k1 (fun kq v7 v33 w' => ∃ (x4_2 : List Bool) (x7_2 : List Int) (x33_2 : Int), v33 = .int .i64 x33_2 ∧ Aside0 (impl_graph_parts.l1 kq x3_1 x4_2 x7_2 l0_5 (l0_5.length : Int) x21_1 t270 (t270.length : Int) x33_2 a0_0 a0_1 l0_2 a0_3 a0_4 l0_5 l0_6 = some r) ∧ Aside0 (kq ≤ k1) ∧ Aside0 (Kd.S (Kd.slice 3 (Kd.int .i64)) 22 w' w.heap.size (fun k_ => some k_ ≠ (v7 : Value).ownBlock ∧ some k_ ≠ ((.slice Ao19 t270.length co19) : Value).ownBlock) u3 x3_1) ∧ Aside0 (Kd.R Kd.bool 4 w' w.heap.size (fun _ => True) (.slice (some ad269) x4_1.length co17) x4_2) ∧ Aside0 (Kd.R (Kd.int .i64) 3 w' w.heap.size (fun k_ => some k_ ≠ ((.slice Ao19 t270.length co19) : Value).ownBlock) v7 x7_2) ∧ Aside0 (Kd.R (Kd.int .i64) 3 w' w.heap.size (fun k_ => some k_ ≠ (v7 : Value).ownBlock) (.slice Ao19 t270.length co19) t270) ∧ Aside0 (w'.heap[gb0]? = some (.cells #[.int .i64 a0_0, .int .i64 a0_1, (.slice A0_2 l0_2.length c0_2), .int .i64 a0_3, .int .i64 a0_4, (.slice (some ad268) l0_5.length c0_5), (.slice A0_6 l0_6.length c0_6)] 53 (0, 0))) ∧ Aside0 (Below w.heap.size w w'))
   case atStart => exact ⟨(x4_1), (([] : List Int)), (0), zg9, H', ⟨Nat.le_refl _⟩, ⟨by (with_reducible repeat (first | apply Kd.S_alloc | apply Kd.S_drewN | apply Kd.S_drew)); exact Kd.S_mono HO_3.out (fun _ hk => ⟨(by simp [Value.ownBlock]), hk.2⟩)⟩, ⟨zg10⟩, ⟨by first | exact Kd.R_nil _ _ _ _ _ | exact Kd.N_nil _ _ _ _ _ | exact Kd.V_nil _ _ _ _ _ | exact Kd.Q_nil _ _ _ _ _ | exact Kd.S_nil _ _ _ _ _⟩, ⟨by (with_reducible repeat (first | apply Kd.R_alloc | apply Kd.R_drewN | apply Kd.R_drew)); exact Kd.R_mono HO272.out (fun _ hk => (by simp [Value.ownBlock]))⟩, ⟨zg6⟩, ⟨zg1⟩⟩
   case round =>
    clear H'
    try clear c1; try clear q1; try clear c2; try clear c2b0; try clear c2b1; try clear p2; try clear q2; try clear hx2; try clear c3; try clear c3b0; try clear c3b1; try clear p6; try clear c8; try clear c8b0; try clear c9; try clear c9b0; try clear c10; try clear c10b0; try clear c11; try clear c11b0; try clear c12; try clear c12b0; try clear q13; try clear c14; try clear hcz4_0; try clear hcz4_1; try clear hcz4_2; try clear hcz4_3; try clear hcz4_4; try clear hcz4_5; try clear hcz4_6; try clear hcz7_0; try clear hcz7_1; try clear hcz7_2; try clear hcz7_3; try clear hcz7_4; try clear hcz7_5; try clear hcz7_6
    try clear hfz4_0; try clear hfz4_1; try clear hfz4_2; try clear hfz4_3; try clear hfz4_4; try clear hfz4_5; try clear hfz4_6; try clear hfz7_0; try clear hfz7_1; try clear hfz7_2; try clear hfz7_3; try clear hfz7_4; try clear hfz7_5; try clear hfz7_6; try clear hx268_0; try clear hx269_0; try clear p2; try clear p268; try clear p269; try clear q268; try clear q269
    obtain ⟨x4_2, x7_2, x33_2, rfl, HA, HK2, HO_3, HO_4, HO_7, HO_31, BK0, HB⟩ := hrel
    have hl4_2 := (Kd.R_reads' HO_4.out).1
    rw [hl4_2] at HO_4
    (try simp only [hl4_2])
    (try simp only [hl4_2] at BK0)
    (try simp only [hl4_2] at HO_3)
    (try simp only [hl4_2] at HO_7)
    (try simp only [hl4_2] at HO_31)
    cases gk with
    | zero => exact absurd HA.out (by simp [impl_graph_parts.l1])
    | succ k2 =>
     have H := HA.out
     clear HA
     simp only [impl_graph_parts.l1] at H
     by_cases c20 : x33_2 < (t270.length : Int)
     rotate_left
     ·rw [if_neg c20] at H
      have c20b0 : decide (x33_2 < (t270.length : Int)) = false := decide_eq_false c20
      have c20b8 := c20b0
      (try simp only [hl4_2] at c20b8)
      clear c20
      by_cases c30 : x3_1.length < 5864062014805
      rotate_left
      ·rw [if_neg c30] at H
       exact absurd H (by simp)
      rw [if_pos c30] at H
      have LMc30 := Aside0.mk c30
      clear c30
      obtain ⟨y278, hy278⟩ : ∃ y_ : List (List Int), y_ = (x3_1 ++ [x7_2]) := ⟨_, rfl⟩
      replace H : (impl_graph_parts.l0 k2 y278 x4_2 l0_5 (l0_5.length : Int) (wrap64 (x21_1 + 1)) a0_0 a0_1 l0_2 a0_3 a0_4 l0_5 l0_6) = some r := by first | (rw [hy278]; with_reducible exact H) | (have H2_ := (Option.bind_some _ _).symm.trans H; rw [hy278]; with_reducible exact H2_) | (have H2_ := (Option.bind_some _ _).symm.trans H; with_reducible exact H2_) | with_reducible exact H | (rw [hy278]; exact H) | exact H
      have Ny278 := Aside0.mk hy278
      clear hy278
      have H' := Aside0.mk H
      clear H
      obtain ⟨Ao32, co32, eo32⟩ := Kd.R_slice HO_7.out
      subst eo32
      go_wp2_with (first | ((with_reducible refine gate_builtin (b := .append) (xs := #[.tmp 48, .tmp 50]) rfl ?_); at_builtin; refine Kd.S_append (Kd.slice 3 (Kd.int .i64)) (w0 := w) w.heap.size rfl (.tmp 48) (.tmp 50) 36 22 (.slice none 0 0) 24 rfl Try.underlying36 info22 rfl (by decide) (by omega) u3 x3_1 x7_2 [.slice Ao32 x7_2.length co32] (fun k_ => some k_ ≠ (.slice Ao19 t270.length co19 : Value).ownBlock) (fun k_ => some k_ = (.slice Ao32 x7_2.length co32 : Value).ownBlock) rfl rfl ?aP (fun k_ hk_ => ((Kd.R_mono (ok' := fun k_ => ((fun k_ => some k_ ≠ (.slice Ao19 t270.length co19 : Value).ownBlock)) k_ ∧ some k_ ≠ (u3 : Value).ownBlock) (Kd.R_apart' (HO_7.out) (Kd.S_typed HO_3.out) (by decide)) (fun k_ hk => ⟨hk.1, hk.2⟩))).1 k_ hk_.symm) ?aF ?aO ?aB ?aS ?aL ?_; (case aP => exact Kd.M_row (Kd.R_mono (Kd.R_tight rfl (Kd.R_mono (ok' := fun k_ => ((fun k_ => some k_ ≠ (.slice Ao19 t270.length co19 : Value).ownBlock)) k_ ∧ some k_ ≠ (u3 : Value).ownBlock) (Kd.R_apart' (HO_7.out) (Kd.S_typed HO_3.out) (by decide)) (fun k_ hk => ⟨hk.1, hk.2⟩))) (fun _ h_ => h_))); (case aB => exact zg1); (case aF => exact (fun k_ hk => Kd.fresh' (Kd.R_lt zg13) k_ hk)); (case aO => exact (by (with_reducible repeat (first | apply Kd.S_alloc | apply Kd.S_drewN | apply Kd.S_drew)); exact Kd.S_mono HO_3.out (fun k_ hk => ⟨hk.2, fun e_ => hk.1 e_⟩))); (case aS => exact (below_size zg1)); (case aL => have := LMc30.out; omega); intro v279 w31 ho hb hg hat; rw [← Ny278.out] at ho; have n0_ := Aside0.mk (Kd.R_over' zg10 (Kd.S_typed zg8) (by decide) hg); have n1_ := Aside0.mk (Kd.R_over' zg13 (Kd.S_typed zg8) (by decide) hg); have n2_ := Aside0.mk (blk_grown (g := gb0) (o := .cells #[.int .i64 a0_0, .int .i64 a0_1, .slice A0_2 l0_2.length c0_2, .int .i64 a0_3, .int .i64 a0_4, .slice (some ad268) l0_5.length c0_5, .slice A0_6 l0_6.length c0_6] 53 (0, 0)) zg6 hg (Kd.S_ne HO_3.out BK0.out (by decide))); have n3_ := Aside0.mk (hb); have n4_ := Aside0.mk (ho); clear HO_4; clear HO_31; clear BK0; clear HB; clear HO_3; clear HO_7; have HO_4 := n0_; have HO_31 := n1_; have BK0 := n2_; have HB := n3_; have HO280 := n4_; clear n0_ n1_ n2_ n3_ n4_; clear ho hb hg hat))
      (try simp only [← hl4_2])
      go_roundg k2
      case measure => have := HK1.out; have := HK2.out; omega
      case rel => exact ⟨(y278), (x4_2), (wrap64 (x21_1 + 1)), zg9, H', ⟨by have := HK1.out; have := HK2.out; omega⟩, ⟨by (try simp only [hl4_2]); (with_reducible repeat (first | apply Kd.S_alloc | apply Kd.S_drewN | apply Kd.S_drew)); exact Kd.S_mono HO280.out (fun _ hk => trivial)⟩, ⟨zg16⟩, ⟨zg14⟩, ⟨zg1⟩⟩
     rw [if_pos c20] at H
     have c20b0 : decide (x33_2 < (t270.length : Int)) = true := decide_eq_true c20
     have c20b8 := c20b0
     (try simp only [hl4_2] at c20b8)
     clear c20
     by_cases c21 : 0 ≤ x33_2
     rotate_left
     ·rw [if_neg c21] at H
      exact absurd H (by simp)
     rw [if_pos c21] at H
     have c21b0 : decide (0 ≤ x33_2) = true := decide_eq_true c21
     clear c21
     by_cases c22 : x33_2 < (t270.length : Int)
     rotate_left
     ·rw [if_neg c22] at H
      exact absurd H (by simp)
     rw [if_pos c22] at H
     have c22b0 : decide (x33_2 < (t270.length : Int)) = true := decide_eq_true c22
     have c22b8 := c22b0
     (try simp only [hl4_2] at c22b8)
     clear c22
     by_cases c23 : (rd t270 x33_2) ≥ 0
     rotate_left
     ·rw [if_neg c23] at H
      have c23b0 : decide (0 ≤ (rd t270 x33_2)) = false := decide_eq_false c23
      clear c23
      have H' := Aside0.mk H
      clear H
      have p273 : 0 ≤ (x33_2 : Int) := of_decide_eq_true zg5
      have q273 : x33_2 < (t270.length : Int) := of_decide_eq_true zg5
      obtain ⟨ad273, e273, hx273_0⟩ := Kd.at_int (Kd.R_reads' HO_31.out).2.2 x33_2 p273 q273
      cases e273
      replace p273 := eq_true p273
      replace q273 := eq_true q273
      go_wp2
      (try simp only [← hl4_2])
      go_roundg k2
      case measure => have := HK1.out; have := HK2.out; omega
      case rel => exact ⟨(x4_2), (x7_2), (wrap64 (x33_2 + 1)), zg9, H', ⟨by have := HK1.out; have := HK2.out; omega⟩, ⟨by (try simp only [hl4_2]); first | exact HO_3.out | ((with_reducible repeat (first | apply Kd.S_alloc | apply Kd.S_drewN | apply Kd.S_drew)); exact HO_3.out)⟩, ⟨zg16⟩, ⟨by (try simp only [hl4_2]); first | exact HO_7.out | ((with_reducible repeat (first | apply Kd.R_alloc | apply Kd.R_drewN | apply Kd.R_drew)); exact HO_7.out)⟩, ⟨by (try simp only [hl4_2]); first | exact HO_31.out | ((with_reducible repeat (first | apply Kd.R_alloc | apply Kd.R_drewN | apply Kd.R_drew)); exact HO_31.out)⟩, ⟨zg14⟩, ⟨zg1⟩⟩
     rw [if_pos c23] at H
     have c23b0 : decide (0 ≤ (rd t270 x33_2)) = true := decide_eq_true c23
     clear c23
     by_cases c24 : x33_2 < (x4_2.length : Int)
     rotate_left
     ·rw [if_neg c24] at H
      exact absurd H (by simp)
     rw [if_pos c24] at H
     have c24b0 : decide (x33_2 < (x4_2.length : Int)) = true := decide_eq_true c24
     have c24b8 := c24b0
     (try simp only [hl4_2] at c24b8)
     clear c24
     obtain ⟨y274, hy274⟩ : ∃ y_ : List Bool, y_ = (x4_2.set (x33_2 : Int).toNat true) := ⟨_, rfl⟩
     replace H : (if x7_2.length < 17592186044416 then (impl_graph_parts.l1 k2 x3_1 y274 (x7_2 ++ [x33_2]) l0_5 (l0_5.length : Int) x21_1 t270 (t270.length : Int) (wrap64 (x33_2 + 1)) a0_0 a0_1 l0_2 a0_3 a0_4 l0_5 l0_6) else (none)) = some r := by first | (rw [hy274]; with_reducible exact H) | (have H2_ := (Option.bind_some _ _).symm.trans H; rw [hy274]; with_reducible exact H2_) | (have H2_ := (Option.bind_some _ _).symm.trans H; with_reducible exact H2_) | with_reducible exact H | (rw [hy274]; exact H) | exact H
     have Ny274 := Aside0.mk hy274
     clear hy274
     by_cases c26 : x7_2.length < 17592186044416
     rotate_left
     ·rw [if_neg c26] at H
      exact absurd H (by simp)
     rw [if_pos c26] at H
     have LMc26 := Aside0.mk c26
     clear c26
     obtain ⟨y275, hy275⟩ : ∃ y_ : List Int, y_ = (x7_2 ++ [x33_2]) := ⟨_, rfl⟩
     replace H : (impl_graph_parts.l1 k2 x3_1 y274 y275 l0_5 (l0_5.length : Int) x21_1 t270 (t270.length : Int) (wrap64 (x33_2 + 1)) a0_0 a0_1 l0_2 a0_3 a0_4 l0_5 l0_6) = some r := by first | (rw [hy275]; with_reducible exact H) | (have H2_ := (Option.bind_some _ _).symm.trans H; rw [hy275]; with_reducible exact H2_) | (have H2_ := (Option.bind_some _ _).symm.trans H; with_reducible exact H2_) | with_reducible exact H | (rw [hy275]; exact H) | exact H
     have Ny275 := Aside0.mk hy275
     clear hy275
     have H' := Aside0.mk H
     clear H
     have p273 : 0 ≤ (x33_2 : Int) := of_decide_eq_true zg5
     have q273 : x33_2 < (t270.length : Int) := of_decide_eq_true zg5
     obtain ⟨ad273, e273, hx273_0⟩ := Kd.at_int (Kd.R_reads' HO_31.out).2.2 x33_2 p273 q273
     cases e273
     replace p273 := eq_true p273
     replace q273 := eq_true q273
     have p25 : 0 ≤ (x33_2 : Int) := of_decide_eq_true zg5
     have q25 : (x33_2 : Int) < ((x4_2.length : Int) : Int) := of_decide_eq_true zg5
     obtain ⟨go25, co25, eo25, gb25, gl25, cl25, HG25⟩ := Kd.R_form HO_4.out (by omega)
     (first | cases eo25 | (injection eo25 with ea_ en_ ec_; (first | subst ea_ | (injection ea_ with ea_; subst ea_)); subst ec_; clear en_))
     have GB25 := Aside0.mk gb25
     have GG25 := Aside0.mk HG25
     clear gb25 gl25 HG25
     (try simp only [add_plain] at *)
     (first | simp only [add_plain] at hx269_0 | skip)
     obtain ⟨hx25_0, hf25_0⟩ := Kd.R_celln false HO_4.out (x33_2 : Int) p25 q25
     replace p25 := eq_true p25
     replace q25 := eq_true q25
     have HP27 := Kd.R_putg HO_4.out (x33_2 : Int) true
     go_wp2_with (first | ((with_reducible refine gate_store (t := 4) (p := 42) rfl ?_); refine store_event (t := 4) (p := 42) (v := ?vo_w28) (w1 := (wr.setCell ⟨go25, (x33_2 : Int).toNat, none⟩ (.bool true))) ?hg ?ho ?hn ?hr ?_; (case ho => rfl); (case hg => rfl); (case hn => rfl); (case hr => first | (go_simp; done) | (go_simp; rfl)); intro w28 hw; have hg : wr.grownBy w28 (some go25) := (by rw [hw]; exact HP27.2); have hp_ : Kd.R Kd.bool 4 w28 w.heap.size (fun _ => True) (.slice (some ⟨go25, 0, none⟩) x4_2.length co17) y274 := (by rw [hw, Ny274.out]; exact HP27.1); clear HP27; have n0_ := Aside0.mk (Kd.S_over' (v := (.slice (some ⟨go25, 0, none⟩) x4_2.length co17)) zg8 (Kd.R_typed HO_4.out) (by decide) hg); have n1_ := Aside0.mk (hp_); have n2_ := Aside0.mk (Kd.R_over' (v := (.slice (some ⟨go25, 0, none⟩) x4_2.length co17)) zg18 (Kd.R_typed HO_4.out) (by decide) hg); have n3_ := Aside0.mk (Kd.R_over' (v := (.slice (some ⟨go25, 0, none⟩) x4_2.length co17)) zg13 (Kd.R_typed HO_4.out) (by decide) hg); have n4_ := Aside0.mk (blk_grown (g := gb0) (o := .cells #[.int .i64 a0_0, .int .i64 a0_1, .slice A0_2 l0_2.length c0_2, .int .i64 a0_3, .int .i64 a0_4, .slice (some ad268) l0_5.length c0_5, .slice A0_6 l0_6.length c0_6] 53 (0, 0)) zg6 hg (Kd.R_ne HO_4.out BK0.out (by decide))); have n5_ := Aside0.mk ((by rw [hw]; exact below_set (HB.out) GB25.out : Below w.heap.size w w28)); clear HO_3; clear HO_4; clear HO_7; clear HO_31; clear BK0; clear HB; have HO_3 := n0_; have HO_4 := n1_; have HO_7 := n2_; have HO_31 := n3_; have BK0 := n4_; have HB := n5_; clear n0_ n1_ n2_ n3_ n4_ n5_; clear hg hw hp_) | ((with_reducible refine gate_builtin (b := .append) (xs := #[.tmp 43, .tmp 45]) rfl ?_); at_builtin; refine Kd.R_append (Kd.int .i64) (w0 := w) w.heap.size rfl (.tmp 43) (.tmp 45) 22 3 (.int .i64 0) 8 rfl Try.underlying22 info3 rfl (by decide) (by omega) u7 x7_2 x33_2 [.int .i64 x33_2] (fun k_ => some k_ ≠ (.slice (some ad273) t270.length co19 : Value).ownBlock) (fun _ => False) rfl rfl ?aP (fun _ hk => hk.elim) ?aF ?aO ?aB ?aS ?aL ?_; (case aP => exact rfl); (case aB => exact zg1); (case aF => exact (fun k_ hk => Kd.fresh' (Kd.R_lt zg13) k_ hk)); (case aO => exact zg18); (case aS => exact (below_size zg1)); (case aL => have := LMc26.out; omega); intro v276 w29 ho hb hg hat; rw [← Ny275.out] at ho; have n0_ := Aside0.mk (Kd.S_after (ok := (fun k_ => some k_ ≠ (.slice (some ad273) t270.length co19 : Value).ownBlock)) (by (with_reducible repeat (first | apply Kd.S_alloc | apply Kd.S_drewN | apply Kd.S_drew)); exact Kd.S_mono HO_3.out (fun _ hk => ⟨hk.2, hk.1⟩)) hg hat); have n1_ := Aside0.mk (Kd.R_over' zg10 (Kd.R_typed zg18) (by decide) hg); have n2_ := Aside0.mk (Kd.R_after (ok := (fun _ => True)) (by (with_reducible repeat (first | apply Kd.R_alloc | apply Kd.R_drewN | apply Kd.R_drew)); exact Kd.R_mono HO_31.out (fun _ hk => ⟨trivial, hk⟩)) hg hat); have n3_ := Aside0.mk (blk_grown (g := gb0) (o := .cells #[.int .i64 a0_0, .int .i64 a0_1, .slice A0_2 l0_2.length c0_2, .int .i64 a0_3, .int .i64 a0_4, .slice (some ad268) l0_5.length c0_5, .slice A0_6 l0_6.length c0_6] 53 (0, 0)) zg6 hg (Kd.R_ne HO_7.out BK0.out (by decide))); have n4_ := Aside0.mk (hb); have n5_ := Aside0.mk (ho); clear HO_3; clear HO_4; clear HO_31; clear BK0; clear HB; clear HO_7; have HO_3 := n0_; have HO_4 := n1_; have HO_31 := n2_; have BK0 := n3_; have HB := n4_; have HO277 := n5_; clear n0_ n1_ n2_ n3_ n4_ n5_; clear ho hb hg hat))
     (try simp only [← hl4_2])
     go_roundg k2
     case measure => have := HK1.out; have := HK2.out; omega
     case rel => exact ⟨(y274), (y275), (wrap64 (x33_2 + 1)), zg9, H', ⟨by have := HK1.out; have := HK2.out; omega⟩, ⟨by (try simp only [hl4_2]); (with_reducible repeat (first | apply Kd.S_alloc | apply Kd.S_drewN | apply Kd.S_drew)); exact Kd.S_mono HO_3.out (fun _ hk => ⟨hk.2, hk.1⟩)⟩, ⟨zg16⟩, ⟨by (try simp only [hl4_2]); first | exact HO277.out | ((with_reducible repeat (first | apply Kd.R_alloc | apply Kd.R_drewN | apply Kd.R_drew)); exact HO277.out)⟩, ⟨by (try simp only [hl4_2]); (with_reducible repeat (first | apply Kd.R_alloc | apply Kd.R_drewN | apply Kd.R_drew)); exact Kd.R_mono HO_31.out (fun _ hk => hk.2)⟩, ⟨zg14⟩, ⟨zg1⟩⟩

/-! ### laws_eqIntS: function 25 -/
def laws_eqIntS.l0 : Nat → List Int → List Int → Int → Option (Bool)
 | 0, _, _, _ => none
 | k + 1, x0, x1, x5 => if x5 < (x0.length : Int) then (if 0 ≤ x5 then (if x5 < (x1.length : Int) then (if (rd x0 x5) = (rd x1 x5) then (laws_eqIntS.l0 k x0 x1 (wrap64 (x5 + 1))) else (some false)) else (none)) else (none)) else (some true)
def laws_eqIntS.f (k : Nat) (l0 : List Int) (l1 : List Int) : Option (Bool) := if (l0.length : Int) = (l1.length : Int) then (laws_eqIntS.l0 k l0 l1 0) else (some false)
set_option maxHeartbeats 8000000 in
set_option maxRecDepth 100000 in
theorem laws_eqIntS.calls (k : Nat) (A0 : Option Addr) (c0 : Nat) (l0 : List Int) (A1 : Option Addr) (c1 : Nat) (l1 : List Int) (r : Bool) (w : World) (hr0 : Kd.C (Kd.int .i64) w A0 l0.length l0) (hc0 : l0.length ≤ c0) (hr1 : Kd.C (Kd.int .i64) w A1 l1.length l1) (hc1 : l1.length ≤ c1) (h : laws_eqIntS.f k l0 l1 = some r) :
  Calls Try.prog 25 #[.slice A0 l0.length c0, .slice A1 l1.length c1] w fun e w' => e = .returned (.bool r) ∧ Drawn0 w w' := by
 have HR0 := Aside0.mk hr0
 have HC0 := Aside0.mk hc0
 clear hr0 hc0
 have HR1 := Aside0.mk hr1
 have HC1 := Aside0.mk hc1
 clear hr1 hc1
 have H : (if (l0.length : Int) = (l1.length : Int) then (laws_eqIntS.l0 k l0 l1 0) else (some false)) = some r := h
 clear h
 by_cases c3 : (l0.length : Int) = (l1.length : Int)
 rotate_left
 ·rw [if_neg c3] at H
  have c3b0 : ((l0.length : Int) == (l1.length : Int)) = false := beq_eq_false_iff_ne.mpr c3
  have c3b1 : ((l0.length : Int) != (l1.length : Int)) = true := bne_iff_ne.mpr c3
  have c3b2 : (l0.length == l1.length) = false := by first | simpa using c3 | (simp at c3 ⊢; omega)
  obtain rfl := Option.some.inj H
  go_enter Try.func25, Try.ntmps25
  go_wp2
  repeat ((first | go_quiet (fail) | (refine wp_region_quiet_lit (by kernel_rfl) (by kernel_rfl) ?_; (repeat (any_goals (first | go_big_quiet_step (fail) | quiet_step (fail)))); all_goals (refine wpQuiet_nil ?_; intro _ hw2_; obtain ⟨nq, hw3_⟩ := hw2_; subst hw3_))); try go_wp2)
  go_ret
  exact ⟨zg9, zg17⟩
 rw [if_pos c3] at H
 have c3b0 : ((l0.length : Int) == (l1.length : Int)) = true := beq_iff_eq.mpr c3
 have c3b1 : ((l0.length : Int) != (l1.length : Int)) = false := bne_eq_false_iff_eq.mpr c3
 have c3b2 : (l0.length == l1.length) = true := by first | simpa using c3 | (simp at c3 ⊢; omega)
 clear c3
 have H' := Aside0.mk H
 clear H
 go_enter Try.func25, Try.ntmps25
 go_wp2
 repeat ((first | go_quiet (fail) | (refine wp_region_quiet_lit (by kernel_rfl) (by kernel_rfl) ?_; (repeat (any_goals (first | go_big_quiet_step (fail) | quiet_step (fail)))); all_goals (refine wpQuiet_nil ?_; intro _ hw2_; obtain ⟨nq, hw3_⟩ := hw2_; subst hw3_))); try go_wp2)
 go_loopg [5] k (fun kq v5 w' => ∃ (x5_1 : Int), v5 = .int .i64 x5_1 ∧ Aside0 (laws_eqIntS.l0 kq l0 l1 x5_1 = some r) ∧ Aside0 (kq ≤ k) ∧ Drawn0 w w')
 case atStart => exact ⟨(0), zg9, H', ⟨Nat.le_refl _⟩, zg17⟩
 case round =>
  clear H'
  try clear c1; try clear c2; try clear p2; try clear c3; try clear c3b0; try clear c3b1; try clear c3b2
  obtain ⟨x5_1, rfl, HA, HK1, ⟨m1, rfl⟩⟩ := hrel
  cases gk with
  | zero => exact absurd HA.out (by simp [laws_eqIntS.l0])
  | succ k1 =>
   have H := HA.out
   clear HA
   simp only [laws_eqIntS.l0] at H
   by_cases c4 : x5_1 < (l0.length : Int)
   rotate_left
   ·rw [if_neg c4] at H
    have c4b0 : decide (x5_1 < (l0.length : Int)) = false := decide_eq_false c4
    clear c4
    obtain rfl := Option.some.inj H
    go_wp2
    repeat ((first | go_quiet (fail) | (refine wp_region_quiet_lit (by kernel_rfl) (by kernel_rfl) ?_; (repeat (any_goals (first | go_big_quiet_step (fail) | quiet_step (fail)))); all_goals (refine wpQuiet_nil ?_; intro _ hw2_; obtain ⟨nq, hw3_⟩ := hw2_; subst hw3_))); try go_wp2)
    go_ret
    exact ⟨zg9, zg17⟩
   rw [if_pos c4] at H
   have c4b0 : decide (x5_1 < (l0.length : Int)) = true := decide_eq_true c4
   clear c4
   by_cases c5 : 0 ≤ x5_1
   rotate_left
   ·rw [if_neg c5] at H
    exact absurd H (by simp)
   rw [if_pos c5] at H
   have c5b0 : decide (0 ≤ x5_1) = true := decide_eq_true c5
   clear c5
   by_cases c6 : x5_1 < (l1.length : Int)
   rotate_left
   ·rw [if_neg c6] at H
    exact absurd H (by simp)
   rw [if_pos c6] at H
   have c6b0 : decide (x5_1 < (l1.length : Int)) = true := decide_eq_true c6
   clear c6
   by_cases c7 : (rd l0 x5_1) = (rd l1 x5_1)
   rotate_left
   ·rw [if_neg c7] at H
    have c7b0 : ((rd l0 x5_1) == (rd l1 x5_1)) = false := beq_eq_false_iff_ne.mpr c7
    have c7b1 : ((rd l0 x5_1) != (rd l1 x5_1)) = true := bne_iff_ne.mpr c7
    obtain rfl := Option.some.inj H
    have p332 : 0 ≤ (x5_1 : Int) := of_decide_eq_true zg5
    have q332 : x5_1 < (l0.length : Int) := of_decide_eq_true zg5
    obtain ⟨ad332, e332, hx332_0⟩ := Kd.at_int HR0.out x5_1 p332 q332
    cases e332
    replace p332 := eq_true p332
    replace q332 := eq_true q332
    have p333 : 0 ≤ (x5_1 : Int) := of_decide_eq_true zg5
    have q333 : x5_1 < (l1.length : Int) := of_decide_eq_true zg5
    obtain ⟨ad333, e333, hx333_0⟩ := Kd.at_int HR1.out x5_1 p333 q333
    cases e333
    replace p333 := eq_true p333
    replace q333 := eq_true q333
    go_wp2
    repeat ((first | go_quiet (fail) | (refine wp_region_quiet_lit (by kernel_rfl) (by kernel_rfl) ?_; (repeat (any_goals (first | go_big_quiet_step (fail) | quiet_step (fail)))); all_goals (refine wpQuiet_nil ?_; intro _ hw2_; obtain ⟨nq, hw3_⟩ := hw2_; subst hw3_))); try go_wp2)
    go_ret
    exact ⟨zg9, zg17⟩
   rw [if_pos c7] at H
   have c7b0 : ((rd l0 x5_1) == (rd l1 x5_1)) = true := beq_iff_eq.mpr c7
   have c7b1 : ((rd l0 x5_1) != (rd l1 x5_1)) = false := bne_eq_false_iff_eq.mpr c7
   clear c7
   have H' := Aside0.mk H
   clear H
   have p332 : 0 ≤ (x5_1 : Int) := of_decide_eq_true zg5
   have q332 : x5_1 < (l0.length : Int) := of_decide_eq_true zg5
   obtain ⟨ad332, e332, hx332_0⟩ := Kd.at_int HR0.out x5_1 p332 q332
   cases e332
   replace p332 := eq_true p332
   replace q332 := eq_true q332
   have p333 : 0 ≤ (x5_1 : Int) := of_decide_eq_true zg5
   have q333 : x5_1 < (l1.length : Int) := of_decide_eq_true zg5
   obtain ⟨ad333, e333, hx333_0⟩ := Kd.at_int HR1.out x5_1 p333 q333
   cases e333
   replace p333 := eq_true p333
   replace q333 := eq_true q333
   go_wp2
   repeat ((first | go_quiet (fail) | (refine wp_region_quiet_lit (by kernel_rfl) (by kernel_rfl) ?_; (repeat (any_goals (first | go_big_quiet_step (fail) | quiet_step (fail)))); all_goals (refine wpQuiet_nil ?_; intro _ hw2_; obtain ⟨nq, hw3_⟩ := hw2_; subst hw3_))); try go_wp2)
   go_roundg k1
   case measure => have := HK1.out; omega
   case rel => exact ⟨(wrap64 (x5_1 + 1)), zg9, H', ⟨by have := HK1.out; omega⟩, zg17⟩

/-! ### laws_eqBoard: function 10 -/
def laws_eqBoard.f (k : Nat) (a0_0 : Int) (a0_1 : Int) (l0_2 : List Int) (a1_0 : Int) (a1_1 : Int) (l1_2 : List Int) : Option (Bool) := if a0_0 = a1_0 then (if a0_1 = a1_1 then ((laws_eqIntS.f k l0_2 l1_2).bind fun t336 => (if t336 = true then (some true) else (some false))) else (some false)) else (some false)
set_option maxHeartbeats 8000000 in
set_option maxRecDepth 100000 in
theorem laws_eqBoard.calls (k : Nat) (a0_0 : Int) (a0_1 : Int) (A0_2 : Option Addr) (c0_2 : Nat) (l0_2 : List Int) (a1_0 : Int) (a1_1 : Int) (A1_2 : Option Addr) (c1_2 : Nat) (l1_2 : List Int) (r : Bool) (w : World) (hr0_2 : Kd.C (Kd.int .i64) w A0_2 l0_2.length l0_2) (hc0_2 : l0_2.length ≤ c0_2) (hr1_2 : Kd.C (Kd.int .i64) w A1_2 l1_2.length l1_2) (hc1_2 : l1_2.length ≤ c1_2) (h : laws_eqBoard.f k a0_0 a0_1 l0_2 a1_0 a1_1 l1_2 = some r) :
  Calls Try.prog 10 #[.agg #[.int .i64 a0_0, .int .i64 a0_1, .slice A0_2 l0_2.length c0_2], .agg #[.int .i64 a1_0, .int .i64 a1_1, .slice A1_2 l1_2.length c1_2]] w fun e w' => e = .returned (.bool r) ∧ Below w.heap.size w w' := by
 have hu30 := Try.underlying30
 have HR0_2 := Aside0.mk hr0_2
 have HC0_2 := Aside0.mk hc0_2
 clear hr0_2 hc0_2
 have HR1_2 := Aside0.mk hr1_2
 have HC1_2 := Aside0.mk hc1_2
 clear hr1_2 hc1_2
 have HB := Aside0.mk (Below.refl w.heap.size w)
 have H : (if a0_0 = a1_0 then (if a0_1 = a1_1 then ((laws_eqIntS.f k l0_2 l1_2).bind fun t336 => (if t336 = true then (some true) else (some false))) else (some false)) else (some false)) = some r := h
 clear h
 by_cases c3 : a0_0 = a1_0
 rotate_left
 ·rw [if_neg c3] at H
  have c3b0 : (a0_0 == a1_0) = false := beq_eq_false_iff_ne.mpr c3
  have c3b1 : (a0_0 != a1_0) = true := bne_iff_ne.mpr c3
  obtain rfl := Option.some.inj H
  go_enter Try.func10, Try.ntmps10
  go_wp2_with (first | ((with_reducible refine gate_dst (N := 2) rfl ?_); refine box_event ?hg (N := 2) ?hd (cs := #[.int .i64 a0_0, .int .i64 a0_1, .slice A0_2 l0_2.length c0_2]) (t := 30) ?hr ?_; (case hd => rfl); (case hg => rfl); (case hr => first | (go_simp; done) | (go_simp; rfl)); intro gb334 hg w22 hbox hb; have n0_ := Aside0.mk (below_step zg3 hb); have n1_ := Aside0.mk (hbox); have n2_ := Aside0.mk ((zg22 : w.heap.size ≤ gb334)); have n3_ := Aside0.mk ((zg22 : w.heap.size ≤ gb334)); clear HB; have HB := n0_; have BK334 := n1_; have GW334 := n2_; have GE334 := n3_; clear n0_ n1_ n2_ n3_; clear hb hbox hg) | ((with_reducible refine gate_dst (N := 3) rfl ?_); refine box_event ?hg (N := 3) ?hd (cs := #[.int .i64 a1_0, .int .i64 a1_1, .slice A1_2 l1_2.length c1_2]) (t := 30) ?hr ?_; (case hd => rfl); (case hg => rfl); (case hr => first | (go_simp; done) | (go_simp; rfl)); intro gb335 hg w23 hbox hb; have n0_ := Aside0.mk (blk_below (g := gb334) (o := .cells #[.int .i64 a0_0, .int .i64 a0_1, .slice A0_2 l0_2.length c0_2] 30 (0, 0)) zg4 hb); have n1_ := Aside0.mk (below_step zg2 hb); have n2_ := Aside0.mk (hbox); have n3_ := Aside0.mk ((zg23 : w.heap.size ≤ gb335)); have n4_ := Aside0.mk ((zg23 : w.heap.size ≤ gb335)); have n5_ := Aside0.mk ((zg20 : gb334 ≠ gb335)); have n6_ := Aside0.mk ((zg21 : gb335 ≠ gb334)); clear BK334; clear HB; have BK334 := n0_; have HB := n1_; have BK335 := n2_; have GW335 := n3_; have GE335 := n4_; have NB334_335 := n5_; have NB335_334 := n6_; clear n0_ n1_ n2_ n3_ n4_ n5_ n6_; clear hb hbox hg; have hnb24 := NB334_335.out; have hnc24 := NB335_334.out; have hcz25_0 : w23.cell? ⟨gb334, 0, none⟩ = some (.int .i64 a0_0) := (blk_cell BK334.out 0).trans rfl; have hcz25_1 : w23.cell? ⟨gb334, 1, none⟩ = some (.int .i64 a0_1) := (blk_cell BK334.out 1).trans rfl; have hcz25_2 : w23.cell? ⟨gb334, 2, none⟩ = some (.slice A0_2 l0_2.length c0_2) := (blk_cell BK334.out 2).trans rfl; have hfz25_0 := blk_frozen BK334.out 0; have hfz25_1 := blk_frozen BK334.out 1; have hfz25_2 := blk_frozen BK334.out 2; have hcz26_0 : w23.cell? ⟨gb335, 0, none⟩ = some (.int .i64 a1_0) := (blk_cell BK335.out 0).trans rfl; have hcz26_1 : w23.cell? ⟨gb335, 1, none⟩ = some (.int .i64 a1_1) := (blk_cell BK335.out 1).trans rfl; have hcz26_2 : w23.cell? ⟨gb335, 2, none⟩ = some (.slice A1_2 l1_2.length c1_2) := (blk_cell BK335.out 2).trans rfl; have hfz26_0 := blk_frozen BK335.out 0; have hfz26_1 := blk_frozen BK335.out 1; have hfz26_2 := blk_frozen BK335.out 2))
  go_ret
  exact ⟨zg11, zg7⟩
 rw [if_pos c3] at H
 have c3b0 : (a0_0 == a1_0) = true := beq_iff_eq.mpr c3
 have c3b1 : (a0_0 != a1_0) = false := bne_eq_false_iff_eq.mpr c3
 clear c3
 by_cases c4 : a0_1 = a1_1
 rotate_left
 ·rw [if_neg c4] at H
  have c4b0 : (a0_1 == a1_1) = false := beq_eq_false_iff_ne.mpr c4
  have c4b1 : (a0_1 != a1_1) = true := bne_iff_ne.mpr c4
  obtain rfl := Option.some.inj H
  go_enter Try.func10, Try.ntmps10
  go_wp2_with (first | ((with_reducible refine gate_dst (N := 2) rfl ?_); refine box_event ?hg (N := 2) ?hd (cs := #[.int .i64 a0_0, .int .i64 a0_1, .slice A0_2 l0_2.length c0_2]) (t := 30) ?hr ?_; (case hd => rfl); (case hg => rfl); (case hr => first | (go_simp; done) | (go_simp; rfl)); intro gb334 hg w17 hbox hb; have n0_ := Aside0.mk (below_step zg3 hb); have n1_ := Aside0.mk (hbox); have n2_ := Aside0.mk ((zg22 : w.heap.size ≤ gb334)); have n3_ := Aside0.mk ((zg22 : w.heap.size ≤ gb334)); clear HB; have HB := n0_; have BK334 := n1_; have GW334 := n2_; have GE334 := n3_; clear n0_ n1_ n2_ n3_; clear hb hbox hg) | ((with_reducible refine gate_dst (N := 3) rfl ?_); refine box_event ?hg (N := 3) ?hd (cs := #[.int .i64 a1_0, .int .i64 a1_1, .slice A1_2 l1_2.length c1_2]) (t := 30) ?hr ?_; (case hd => rfl); (case hg => rfl); (case hr => first | (go_simp; done) | (go_simp; rfl)); intro gb335 hg w18 hbox hb; have n0_ := Aside0.mk (blk_below (g := gb334) (o := .cells #[.int .i64 a0_0, .int .i64 a0_1, .slice A0_2 l0_2.length c0_2] 30 (0, 0)) zg4 hb); have n1_ := Aside0.mk (below_step zg2 hb); have n2_ := Aside0.mk (hbox); have n3_ := Aside0.mk ((zg23 : w.heap.size ≤ gb335)); have n4_ := Aside0.mk ((zg23 : w.heap.size ≤ gb335)); have n5_ := Aside0.mk ((zg20 : gb334 ≠ gb335)); have n6_ := Aside0.mk ((zg21 : gb335 ≠ gb334)); clear BK334; clear HB; have BK334 := n0_; have HB := n1_; have BK335 := n2_; have GW335 := n3_; have GE335 := n4_; have NB334_335 := n5_; have NB335_334 := n6_; clear n0_ n1_ n2_ n3_ n4_ n5_ n6_; clear hb hbox hg; have hnb19 := NB334_335.out; have hnc19 := NB335_334.out; have hcz20_0 : w18.cell? ⟨gb334, 0, none⟩ = some (.int .i64 a0_0) := (blk_cell BK334.out 0).trans rfl; have hcz20_1 : w18.cell? ⟨gb334, 1, none⟩ = some (.int .i64 a0_1) := (blk_cell BK334.out 1).trans rfl; have hcz20_2 : w18.cell? ⟨gb334, 2, none⟩ = some (.slice A0_2 l0_2.length c0_2) := (blk_cell BK334.out 2).trans rfl; have hfz20_0 := blk_frozen BK334.out 0; have hfz20_1 := blk_frozen BK334.out 1; have hfz20_2 := blk_frozen BK334.out 2; have hcz21_0 : w18.cell? ⟨gb335, 0, none⟩ = some (.int .i64 a1_0) := (blk_cell BK335.out 0).trans rfl; have hcz21_1 : w18.cell? ⟨gb335, 1, none⟩ = some (.int .i64 a1_1) := (blk_cell BK335.out 1).trans rfl; have hcz21_2 : w18.cell? ⟨gb335, 2, none⟩ = some (.slice A1_2 l1_2.length c1_2) := (blk_cell BK335.out 2).trans rfl; have hfz21_0 := blk_frozen BK335.out 0; have hfz21_1 := blk_frozen BK335.out 1; have hfz21_2 := blk_frozen BK335.out 2))
  go_ret
  exact ⟨zg11, zg7⟩
 rw [if_pos c4] at H
 have c4b0 : (a0_1 == a1_1) = true := beq_iff_eq.mpr c4
 have c4b1 : (a0_1 != a1_1) = false := bne_eq_false_iff_eq.mpr c4
 clear c4
 replace H := Option.bind_eq_some_iff.mp H
 obtain ⟨t336, A50, H⟩ := H
 replace H : (if t336 = true then (some true) else (some false)) = some r := H
 have A5 := Aside0.mk A50
 clear A50
 by_cases c6 : t336 = true
 ·subst c6
  have H1 : (some true) = some r := by rw [if_pos rfl] at H; exact H
  clear H
  have H := H1
  clear H1
  obtain rfl := Option.some.inj H
  go_enter Try.func10, Try.ntmps10
  go_wp2_with (first | ((with_reducible refine gate_dst (N := 2) rfl ?_); refine box_event ?hg (N := 2) ?hd (cs := #[.int .i64 a0_0, .int .i64 a0_1, .slice A0_2 l0_2.length c0_2]) (t := 30) ?hr ?_; (case hd => rfl); (case hg => rfl); (case hr => first | (go_simp; done) | (go_simp; rfl)); intro gb334 hg w7 hbox hb; have n0_ := Aside0.mk (below_step zg3 hb); have n1_ := Aside0.mk (hbox); have n2_ := Aside0.mk ((zg22 : w.heap.size ≤ gb334)); have n3_ := Aside0.mk ((zg22 : w.heap.size ≤ gb334)); clear HB; have HB := n0_; have BK334 := n1_; have GW334 := n2_; have GE334 := n3_; clear n0_ n1_ n2_ n3_; clear hb hbox hg) | ((with_reducible refine gate_dst (N := 3) rfl ?_); refine box_event ?hg (N := 3) ?hd (cs := #[.int .i64 a1_0, .int .i64 a1_1, .slice A1_2 l1_2.length c1_2]) (t := 30) ?hr ?_; (case hd => rfl); (case hg => rfl); (case hr => first | (go_simp; done) | (go_simp; rfl)); intro gb335 hg w8 hbox hb; have n0_ := Aside0.mk (blk_below (g := gb334) (o := .cells #[.int .i64 a0_0, .int .i64 a0_1, .slice A0_2 l0_2.length c0_2] 30 (0, 0)) zg4 hb); have n1_ := Aside0.mk (below_step zg2 hb); have n2_ := Aside0.mk (hbox); have n3_ := Aside0.mk ((zg23 : w.heap.size ≤ gb335)); have n4_ := Aside0.mk ((zg23 : w.heap.size ≤ gb335)); have n5_ := Aside0.mk ((zg20 : gb334 ≠ gb335)); have n6_ := Aside0.mk ((zg21 : gb335 ≠ gb334)); clear BK334; clear HB; have BK334 := n0_; have HB := n1_; have BK335 := n2_; have GW335 := n3_; have GE335 := n4_; have NB334_335 := n5_; have NB335_334 := n6_; clear n0_ n1_ n2_ n3_ n4_ n5_ n6_; clear hb hbox hg; have hnb9 := NB334_335.out; have hnc9 := NB335_334.out; have hcz10_0 : w8.cell? ⟨gb334, 0, none⟩ = some (.int .i64 a0_0) := (blk_cell BK334.out 0).trans rfl; have hcz10_1 : w8.cell? ⟨gb334, 1, none⟩ = some (.int .i64 a0_1) := (blk_cell BK334.out 1).trans rfl; have hcz10_2 : w8.cell? ⟨gb334, 2, none⟩ = some (.slice A0_2 l0_2.length c0_2) := (blk_cell BK334.out 2).trans rfl; have hfz10_0 := blk_frozen BK334.out 0; have hfz10_1 := blk_frozen BK334.out 1; have hfz10_2 := blk_frozen BK334.out 2; have hcz11_0 : w8.cell? ⟨gb335, 0, none⟩ = some (.int .i64 a1_0) := (blk_cell BK335.out 0).trans rfl; have hcz11_1 : w8.cell? ⟨gb335, 1, none⟩ = some (.int .i64 a1_1) := (blk_cell BK335.out 1).trans rfl; have hcz11_2 : w8.cell? ⟨gb335, 2, none⟩ = some (.slice A1_2 l1_2.length c1_2) := (blk_cell BK335.out 2).trans rfl; have hfz11_0 := blk_frozen BK335.out 0; have hfz11_1 := blk_frozen BK335.out 1; have hfz11_2 := blk_frozen BK335.out 2) | ((with_reducible refine gate_callee (f := 25) rfl ?_); refine goesL_ (some 19) rfl rfl Try.func25 (by kernel_rfl) rfl #[.slice A0_2 l0_2.length c0_2, .slice A1_2 l1_2.length c1_2] rfl zg15 ?_; (with_reducible refine (laws_eqIntS.calls k _ _ l0_2 _ _ l1_2 true _ ?side1 ?side2 ?side3 ?side4 A5.out).mono ?_); (case side1 => exact zg12); (case side2 => exact HC0_2.out); (case side3 => exact zg19); (case side4 => exact HC1_2.out); rintro e w' ⟨rfl, ⟨nd, rfl⟩⟩; refine ⟨_, rfl, ?_⟩))
  go_ret
  exact ⟨zg11, zg7⟩
 replace c6 := Bool.eq_false_iff.mpr c6
 subst c6
 have H1 : (some false) = some r := by rw [if_neg (show ¬ (false = true) by decide)] at H; exact H
 clear H
 have H := H1
 clear H1
 obtain rfl := Option.some.inj H
 go_enter Try.func10, Try.ntmps10
 go_wp2_with (first | ((with_reducible refine gate_dst (N := 2) rfl ?_); refine box_event ?hg (N := 2) ?hd (cs := #[.int .i64 a0_0, .int .i64 a0_1, .slice A0_2 l0_2.length c0_2]) (t := 30) ?hr ?_; (case hd => rfl); (case hg => rfl); (case hr => first | (go_simp; done) | (go_simp; rfl)); intro gb334 hg w12 hbox hb; have n0_ := Aside0.mk (below_step zg3 hb); have n1_ := Aside0.mk (hbox); have n2_ := Aside0.mk ((zg22 : w.heap.size ≤ gb334)); have n3_ := Aside0.mk ((zg22 : w.heap.size ≤ gb334)); clear HB; have HB := n0_; have BK334 := n1_; have GW334 := n2_; have GE334 := n3_; clear n0_ n1_ n2_ n3_; clear hb hbox hg) | ((with_reducible refine gate_dst (N := 3) rfl ?_); refine box_event ?hg (N := 3) ?hd (cs := #[.int .i64 a1_0, .int .i64 a1_1, .slice A1_2 l1_2.length c1_2]) (t := 30) ?hr ?_; (case hd => rfl); (case hg => rfl); (case hr => first | (go_simp; done) | (go_simp; rfl)); intro gb335 hg w13 hbox hb; have n0_ := Aside0.mk (blk_below (g := gb334) (o := .cells #[.int .i64 a0_0, .int .i64 a0_1, .slice A0_2 l0_2.length c0_2] 30 (0, 0)) zg4 hb); have n1_ := Aside0.mk (below_step zg2 hb); have n2_ := Aside0.mk (hbox); have n3_ := Aside0.mk ((zg23 : w.heap.size ≤ gb335)); have n4_ := Aside0.mk ((zg23 : w.heap.size ≤ gb335)); have n5_ := Aside0.mk ((zg20 : gb334 ≠ gb335)); have n6_ := Aside0.mk ((zg21 : gb335 ≠ gb334)); clear BK334; clear HB; have BK334 := n0_; have HB := n1_; have BK335 := n2_; have GW335 := n3_; have GE335 := n4_; have NB334_335 := n5_; have NB335_334 := n6_; clear n0_ n1_ n2_ n3_ n4_ n5_ n6_; clear hb hbox hg; have hnb14 := NB334_335.out; have hnc14 := NB335_334.out; have hcz15_0 : w13.cell? ⟨gb334, 0, none⟩ = some (.int .i64 a0_0) := (blk_cell BK334.out 0).trans rfl; have hcz15_1 : w13.cell? ⟨gb334, 1, none⟩ = some (.int .i64 a0_1) := (blk_cell BK334.out 1).trans rfl; have hcz15_2 : w13.cell? ⟨gb334, 2, none⟩ = some (.slice A0_2 l0_2.length c0_2) := (blk_cell BK334.out 2).trans rfl; have hfz15_0 := blk_frozen BK334.out 0; have hfz15_1 := blk_frozen BK334.out 1; have hfz15_2 := blk_frozen BK334.out 2; have hcz16_0 : w13.cell? ⟨gb335, 0, none⟩ = some (.int .i64 a1_0) := (blk_cell BK335.out 0).trans rfl; have hcz16_1 : w13.cell? ⟨gb335, 1, none⟩ = some (.int .i64 a1_1) := (blk_cell BK335.out 1).trans rfl; have hcz16_2 : w13.cell? ⟨gb335, 2, none⟩ = some (.slice A1_2 l1_2.length c1_2) := (blk_cell BK335.out 2).trans rfl; have hfz16_0 := blk_frozen BK335.out 0; have hfz16_1 := blk_frozen BK335.out 1; have hfz16_2 := blk_frozen BK335.out 2) | ((with_reducible refine gate_callee (f := 25) rfl ?_); refine goesL_ (some 19) rfl rfl Try.func25 (by kernel_rfl) rfl #[.slice A0_2 l0_2.length c0_2, .slice A1_2 l1_2.length c1_2] rfl zg15 ?_; (with_reducible refine (laws_eqIntS.calls k _ _ l0_2 _ _ l1_2 false _ ?side1 ?side2 ?side3 ?side4 A5.out).mono ?_); (case side1 => exact zg12); (case side2 => exact HC0_2.out); (case side3 => exact zg19); (case side4 => exact HC1_2.out); rintro e w' ⟨rfl, ⟨nd, rfl⟩⟩; refine ⟨_, rfl, ?_⟩))
 go_ret
 exact ⟨zg11, zg7⟩

end Go.Proofs.Ytfjomkjngolboaa.Q

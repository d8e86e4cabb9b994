/- Written by a program of this session: functions of the translation as plain Lean functions, each with a proof that the call does what the plain function says; the conditions stand in each theorem. -/
import Derived.Test.YtbecdckdbeoomaaQ0
import Derived.Test.YtbecdckdbeoomaaQ4
import Derived.Test.YtbecdckdbeoomaaQ29
import Derived.Test.YtbecdckdbeoomaaQ33
namespace Go.Proofs.Ytbecdckdbeoomaa.Q
open Go.RowKit Go.Proofs.YtbecdckdbeoomaaW.PrintWords Go.Proofs.YtbecdckdbeoomaaW.PrintLast Go.Proofs.YtbecdckdbeoomaaW.PrintMore
attribute [local go_sem] max2_int min2_int max_two min_two max_three min_three max_four min_four   -- for this text's walks alone
set_option linter.unusedVariables false
set_option linter.unusedSimpArgs false

theorem zae1 {p : Prop} (h : p := by repeat (first | (with_reducible first | exact HB.out | apply below_alloc | apply pw_below_drewN | apply below_drew1 | refine below_set ?_ GE743.out | refine below_set ?_ GE744.out) | exact HB.out)) : p := h
theorem zae2 {p : Prop} (h : p := by first | exact BK743.out | ((with_reducible repeat (first | refine blk_drewN ?_ _ | refine blk_drew ?_ | refine blk_alloc ?_ _)); exact BK743.out)) : p := h
theorem zae3 {p : Prop} (h : p := by first | exact BK744.out | ((with_reducible repeat (first | refine blk_drewN ?_ _ | refine blk_drew ?_ | refine blk_alloc ?_ _)); exact BK744.out)) : p := h
theorem zae4 {p : Prop} (h : p := by repeat (first | (with_reducible first | exact HB.out | apply below_alloc | apply pw_below_drewN | apply below_drew1 | refine below_set ?_ GE743.out | refine below_set ?_ GE744.out | refine below_set ?_ GE751.out) | exact HB.out)) : p := h
theorem zae5 {p : Prop} (h : p := by repeat (first | exact (Kd.C_below HR0_2.out HB.out) | (with_reducible refine Kd.C_alloc ?_ _) | (with_reducible refine Kd.C_drewN ?_ _) | (with_reducible refine Kd.C_drew ?_))) : p := h
theorem zae6 {p : Prop} (h : p := by first | exact BK751.out | ((with_reducible repeat (first | refine blk_drewN ?_ _ | refine blk_drew ?_ | refine blk_alloc ?_ _)); exact BK751.out)) : p := h
theorem zae7 {p : Prop} (h : p := by repeat (first | (with_reducible first | exact HB.out | apply below_alloc | apply pw_below_drewN | apply below_drew1 | refine below_set ?_ GE743.out) | exact HB.out)) : p := h
theorem zae8 {p : Prop} (h : p := by first | (with_reducible assumption) | assumption) : p := h
theorem zae9 {p : Prop} (h : p := by repeat (first | exact (Kd.S_reads' HO750.out).2.2 | (with_reducible refine Kd.C_alloc ?_ _) | (with_reducible refine Kd.C_drewN ?_ _) | (with_reducible refine Kd.C_drew ?_))) : p := h
theorem zae10 {p : Prop} (h : p := by repeat (first | exact (Kd.R_reads' HO747.out).2.2 | (with_reducible refine Kd.C_alloc ?_ _) | (with_reducible refine Kd.C_drewN ?_ _) | (with_reducible refine Kd.C_drew ?_))) : p := h
theorem zae11 {p : Prop} (h : p := by repeat (first | (with_reducible first | exact HB.out | apply below_alloc | apply pw_below_drewN | apply below_drew1 | refine below_set ?_ GE0.out) | exact HB.out)) : p := h
theorem zae12 {p : Prop} (h : p := by repeat (first | (with_reducible first | exact HB.out | apply below_alloc | apply pw_below_drewN | apply below_drew1) | exact HB.out)) : p := h
theorem zae13 {p : Prop} (h : p := by first | exact HO747.out | ((with_reducible repeat (first | apply Kd.R_alloc | apply Kd.R_drewN | apply Kd.R_drew)); exact HO747.out)) : p := h
theorem zae14 {p : Prop} (h : p := by first | exact HO750.out | ((with_reducible repeat (first | apply Kd.S_alloc | apply Kd.S_drewN | apply Kd.S_drew)); exact HO750.out)) : p := h
theorem zae15 {p : Prop} (h : p := by repeat (first | exact (Kd.C_below HR2.out HB.out) | (with_reducible refine Kd.C_alloc ?_ _) | (with_reducible refine Kd.C_drewN ?_ _) | (with_reducible refine Kd.C_drew ?_))) : p := h
theorem zae16 {p : Prop} (h : p := by first | exact BK0.out | ((with_reducible repeat (first | refine blk_drewN ?_ _ | refine blk_drew ?_ | refine blk_alloc ?_ _)); exact BK0.out)) : p := h
theorem zae17 {p : Prop} (h : p := by first | exact HO_25.out | ((with_reducible repeat (first | apply Kd.R_alloc | apply Kd.R_drewN | apply Kd.R_drew)); exact HO_25.out)) : p := h
theorem zae18 {p : Prop} (h : p := by first | exact HO_3.out | ((with_reducible repeat (first | apply Kd.S_alloc | apply Kd.S_drewN | apply Kd.S_drew)); exact HO_3.out)) : p := h
theorem zae19 {p : Prop} (h : p := by first | rfl | (simp; done) | (simp [*]; done)) : p := h
theorem zae20 {p : Prop} (h : p := by first | rfl | (simp [errW_none, errW_some] <;> rfl) | (simp [*, errW_none, errW_some] <;> rfl)) : p := h
theorem zae21 {p : Prop} (h : p := by first | exact HO_752006.out | ((with_reducible repeat (first | apply Kd.S_alloc | apply Kd.S_drewN | apply Kd.S_drew)); exact HO_752006.out)) : p := h
theorem zae22 {p : Prop} (h : p := by first | exact HO_752005.out | ((with_reducible repeat (first | apply Kd.R_alloc | apply Kd.R_drewN | apply Kd.R_drew)); exact HO_752005.out)) : p := h
theorem zae23 {p : Prop} (h : p := by first | exact HO_27.out | ((with_reducible repeat (first | apply Kd.S_alloc | apply Kd.S_drewN | apply Kd.S_drew)); exact HO_27.out)) : p := h
theorem zae24 {p : Prop} (h : p := by repeat (first | (with_reducible exact HR758_0.out) | (with_reducible refine Kd.C_alloc ?_ _) | (with_reducible refine Kd.C_drewN ?_ _) | (with_reducible refine Kd.C_drew ?_) | exact HR758_0.out)) : p := h
theorem zae25 {p : Prop} (h : p := by have := HK1.out; have := HK2.out; omega) : p := h
theorem zae26 {p : Prop} (h : p := by rw [hg]; exact Nat.ne_of_lt (blk_lt (g := gb743) (o := .cells #[.int .i64 a0_0, .int .i64 a0_1, .slice A0_2 l0_2.length c0_2] 30 (0, 0)) zae2)) : p := h
theorem zae27 {p : Prop} (h : p := by rw [hg]; exact Nat.ne_of_gt (blk_lt (g := gb743) (o := .cells #[.int .i64 a0_0, .int .i64 a0_1, .slice A0_2 l0_2.length c0_2] 30 (0, 0)) zae2)) : p := h
theorem zae28 {p : Prop} (h : p := by exact (below_size zae1)) : p := h
theorem zae29 {p : Prop} (h : p := by rw [hg]; exact (below_size zae12)) : p := h
theorem zae30 {p : Prop} (h : p := by rw [hg]; exact (below_size zae7)) : p := h
/-! ### impl_graph_unlike: function 60 -/
mutual
def impl_graph_unlike.l0 : Nat → List (List Int) → List Int → Int → Int → Int → Int → List Int → Int → Int → List Int → List (List Int) → Option ((List (List Int)))
 | 0, _, _, _, _, _, _, _, _, _, _, _ => none
 | k + 1, x3, x17, x18, x19, x1000, x1001, x1002, x1003, x1004, x1005, x1006 => if x19 < x18 then (if 0 ≤ x19 then (if x19 < (x17.length : Int) then ((impl_graph_far.f k x1000 x1001 x1002 x1003 x1004 x1005 x1006 (rd x17 x19)).bind fun t729 => (impl_graph_unlike.l1 k x3 (rd x17 x19) x17 x18 x19 t729 (t729.length : Int) 0 x1000 x1001 x1002 x1003 x1004 x1005 x1006)) else (none)) else (none)) else (some x3)
def impl_graph_unlike.l1 : Nat → List (List Int) → Int → List Int → Int → Int → List Int → Int → Int → Int → Int → List Int → Int → Int → List Int → List (List Int) → Option ((List (List Int)))
 | 0, _, _, _, _, _, _, _, _, _, _, _, _, _, _, _ => none
 | k + 1, x3, x5, x17, x18, x19, x25, x26, x27, x1000, x1001, x1002, x1003, x1004, x1005, x1006 => if x27 < x26 then (if 0 ≤ x27 then (if x27 < (x25.length : Int) then (if (rd x25 x27) = 1 then (if 0 ≤ x5 then (if x5 < (x3.length : Int) then (if (rd_L1 x3 x5).length < 17592186044416 then (impl_graph_unlike.l1 k (x3.set (x5 : Int).toNat ((rd_L1 x3 x5) ++ [x27])) x5 x17 x18 x19 x25 x26 (wrap64 (x27 + 1)) x1000 x1001 x1002 x1003 x1004 x1005 x1006) else (none)) else (none)) else (none)) else (if (rd x25 x27) = 2 then (if 0 ≤ x5 then (if x5 < (x3.length : Int) then (if (rd_L1 x3 x5).length < 17592186044416 then (impl_graph_unlike.l1 k (x3.set (x5 : Int).toNat ((rd_L1 x3 x5) ++ [x27])) x5 x17 x18 x19 x25 x26 (wrap64 (x27 + 1)) x1000 x1001 x1002 x1003 x1004 x1005 x1006) else (none)) else (none)) else (none)) else (impl_graph_unlike.l1 k x3 x5 x17 x18 x19 x25 x26 (wrap64 (x27 + 1)) x1000 x1001 x1002 x1003 x1004 x1005 x1006))) else (none)) else (none)) else (impl_graph_unlike.l0 k x3 x17 x18 (wrap64 (x19 + 1)) x1000 x1001 x1002 x1003 x1004 x1005 x1006)
end
def impl_graph_unlike.f (k : Nat) (a0_0 : Int) (a0_1 : Int) (l0_2 : List Int) (a0_3 : Int) (a0_4 : Int) (l0_5 : List Int) (l0_6 : List (List Int)) : Option ((List (List Int))) := if 0 ≤ (l0_6.length : Int) then (if ((l0_6.length : Int) : Int).toNat ≤ 11728124029610 then (impl_graph_unlike.l0 k (List.replicate ((l0_6.length : Int) : Int).toNat []) l0_5 (l0_5.length : Int) 0 a0_0 a0_1 l0_2 a0_3 a0_4 l0_5 l0_6) else (none)) else (none)
set_option maxHeartbeats 8000000 in
set_option maxRecDepth 100000 in
theorem impl_graph_unlike.calls (k : Nat) (gb0 : Nat) (a0_0 : Int) (a0_1 : Int) (A0_2 : Option Addr) (c0_2 : Nat) (l0_2 : List Int) (a0_3 : Int) (a0_4 : Int) (A0_5 : Option Addr) (c0_5 : Nat) (l0_5 : List Int) (A0_6 : Option Addr) (c0_6 : Nat) (l0_6 : List (List Int)) (r : List (List Int)) (w : World) (hg0 : w.heap[gb0]? = some (.cells #[.int .i64 a0_0, .int .i64 a0_1, .slice A0_2 l0_2.length c0_2, .int .i64 a0_3, .int .i64 a0_4, .slice A0_5 l0_5.length c0_5, .slice A0_6 l0_6.length c0_6] 84 (0, 0))) (hr0_2 : Kd.C (Kd.int .i64) w A0_2 l0_2.length l0_2) (hc0_2 : l0_2.length ≤ c0_2) (hr0_5 : Kd.C (Kd.int .i64) w A0_5 l0_5.length l0_5) (hc0_5 : l0_5.length ≤ c0_5) (hr0_6 : Kd.C (Kd.slice 3 (Kd.int .i64)) w A0_6 l0_6.length l0_6) (hc0_6 : l0_6.length ≤ c0_6) (h : impl_graph_unlike.f k a0_0 a0_1 l0_2 a0_3 a0_4 l0_5 l0_6 = some r) :
  Calls Try.prog 60 #[.pointer (some ⟨gb0, 0, none⟩)] w fun e w' => ∃ v0_ : Value, e = .returned (v0_) ∧ Kd.S (Kd.slice 3 (Kd.int .i64)) 22 w' w.heap.size (fun _ => True) v0_ r ∧ Below w.heap.size w w' := by
 have HR0_2 := Aside0.mk hr0_2
 have HC0_2 := Aside0.mk hc0_2
 clear hr0_2 hc0_2
 have HR0_5 := Aside0.mk hr0_5
 have HC0_5 := Aside0.mk hc0_5
 clear hr0_5 hc0_5
 have HR0_6 := Aside0.mk hr0_6
 have HC0_6 := Aside0.mk hc0_6
 clear hr0_6 hc0_6
 have BK0 := Aside0.mk hg0
 clear hg0
 have HB := Aside0.mk (Below.refl w.heap.size w)
 have H : (if 0 ≤ (l0_6.length : Int) then (if ((l0_6.length : Int) : Int).toNat ≤ 11728124029610 then (impl_graph_unlike.l0 k (List.replicate ((l0_6.length : Int) : Int).toNat []) l0_5 (l0_5.length : Int) 0 a0_0 a0_1 l0_2 a0_3 a0_4 l0_5 l0_6) else (none)) else (none)) = some r := h
 clear h
 by_cases c2 : 0 ≤ (l0_6.length : Int)
 rotate_left
 ·rw [if_neg c2] at H
  exact absurd H (by simp)
 rw [if_pos c2] at H
 have c2b0 := eq_true c2
 have c2b1 : decide (0 ≤ (l0_6.length : Int)) = true := decide_eq_true c2
 clear c2
 by_cases c3 : ((l0_6.length : Int) : Int).toNat ≤ 11728124029610
 rotate_left
 ·rw [if_neg c3] at H
  exact absurd H (by simp)
 rw [if_pos c3] at H
 have c3b0 := eq_true c3
 have c3b1 : decide (((l0_6.length : Int) : Int).toNat ≤ 11728124029610) = true := decide_eq_true c3
 clear c3
 obtain ⟨y725, hy725⟩ : ∃ y_ : List (List Int), y_ = (List.replicate ((l0_6.length : Int) : Int).toNat []) := ⟨_, rfl⟩
 replace H : (impl_graph_unlike.l0 k y725 l0_5 (l0_5.length : Int) 0 a0_0 a0_1 l0_2 a0_3 a0_4 l0_5 l0_6) = some r := by first | (rw [hy725]; with_reducible exact H) | (have H2_ := (Option.bind_some _ _).symm.trans H; rw [hy725]; with_reducible exact H2_) | (have H2_ := (Option.bind_some _ _).symm.trans H; with_reducible exact H2_) | with_reducible exact H | (rw [hy725]; exact H) | exact H
 have Ny725 := Aside0.mk hy725
 clear hy725
 have H' := Aside0.mk H
 clear H
 have hcz4_0 : w.cell? ⟨gb0, 0, none⟩ = some (.int .i64 a0_0) := (blk_cell BK0.out 0).trans rfl
 have hcz4_1 : w.cell? ⟨gb0, 1, none⟩ = some (.int .i64 a0_1) := (blk_cell BK0.out 1).trans rfl
 have hcz4_2 : w.cell? ⟨gb0, 2, none⟩ = some (.slice A0_2 l0_2.length c0_2) := (blk_cell BK0.out 2).trans rfl
 have hcz4_3 : w.cell? ⟨gb0, 3, none⟩ = some (.int .i64 a0_3) := (blk_cell BK0.out 3).trans rfl
 have hcz4_4 : w.cell? ⟨gb0, 4, none⟩ = some (.int .i64 a0_4) := (blk_cell BK0.out 4).trans rfl
 have hcz4_5 : w.cell? ⟨gb0, 5, none⟩ = some (.slice A0_5 l0_5.length c0_5) := (blk_cell BK0.out 5).trans rfl
 have hcz4_6 : w.cell? ⟨gb0, 6, none⟩ = some (.slice A0_6 l0_6.length c0_6) := (blk_cell BK0.out 6).trans rfl
 have hfz4_0 := blk_frozen BK0.out 0
 have hfz4_1 := blk_frozen BK0.out 1
 have hfz4_2 := blk_frozen BK0.out 2
 have hfz4_3 := blk_frozen BK0.out 3
 have hfz4_4 := blk_frozen BK0.out 4
 have hfz4_5 := blk_frozen BK0.out 5
 have hfz4_6 := blk_frozen BK0.out 6
 go_enter Try.func60, Try.ntmps60
 go_wp2_with (first | ((with_reducible refine gate_dst (N := 13) rfl ?_); refine Kd.S_make (Kd.slice 3 (Kd.int .i64)) _ 22 rfl (N := 13) rfl 53 _ _ rfl (l0_6.length : Int) rfl rfl Try.underlying53 (.slice none 0 0) 24 info22 rfl (by decide) (by omega) [] (ok := fun _ => True) (okp := fun _ => True) ⟨_, rfl, Kd.R_nil _ _ _ _ _⟩ (fun _ hk => hk) trivial (of_decide_eq_true zae8) (Nat.le_trans (Nat.mul_le_mul_right _ (of_decide_eq_true zae8 : (l0_6.length : Int).toNat ≤ 11728124029610)) (by omega)) (Below.refl _ _) (Nat.le_refl _) ?_; intro v726 w5 ho6 hb hg_ hnew_; clear hg_ hnew_; (first | rw [← Ny725.out] at ho6 | (simp only [Int.reduceToNat] at ho6; rw [← Ny725.out] at ho6)); have n0_ := Aside0.mk (Kd.S_lower ho6 (below_size zae11)); have n1_ := Aside0.mk (blk_below (g := gb0) (o := .cells #[.int .i64 a0_0, .int .i64 a0_1, .slice A0_2 l0_2.length c0_2, .int .i64 a0_3, .int .i64 a0_4, .slice A0_5 l0_5.length c0_5, .slice A0_6 l0_6.length c0_6] 84 (0, 0)) zae16 hb); have n2_ := Aside0.mk (below_step zae11 hb); clear BK0; clear HB; have HO727 := n0_; have BK0 := n1_; have HB := n2_; clear n0_ n1_ n2_; clear hb ho6; have hcz7_0 : w5.cell? ⟨gb0, 0, none⟩ = some (.int .i64 a0_0) := (blk_cell BK0.out 0).trans rfl; have hcz7_1 : w5.cell? ⟨gb0, 1, none⟩ = some (.int .i64 a0_1) := (blk_cell BK0.out 1).trans rfl; have hcz7_2 : w5.cell? ⟨gb0, 2, none⟩ = some (.slice A0_2 l0_2.length c0_2) := (blk_cell BK0.out 2).trans rfl; have hcz7_3 : w5.cell? ⟨gb0, 3, none⟩ = some (.int .i64 a0_3) := (blk_cell BK0.out 3).trans rfl; have hcz7_4 : w5.cell? ⟨gb0, 4, none⟩ = some (.int .i64 a0_4) := (blk_cell BK0.out 4).trans rfl; have hcz7_5 : w5.cell? ⟨gb0, 5, none⟩ = some (.slice A0_5 l0_5.length c0_5) := (blk_cell BK0.out 5).trans rfl; have hcz7_6 : w5.cell? ⟨gb0, 6, none⟩ = some (.slice A0_6 l0_6.length c0_6) := (blk_cell BK0.out 6).trans rfl; have hfz7_0 := blk_frozen BK0.out 0; have hfz7_1 := blk_frozen BK0.out 1; have hfz7_2 := blk_frozen BK0.out 2; have hfz7_3 := blk_frozen BK0.out 3; have hfz7_4 := blk_frozen BK0.out 4; have hfz7_5 := blk_frozen BK0.out 5; have hfz7_6 := blk_frozen BK0.out 6))
 go_loopg [19] k (fun kq v19 w' => ∃ (x3_1 : List (List Int)) (x19_1 : Int), v19 = .int .i64 x19_1 ∧ Aside0 (impl_graph_unlike.l0 kq x3_1 l0_5 (l0_5.length : Int) x19_1 a0_0 a0_1 l0_2 a0_3 a0_4 l0_5 l0_6 = some r) ∧ Aside0 (kq ≤ k) ∧ Aside0 (Kd.S (Kd.slice 3 (Kd.int .i64)) 22 w' w.heap.size (fun _ => True) v726 x3_1) ∧ Aside0 (w'.heap[gb0]? = some (.cells #[.int .i64 a0_0, .int .i64 a0_1, (.slice A0_2 l0_2.length c0_2), .int .i64 a0_3, .int .i64 a0_4, (.slice A0_5 l0_5.length c0_5), (.slice A0_6 l0_6.length c0_6)] 84 (0, 0))) ∧ Aside0 (Below w.heap.size w w'))
 case atStart => exact ⟨(y725), (0), zae19, H', ⟨Nat.le_refl _⟩, ⟨by first | exact HO727.out | ((with_reducible repeat (first | apply Kd.S_alloc | apply Kd.S_drewN | apply Kd.S_drew)); exact HO727.out)⟩, ⟨zae16⟩, ⟨zae11⟩⟩
 case round =>
  clear H'
  try clear c2; try clear c2b0; try clear c2b1; try clear p2; try clear c3; try clear c3b0; try clear c3b1; try clear c6; try clear hcz4_0; try clear hcz4_1; try clear hcz4_2; try clear hcz4_3; try clear hcz4_4; try clear hcz4_5; try clear hcz4_6; try clear hcz7_0; try clear hcz7_1; try clear hcz7_2; try clear hcz7_3; try clear hcz7_4; try clear hcz7_5; try clear hcz7_6; try clear hfz4_0; try clear hfz4_1; try clear hfz4_2; try clear hfz4_3; try clear hfz4_4; try clear hfz4_5; try clear hfz4_6; try clear hfz7_0; try clear hfz7_1; try clear hfz7_2; try clear hfz7_3; try clear hfz7_4; try clear hfz7_5
  try clear hfz7_6
  obtain ⟨x3_1, x19_1, rfl, HA, HK1, HO_3, BK0, HB⟩ := hrel
  cases gk with
  | zero => exact absurd HA.out (by simp [impl_graph_unlike.l0])
  | succ k1 =>
   have H := HA.out
   clear HA
   simp only [impl_graph_unlike.l0] at H
   by_cases c8 : x19_1 < (l0_5.length : Int)
   rotate_left
   ·rw [if_neg c8] at H
    have c8b0 : decide (x19_1 < (l0_5.length : Int)) = false := decide_eq_false c8
    clear c8
    obtain rfl := Option.some.inj H
    go_wp2
    go_ret
    exact ⟨_, zae20, zae18, zae11⟩
   rw [if_pos c8] at H
   have c8b0 : decide (x19_1 < (l0_5.length : Int)) = true := decide_eq_true c8
   clear c8
   by_cases c9 : 0 ≤ x19_1
   rotate_left
   ·rw [if_neg c9] at H
    exact absurd H (by simp)
   rw [if_pos c9] at H
   have c9b0 : decide (0 ≤ x19_1) = true := decide_eq_true c9
   clear c9
   by_cases c10 : x19_1 < (l0_5.length : Int)
   rotate_left
   ·rw [if_neg c10] at H
    exact absurd H (by simp)
   rw [if_pos c10] at H
   have c10b0 : decide (x19_1 < (l0_5.length : Int)) = true := decide_eq_true c10
   clear c10
   replace H := Option.bind_eq_some_iff.mp H
   obtain ⟨t729, A110, H⟩ := H
   replace H : (impl_graph_unlike.l1 k1 x3_1 (rd l0_5 x19_1) l0_5 (l0_5.length : Int) x19_1 t729 (t729.length : Int) 0 a0_0 a0_1 l0_2 a0_3 a0_4 l0_5 l0_6) = some r := H
   have A11 := Aside0.mk A110
   clear A110
   have H' := Aside0.mk H
   clear H
   have p728 : 0 ≤ (x19_1 : Int) := of_decide_eq_true zae8
   have q728 : x19_1 < (l0_5.length : Int) := of_decide_eq_true zae8
   obtain ⟨ad728, e728, hx728_0⟩ := Kd.at_int HR0_5.out x19_1 p728 q728
   cases e728
   (first | replace hx728_0 := (HB.out.cell (World.block_lt_of_cell? w _ hx728_0)).trans hx728_0 | skip)
   replace p728 := eq_true p728
   replace q728 := eq_true q728
   go_wp2_with (first | ((with_reducible refine gate_callee (f := 71) rfl ?_); refine goesL_ (some 25) rfl rfl Try.func71 (by kernel_rfl) rfl #[.pointer (some ⟨gb0, 0, none⟩), .int .i64 (rd l0_5 x19_1)] rfl (by (try simp only [List.map_toArray, List.map_cons, List.map_nil]); first | done | rfl | (simp only [List.length_drop, List.length_take]; rfl)) ?_; (with_reducible refine (impl_graph_far.calls k1 gb0 a0_0 a0_1 A0_2 c0_2 l0_2 a0_3 a0_4 (some ad728) c0_5 l0_5 A0_6 c0_6 l0_6 (rd l0_5 x19_1) t729 _ ?side1 ?side2 ?side3 ?side4 ?side5 ?side6 ?side7 A11.out).mono ?_); (case side1 => exact zae16); (case side2 => exact zae5); (case side3 => exact HC0_2.out); (case side4 => repeat (first | exact (Kd.C_below HR0_5.out HB.out) | (with_reducible refine Kd.C_alloc ?_ _) | (with_reducible refine Kd.C_drewN ?_ _) | (with_reducible refine Kd.C_drew ?_))); (case side5 => exact HC0_5.out); (case side6 => repeat (first | exact (Kd.C_below HR0_6.out HB.out) | (with_reducible refine Kd.C_alloc ?_ _) | (with_reducible refine Kd.C_drewN ?_ _) | (with_reducible refine Kd.C_drew ?_))); (case side7 => exact HC0_6.out); rintro e w12 ⟨v730, rfl, ho0, hb⟩; refine ⟨_, rfl, ?_⟩; have n0_ := Aside0.mk (Kd.S_elder' zae18 (Kd.R_base ho0) hb); have n1_ := Aside0.mk (Kd.R_lower ho0 (below_size zae11)); have n2_ := Aside0.mk (blk_below (g := gb0) (o := .cells #[.int .i64 a0_0, .int .i64 a0_1, .slice A0_2 l0_2.length c0_2, .int .i64 a0_3, .int .i64 a0_4, .slice (some ad728) l0_5.length c0_5, .slice A0_6 l0_6.length c0_6] 84 (0, 0)) zae16 hb); have n3_ := Aside0.mk (below_step zae11 hb); clear HO_3; clear BK0; clear HB; have HO_3 := n0_; have HO731 := n1_; have BK0 := n2_; have HB := n3_; clear n0_ n1_ n2_ n3_; (try clear hb); (try clear hb2); (try clear hk); (try clear hi); (try clear ho0); (try clear hna_); (try clear hnb_); obtain ⟨Ao13, co13, eo13⟩ := Kd.R_slice HO731.out; subst eo13))
   go_loopg [27] k1 (fun kq v27 w' => ∃ (x3_2 : List (List Int)) (x27_2 : Int), v27 = .int .i64 x27_2 ∧ Aside0 (impl_graph_unlike.l1 kq x3_2 (rd l0_5 x19_1) l0_5 (l0_5.length : Int) x19_1 t729 (t729.length : Int) x27_2 a0_0 a0_1 l0_2 a0_3 a0_4 l0_5 l0_6 = some r) ∧ Aside0 (kq ≤ k1) ∧ Aside0 (Kd.S (Kd.slice 3 (Kd.int .i64)) 22 w' w.heap.size (fun k_ => some k_ ≠ ((.slice Ao13 t729.length co13) : Value).ownBlock) v726 x3_2) ∧ Aside0 (Kd.R (Kd.int .i64) 3 w' w.heap.size (fun _ => True) (.slice Ao13 t729.length co13) t729) ∧ Aside0 (w'.heap[gb0]? = some (.cells #[.int .i64 a0_0, .int .i64 a0_1, (.slice A0_2 l0_2.length c0_2), .int .i64 a0_3, .int .i64 a0_4, (.slice (some ad728) l0_5.length c0_5), (.slice A0_6 l0_6.length c0_6)] 84 (0, 0))) ∧ Aside0 (Below w.heap.size w w'))
   case atStart => exact ⟨(x3_1), (0), zae19, H', ⟨Nat.le_refl _⟩, ⟨by (with_reducible repeat (first | apply Kd.S_alloc | apply Kd.S_drewN | apply Kd.S_drew)); exact Kd.S_mono HO_3.out (fun _ hk => hk.2)⟩, ⟨by first | exact HO731.out | ((with_reducible repeat (first | apply Kd.R_alloc | apply Kd.R_drewN | apply Kd.R_drew)); exact HO731.out)⟩, ⟨zae16⟩, ⟨zae11⟩⟩
   case round =>
    clear H'
    try clear c1; try clear c2; try clear c2b0; try clear c2b1; try clear p2; try clear c3; try clear c3b0; try clear c3b1; try clear c6; try clear c7; try clear p7; try clear q7; try clear hx7; try clear c8; try clear c8b0; try clear c9; try clear c9b0; try clear c10; try clear c10b0; try clear hcz4_0; try clear hcz4_1; try clear hcz4_2; try clear hcz4_3; try clear hcz4_4; try clear hcz4_5; try clear hcz4_6; try clear hcz7_0; try clear hcz7_1; try clear hcz7_2; try clear hcz7_3; try clear hcz7_4; try clear hcz7_5; try clear hcz7_6; try clear hfz4_0; try clear hfz4_1; try clear hfz4_2; try clear hfz4_3
    try clear hfz4_4; try clear hfz4_5; try clear hfz4_6; try clear hfz7_0; try clear hfz7_1; try clear hfz7_2; try clear hfz7_3; try clear hfz7_4; try clear hfz7_5; try clear hfz7_6; try clear hx728_0; try clear p2; try clear p728; try clear q728
    obtain ⟨x3_2, x27_2, rfl, HA, HK2, HO_3, HO_25, BK0, HB⟩ := hrel
    cases gk with
    | zero => exact absurd HA.out (by simp [impl_graph_unlike.l1])
    | succ k2 =>
     have H := HA.out
     clear HA
     simp only [impl_graph_unlike.l1] at H
     by_cases c14 : x27_2 < (t729.length : Int)
     rotate_left
     ·rw [if_neg c14] at H
      have c14b0 : decide (x27_2 < (t729.length : Int)) = false := decide_eq_false c14
      clear c14
      have H' := Aside0.mk H
      clear H
      go_wp2
      go_roundg k2
      case measure => have := HK1.out; have := HK2.out; omega
      case rel => exact ⟨(x3_2), (wrap64 (x19_1 + 1)), zae19, H', ⟨zae25⟩, ⟨by (with_reducible repeat (first | apply Kd.S_alloc | apply Kd.S_drewN | apply Kd.S_drew)); exact Kd.S_mono HO_3.out (fun _ hk => trivial)⟩, ⟨zae16⟩, ⟨zae11⟩⟩
     rw [if_pos c14] at H
     have c14b0 : decide (x27_2 < (t729.length : Int)) = true := decide_eq_true c14
     clear c14
     by_cases c15 : 0 ≤ x27_2
     rotate_left
     ·rw [if_neg c15] at H
      exact absurd H (by simp)
     rw [if_pos c15] at H
     have c15b0 : decide (0 ≤ x27_2) = true := decide_eq_true c15
     clear c15
     by_cases c16 : x27_2 < (t729.length : Int)
     rotate_left
     ·rw [if_neg c16] at H
      exact absurd H (by simp)
     rw [if_pos c16] at H
     have c16b0 : decide (x27_2 < (t729.length : Int)) = true := decide_eq_true c16
     clear c16
     by_cases c17 : (rd t729 x27_2) = 1
     ·rw [if_pos c17] at H
      have c17b0 : ((rd t729 x27_2) == 1) = true := beq_iff_eq.mpr c17
      have c17b1 : ((rd t729 x27_2) != 1) = false := bne_eq_false_iff_eq.mpr c17
      clear c17
      by_cases c18 : 0 ≤ (rd l0_5 x19_1)
      rotate_left
      ·rw [if_neg c18] at H
       exact absurd H (by simp)
      rw [if_pos c18] at H
      have c18b0 : decide (0 ≤ (rd l0_5 x19_1)) = true := decide_eq_true c18
      clear c18
      by_cases c19 : (rd l0_5 x19_1) < (x3_2.length : Int)
      rotate_left
      ·rw [if_neg c19] at H
       exact absurd H (by simp)
      rw [if_pos c19] at H
      have c19b0 : decide ((rd l0_5 x19_1) < (x3_2.length : Int)) = true := decide_eq_true c19
      clear c19
      by_cases c20 : (rd_L1 x3_2 (rd l0_5 x19_1)).length < 17592186044416
      rotate_left
      ·rw [if_neg c20] at H
       exact absurd H (by simp)
      rw [if_pos c20] at H
      have LMc20 := Aside0.mk c20
      clear c20
      obtain ⟨y734, hy734⟩ : ∃ y_ : List Int, y_ = ((rd_L1 x3_2 (rd l0_5 x19_1)) ++ [x27_2]) := ⟨_, rfl⟩
      replace H : (impl_graph_unlike.l1 k2 (x3_2.set ((rd l0_5 x19_1) : Int).toNat y734) (rd l0_5 x19_1) l0_5 (l0_5.length : Int) x19_1 t729 (t729.length : Int) (wrap64 (x27_2 + 1)) a0_0 a0_1 l0_2 a0_3 a0_4 l0_5 l0_6) = some r := by first | (rw [hy734]; with_reducible exact H) | (have H2_ := (Option.bind_some _ _).symm.trans H; rw [hy734]; with_reducible exact H2_) | (have H2_ := (Option.bind_some _ _).symm.trans H; with_reducible exact H2_) | with_reducible exact H | (rw [hy734]; exact H) | exact H
      have Ny734 := Aside0.mk hy734
      clear hy734
      obtain ⟨y737, hy737⟩ : ∃ y_ : List (List Int), y_ = (x3_2.set ((rd l0_5 x19_1) : Int).toNat y734) := ⟨_, rfl⟩
      replace H : (impl_graph_unlike.l1 k2 y737 (rd l0_5 x19_1) l0_5 (l0_5.length : Int) x19_1 t729 (t729.length : Int) (wrap64 (x27_2 + 1)) a0_0 a0_1 l0_2 a0_3 a0_4 l0_5 l0_6) = some r := by first | (rw [hy737]; with_reducible exact H) | (have H2_ := (Option.bind_some _ _).symm.trans H; rw [hy737]; with_reducible exact H2_) | (have H2_ := (Option.bind_some _ _).symm.trans H; with_reducible exact H2_) | with_reducible exact H | (rw [hy737]; exact H) | exact H
      have Ny737 := Aside0.mk hy737
      clear hy737
      have H' := Aside0.mk H
      clear H
      have p732 : 0 ≤ (x27_2 : Int) := of_decide_eq_true zae8
      have q732 : x27_2 < (t729.length : Int) := of_decide_eq_true zae8
      obtain ⟨ad732, e732, hx732_0⟩ := Kd.at_int (Kd.R_reads' HO_25.out).2.2 x27_2 p732 q732
      cases e732
      replace p732 := eq_true p732
      replace q732 := eq_true q732
      obtain ⟨Ao22, co22, eo22⟩ := Kd.S_slice HO_3.out
      subst eo22
      have p733 : 0 ≤ ((rd l0_5 x19_1) : Int) := of_decide_eq_true zae8
      have q733 : (rd l0_5 x19_1) < (x3_2.length : Int) := of_decide_eq_true zae8
      obtain ⟨ad733, A733_0, c733_0, e733, hx733_0, hl733_0, hi733_0⟩ := at_L1 (Kd.S_reads' HO_3.out).2.2 (rd l0_5 x19_1) p733 q733
      cases e733
      obtain ⟨ce733, hce733, hMe733, hcc733⟩ := Kd.S_get HO_3.out [] (rd l0_5 x19_1) p733 (by first | exact q733 | exact of_decide_eq_true zae8 | (have e_ := (Kd.S_reads' HO_3.out).1; omega))
      obtain ⟨ve733_0, rfl, ge733_0⟩ := hMe733
      have hv733_0 := hcc733 0 _ rfl
      rw [Nat.add_zero, show ((Kd.slice 3 (Kd.int .i64))).sz = 1 from rfl, Nat.mul_one] at hv733_0
      replace hv733_0 := Option.some.inj (hv733_0.symm.trans hx733_0)
      rw [hv733_0] at ge733_0
      have HL733_0 := Aside0.mk (show Kd.R (Kd.int .i64) 3 _ _ _ _ (rd_L1 x3_2 (rd l0_5 x19_1)) from ge733_0)
      clear hv733_0 ge733_0
      have HX733_0 := Aside0.mk hx733_0
      clear hcc733 hce733
      have HR733_0 := Aside0.mk hi733_0
      have HC733_0 := Aside0.mk hl733_0
      clear hi733_0 hl733_0
      replace p733 := eq_true p733
      replace q733 := eq_true q733
      obtain ⟨go23, co23, eo23, gb23, gl23, cl23, HG23⟩ := Kd.S_form HO_3.out (by have h_ : ((rd l0_5 x19_1) : Int) < ((x3_2.length : Int) : Int) := of_decide_eq_true zae8; have h2_ : 0 ≤ ((rd l0_5 x19_1) : Int) := (of_decide_eq_true zae8); omega)
      (first | cases eo23 | (injection eo23 with ea_ en_ ec_; (first | subst ea_ | (injection ea_ with ea_; subst ea_)); subst ec_; clear en_))
      have GB23 := Aside0.mk gb23
      have GG23 := Aside0.mk HG23
      clear gb23 gl23 HG23
      (try simp only [add_plain] at *)
      (first | simp only [add_plain] at hx733_0 | skip)
      obtain ⟨oki23, ce23, hcl23, hM23, hcc23, _, _, hH23⟩ := Kd.S_elem HO_3.out [] ((rd l0_5 x19_1) : Int) (of_decide_eq_true zae8) (by have h_ : ((rd l0_5 x19_1) : Int) < ((x3_2.length : Int) : Int) := of_decide_eq_true zae8; first | exact h_ | (have e_ := (Kd.S_reads' HO_3.out).1; omega) | simpa using h_)
      obtain ⟨ve23_0, rfl, ge23_0⟩ := hM23
      have hv23 := hcc23 0 _ rfl
      have hX23 := HX733_0.out
      (try simp only [add_plain] at hX23)
      (try simp only [Nat.add_zero] at hv23)
      (try rw [show ((Kd.slice 3 (Kd.int .i64))).sz = 1 from rfl, Nat.mul_one] at hv23)
      replace hv23 := Option.some.inj (hv23.symm.trans hX23)
      subst hv23
      clear hX23 hcc23 hcl23
      have UU23 := Aside0.mk (show Kd.R (Kd.int .i64) 3 _ w.heap.size oki23 (.slice A733_0 (rd_L1 x3_2 (rd l0_5 x19_1)).length c733_0) (rd_L1 x3_2 (rd l0_5 x19_1)) from ge23_0)
      have HH23 := Aside0.mk hH23
      have HN23 := Aside0.mk (Kd.S_reads' HO_3.out).1
      clear hH23 ge23_0
      go_wp2_with (first | ((with_reducible refine gate_builtin (b := .append) (xs := #[.tmp 43, .tmp 45]) rfl ?_); at_builtin; refine Kd.R_append (Kd.int .i64) (w0 := w) w.heap.size rfl (.tmp 43) (.tmp 45) 22 3 (.int .i64 0) 8 rfl Try.underlying22 info3 rfl (by decide) (by omega) (.slice A733_0 (rd_L1 x3_2 (rd l0_5 x19_1)).length c733_0) (rd_L1 x3_2 (rd l0_5 x19_1)) x27_2 [.int .i64 x27_2] (fun k_ => oki23 k_ ∨ ((fun k_ => some k_ ≠ (.slice (some ad732) t729.length co13 : Value).ownBlock)) k_ ∧ wr.heap.size ≤ k_) (fun _ => False) rfl rfl ?aP (fun _ hk => hk.elim) ?aF ?aO ?aB ?aS ?aL ?_; (case aP => exact rfl); (case aB => exact zae11); (case aF => exact (fun k_ hk => .inr ⟨Kd.fresh' (Kd.R_lt zae17) k_ hk, hk⟩)); (case aO => exact (by (with_reducible repeat (first | apply Kd.R_alloc | apply Kd.R_drewN | apply Kd.R_drew)); exact Kd.R_mono UU23.out (fun _ hk => .inl hk))); (case aS => exact (below_size zae11)); (case aL => have := LMc20.out; omega); intro v735 w24 ho hb hg hat; rw [← Ny734.out] at ho; have n0_ := Aside0.mk (Kd.R_grown2 zae17 rfl hg (fun k_ e_ => (HL733_0.out.1 k_ e_).1)); have n1_ := Aside0.mk (blk_grown (g := gb0) (o := .cells #[.int .i64 a0_0, .int .i64 a0_1, .slice A0_2 l0_2.length c0_2, .int .i64 a0_3, .int .i64 a0_4, .slice (some ad728) l0_5.length c0_5, .slice A0_6 l0_6.length c0_6] 84 (0, 0)) zae16 hg (Kd.R_ne HL733_0.out BK0.out (by decide))); have n2_ := Aside0.mk (hb); have n3_ := Aside0.mk (Kd.H_grown (Kd.H_widen (by repeat (first | exact HH23.out | refine Kd.H_alloc ?_ _ | refine Kd.H_drewN ?_ _ | refine Kd.H_drew ?_))) hg (fun k_ e_ => .inl (UU23.out.1 k_ e_))); have n4_ := Aside0.mk (ho); clear HO_25; clear BK0; clear HB; clear HH23; clear HO_3; clear UU23; clear HL733_0; have HO_25 := n0_; have BK0 := n1_; have HB := n2_; have HH23 := n3_; have HO736 := n4_; clear n0_ n1_ n2_ n3_ n4_; clear ho hb hg hat; have p21 : 0 ≤ ((rd l0_5 x19_1) : Int) := of_decide_eq_true zae8; have q21 : ((rd l0_5 x19_1) : Int) < ((x3_2.length : Int) : Int) := of_decide_eq_true zae8; replace p21 := eq_true p21; replace q21 := eq_true q21; obtain ⟨Ao27, co27, eo27⟩ := Kd.R_slice HO736.out; subst eo27; obtain ⟨_, _, hraw25, _, _, hcc25, _⟩ := Kd.H_raw HH23.out (of_decide_eq_true zae8) (by have h_ : ((rd l0_5 x19_1) : Int) < ((x3_2.length : Int) : Int) := of_decide_eq_true zae8; first | exact h_ | (have e_ := (HN23.out); omega) | simpa using h_); obtain ⟨_, hfr25⟩ := Kd.H_at HH23.out (of_decide_eq_true zae8) (by have h_ : ((rd l0_5 x19_1) : Int) < ((x3_2.length : Int) : Int) := of_decide_eq_true zae8; first | exact h_ | (have e_ := (HN23.out); omega) | simpa using h_); have hx25_0 := hcc25 0 _ rfl; have hf25_0 := hfr25 0; (try simp only [Nat.add_zero] at hx25_0 hf25_0); (try rw [show ((Kd.slice 3 (Kd.int .i64))).sz = 1 from rfl, Nat.mul_one] at hx25_0); (try rw [show ((Kd.slice 3 (Kd.int .i64))).sz = 1 from rfl, Nat.mul_one] at hf25_0); have HP25 := Kd.S_seg0 HH23.out (of_decide_eq_true zae8) (by have h_ : ((rd l0_5 x19_1) : Int) < ((x3_2.length : Int) : Int) := of_decide_eq_true zae8; first | exact h_ | (have e_ := (HN23.out); omega) | simpa using h_) (seg := [.slice Ao27 y734.length co27]) (j := 0) (show 1 ≤ 1 from by decide) (x' := y734) (Kd.M_row HO736.out) (fun _ hk => hk); (try simp only [show ((Kd.slice 3 (Kd.int .i64))).sz = 1 from rfl, Nat.mul_one, Nat.add_zero] at HP25); clear hcc25 hfr25) | ((with_reducible refine gate_store (t := 22) (p := 47) rfl ?_); refine store_event (t := 22) (p := 47) (v := ?vo_w26) (w1 := (w24.setCell ⟨go23, ((rd l0_5 x19_1) : Int).toNat, none⟩ (.slice Ao27 y734.length co27))) ?hg ?ho ?hn ?hr ?_; (case ho => rfl); (case hg => rfl); (case hn => rfl); (case hr => first | (go_simp; done) | (go_simp; rfl)); intro w26 hw; have hg : w24.grownBy w26 (some go23) := (by rw [hw]; exact HP25.2); have hp_ : Kd.S (Kd.slice 3 (Kd.int .i64)) 22 w26 w.heap.size (fun k_ => some k_ ≠ (.slice (some ad732) t729.length co13 : Value).ownBlock) (.slice (some ⟨go23, 0, none⟩) x3_2.length co22) y737 := (by rw [hw, Ny737.out]; exact HP25.1); clear HP25; have n0_ := Aside0.mk (Kd.R_over' (v := (.slice (some ⟨go23, 0, none⟩) x3_2.length co22)) zae17 (Kd.R_typed hraw25) (by decide) hg); have n1_ := Aside0.mk (blk_grown (g := gb0) (o := .cells #[.int .i64 a0_0, .int .i64 a0_1, .slice A0_2 l0_2.length c0_2, .int .i64 a0_3, .int .i64 a0_4, .slice (some ad728) l0_5.length c0_5, .slice A0_6 l0_6.length c0_6] 84 (0, 0)) zae16 hg (Kd.R_ne hraw25 BK0.out (by decide))); have n2_ := Aside0.mk ((by rw [hw]; exact below_set HB.out GB23.out : Below w.heap.size w w26)); have n3_ := Aside0.mk (hp_); clear HO_25; clear BK0; clear HB; clear HO736; clear HH23; have HO_25 := n0_; have BK0 := n1_; have HB := n2_; have HO_3 := n3_; clear n0_ n1_ n2_ n3_; clear hg hw hp_ hraw25))
      go_roundg k2
      case measure => have := HK1.out; have := HK2.out; omega
      case rel => exact ⟨(y737), (wrap64 (x27_2 + 1)), zae19, H', ⟨zae25⟩, ⟨zae18⟩, ⟨zae17⟩, ⟨zae16⟩, ⟨zae11⟩⟩
     rw [if_neg c17] at H
     have c17b0 : ((rd t729 x27_2) == 1) = false := beq_eq_false_iff_ne.mpr c17
     have c17b1 : ((rd t729 x27_2) != 1) = true := bne_iff_ne.mpr c17
     by_cases c28 : (rd t729 x27_2) = 2
     rotate_left
     ·rw [if_neg c28] at H
      have c28b0 : ((rd t729 x27_2) == 2) = false := beq_eq_false_iff_ne.mpr c28
      have c28b1 : ((rd t729 x27_2) != 2) = true := bne_iff_ne.mpr c28
      have H' := Aside0.mk H
      clear H
      have p732 : 0 ≤ (x27_2 : Int) := of_decide_eq_true zae8
      have q732 : x27_2 < (t729.length : Int) := of_decide_eq_true zae8
      obtain ⟨ad732, e732, hx732_0⟩ := Kd.at_int (Kd.R_reads' HO_25.out).2.2 x27_2 p732 q732
      cases e732
      replace p732 := eq_true p732
      replace q732 := eq_true q732
      go_wp2
      go_roundg k2
      case measure => have := HK1.out; have := HK2.out; omega
      case rel => exact ⟨(x3_2), (wrap64 (x27_2 + 1)), zae19, H', ⟨zae25⟩, ⟨zae18⟩, ⟨zae17⟩, ⟨zae16⟩, ⟨zae11⟩⟩
     rw [if_pos c28] at H
     have c28b0 : ((rd t729 x27_2) == 2) = true := beq_iff_eq.mpr c28
     have c28b1 : ((rd t729 x27_2) != 2) = false := bne_eq_false_iff_eq.mpr c28
     clear c28
     by_cases c29 : 0 ≤ (rd l0_5 x19_1)
     rotate_left
     ·rw [if_neg c29] at H
      exact absurd H (by simp)
     rw [if_pos c29] at H
     have c29b0 : decide (0 ≤ (rd l0_5 x19_1)) = true := decide_eq_true c29
     clear c29
     by_cases c30 : (rd l0_5 x19_1) < (x3_2.length : Int)
     rotate_left
     ·rw [if_neg c30] at H
      exact absurd H (by simp)
     rw [if_pos c30] at H
     have c30b0 : decide ((rd l0_5 x19_1) < (x3_2.length : Int)) = true := decide_eq_true c30
     clear c30
     by_cases c31 : (rd_L1 x3_2 (rd l0_5 x19_1)).length < 17592186044416
     rotate_left
     ·rw [if_neg c31] at H
      exact absurd H (by simp)
     rw [if_pos c31] at H
     have LMc31 := Aside0.mk c31
     clear c31
     obtain ⟨y739, hy739⟩ : ∃ y_ : List Int, y_ = ((rd_L1 x3_2 (rd l0_5 x19_1)) ++ [x27_2]) := ⟨_, rfl⟩
     replace H : (impl_graph_unlike.l1 k2 (x3_2.set ((rd l0_5 x19_1) : Int).toNat y739) (rd l0_5 x19_1) l0_5 (l0_5.length : Int) x19_1 t729 (t729.length : Int) (wrap64 (x27_2 + 1)) a0_0 a0_1 l0_2 a0_3 a0_4 l0_5 l0_6) = some r := by first | (rw [hy739]; with_reducible exact H) | (have H2_ := (Option.bind_some _ _).symm.trans H; rw [hy739]; with_reducible exact H2_) | (have H2_ := (Option.bind_some _ _).symm.trans H; with_reducible exact H2_) | with_reducible exact H | (rw [hy739]; exact H) | exact H
     have Ny739 := Aside0.mk hy739
     clear hy739
     obtain ⟨y742, hy742⟩ : ∃ y_ : List (List Int), y_ = (x3_2.set ((rd l0_5 x19_1) : Int).toNat y739) := ⟨_, rfl⟩
     replace H : (impl_graph_unlike.l1 k2 y742 (rd l0_5 x19_1) l0_5 (l0_5.length : Int) x19_1 t729 (t729.length : Int) (wrap64 (x27_2 + 1)) a0_0 a0_1 l0_2 a0_3 a0_4 l0_5 l0_6) = some r := by first | (rw [hy742]; with_reducible exact H) | (have H2_ := (Option.bind_some _ _).symm.trans H; rw [hy742]; with_reducible exact H2_) | (have H2_ := (Option.bind_some _ _).symm.trans H; with_reducible exact H2_) | with_reducible exact H | (rw [hy742]; exact H) | exact H
     have Ny742 := Aside0.mk hy742
     clear hy742
     have H' := Aside0.mk H
     clear H
     have p732 : 0 ≤ (x27_2 : Int) := of_decide_eq_true zae8
     have q732 : x27_2 < (t729.length : Int) := of_decide_eq_true zae8
     obtain ⟨ad732, e732, hx732_0⟩ := Kd.at_int (Kd.R_reads' HO_25.out).2.2 x27_2 p732 q732
     cases e732
     replace p732 := eq_true p732
     replace q732 := eq_true q732
     obtain ⟨Ao33, co33, eo33⟩ := Kd.S_slice HO_3.out
     subst eo33
     have p738 : 0 ≤ ((rd l0_5 x19_1) : Int) := of_decide_eq_true zae8
     have q738 : (rd l0_5 x19_1) < (x3_2.length : Int) := of_decide_eq_true zae8
     obtain ⟨ad738, A738_0, c738_0, e738, hx738_0, hl738_0, hi738_0⟩ := at_L1 (Kd.S_reads' HO_3.out).2.2 (rd l0_5 x19_1) p738 q738
     cases e738
     obtain ⟨ce738, hce738, hMe738, hcc738⟩ := Kd.S_get HO_3.out [] (rd l0_5 x19_1) p738 (by first | exact q738 | exact of_decide_eq_true zae8 | (have e_ := (Kd.S_reads' HO_3.out).1; omega))
     obtain ⟨ve738_0, rfl, ge738_0⟩ := hMe738
     have hv738_0 := hcc738 0 _ rfl
     rw [Nat.add_zero, show ((Kd.slice 3 (Kd.int .i64))).sz = 1 from rfl, Nat.mul_one] at hv738_0
     replace hv738_0 := Option.some.inj (hv738_0.symm.trans hx738_0)
     rw [hv738_0] at ge738_0
     have HL738_0 := Aside0.mk (show Kd.R (Kd.int .i64) 3 _ _ _ _ (rd_L1 x3_2 (rd l0_5 x19_1)) from ge738_0)
     clear hv738_0 ge738_0
     have HX738_0 := Aside0.mk hx738_0
     clear hcc738 hce738
     have HR738_0 := Aside0.mk hi738_0
     have HC738_0 := Aside0.mk hl738_0
     clear hi738_0 hl738_0
     replace p738 := eq_true p738
     replace q738 := eq_true q738
     obtain ⟨go34, co34, eo34, gb34, gl34, cl34, HG34⟩ := Kd.S_form HO_3.out (by have h_ : ((rd l0_5 x19_1) : Int) < ((x3_2.length : Int) : Int) := of_decide_eq_true zae8; have h2_ : 0 ≤ ((rd l0_5 x19_1) : Int) := (of_decide_eq_true zae8); omega)
     (first | cases eo34 | (injection eo34 with ea_ en_ ec_; (first | subst ea_ | (injection ea_ with ea_; subst ea_)); subst ec_; clear en_))
     have GB34 := Aside0.mk gb34
     have GG34 := Aside0.mk HG34
     clear gb34 gl34 HG34
     (try simp only [add_plain] at *)
     (first | simp only [add_plain] at hx738_0 | skip)
     obtain ⟨oki34, ce34, hcl34, hM34, hcc34, _, _, hH34⟩ := Kd.S_elem HO_3.out [] ((rd l0_5 x19_1) : Int) (of_decide_eq_true zae8) (by have h_ : ((rd l0_5 x19_1) : Int) < ((x3_2.length : Int) : Int) := of_decide_eq_true zae8; first | exact h_ | (have e_ := (Kd.S_reads' HO_3.out).1; omega) | simpa using h_)
     obtain ⟨ve34_0, rfl, ge34_0⟩ := hM34
     have hv34 := hcc34 0 _ rfl
     have hX34 := HX738_0.out
     (try simp only [add_plain] at hX34)
     (try simp only [Nat.add_zero] at hv34)
     (try rw [show ((Kd.slice 3 (Kd.int .i64))).sz = 1 from rfl, Nat.mul_one] at hv34)
     replace hv34 := Option.some.inj (hv34.symm.trans hX34)
     subst hv34
     clear hX34 hcc34 hcl34
     have UU34 := Aside0.mk (show Kd.R (Kd.int .i64) 3 _ w.heap.size oki34 (.slice A738_0 (rd_L1 x3_2 (rd l0_5 x19_1)).length c738_0) (rd_L1 x3_2 (rd l0_5 x19_1)) from ge34_0)
     have HH34 := Aside0.mk hH34
     have HN34 := Aside0.mk (Kd.S_reads' HO_3.out).1
     clear hH34 ge34_0
     go_wp2_with (first | ((with_reducible refine gate_builtin (b := .append) (xs := #[.tmp 43, .tmp 45]) rfl ?_); at_builtin; refine Kd.R_append (Kd.int .i64) (w0 := w) w.heap.size rfl (.tmp 43) (.tmp 45) 22 3 (.int .i64 0) 8 rfl Try.underlying22 info3 rfl (by decide) (by omega) (.slice A738_0 (rd_L1 x3_2 (rd l0_5 x19_1)).length c738_0) (rd_L1 x3_2 (rd l0_5 x19_1)) x27_2 [.int .i64 x27_2] (fun k_ => oki34 k_ ∨ ((fun k_ => some k_ ≠ (.slice (some ad732) t729.length co13 : Value).ownBlock)) k_ ∧ wr.heap.size ≤ k_) (fun _ => False) rfl rfl ?aP (fun _ hk => hk.elim) ?aF ?aO ?aB ?aS ?aL ?_; (case aP => exact rfl); (case aB => exact zae11); (case aF => exact (fun k_ hk => .inr ⟨Kd.fresh' (Kd.R_lt zae17) k_ hk, hk⟩)); (case aO => exact (by (with_reducible repeat (first | apply Kd.R_alloc | apply Kd.R_drewN | apply Kd.R_drew)); exact Kd.R_mono UU34.out (fun _ hk => .inl hk))); (case aS => exact (below_size zae11)); (case aL => have := LMc31.out; omega); intro v740 w35 ho hb hg hat; rw [← Ny739.out] at ho; have n0_ := Aside0.mk (Kd.R_grown2 zae17 rfl hg (fun k_ e_ => (HL738_0.out.1 k_ e_).1)); have n1_ := Aside0.mk (blk_grown (g := gb0) (o := .cells #[.int .i64 a0_0, .int .i64 a0_1, .slice A0_2 l0_2.length c0_2, .int .i64 a0_3, .int .i64 a0_4, .slice (some ad728) l0_5.length c0_5, .slice A0_6 l0_6.length c0_6] 84 (0, 0)) zae16 hg (Kd.R_ne HL738_0.out BK0.out (by decide))); have n2_ := Aside0.mk (hb); have n3_ := Aside0.mk (Kd.H_grown (Kd.H_widen (by repeat (first | exact HH34.out | refine Kd.H_alloc ?_ _ | refine Kd.H_drewN ?_ _ | refine Kd.H_drew ?_))) hg (fun k_ e_ => .inl (UU34.out.1 k_ e_))); have n4_ := Aside0.mk (ho); clear HO_25; clear BK0; clear HB; clear HH34; clear HO_3; clear UU34; clear HL738_0; have HO_25 := n0_; have BK0 := n1_; have HB := n2_; have HH34 := n3_; have HO741 := n4_; clear n0_ n1_ n2_ n3_ n4_; clear ho hb hg hat; have p32 : 0 ≤ ((rd l0_5 x19_1) : Int) := of_decide_eq_true zae8; have q32 : ((rd l0_5 x19_1) : Int) < ((x3_2.length : Int) : Int) := of_decide_eq_true zae8; replace p32 := eq_true p32; replace q32 := eq_true q32; obtain ⟨Ao38, co38, eo38⟩ := Kd.R_slice HO741.out; subst eo38; obtain ⟨_, _, hraw36, _, _, hcc36, _⟩ := Kd.H_raw HH34.out (of_decide_eq_true zae8) (by have h_ : ((rd l0_5 x19_1) : Int) < ((x3_2.length : Int) : Int) := of_decide_eq_true zae8; first | exact h_ | (have e_ := (HN34.out); omega) | simpa using h_); obtain ⟨_, hfr36⟩ := Kd.H_at HH34.out (of_decide_eq_true zae8) (by have h_ : ((rd l0_5 x19_1) : Int) < ((x3_2.length : Int) : Int) := of_decide_eq_true zae8; first | exact h_ | (have e_ := (HN34.out); omega) | simpa using h_); have hx36_0 := hcc36 0 _ rfl; have hf36_0 := hfr36 0; (try simp only [Nat.add_zero] at hx36_0 hf36_0); (try rw [show ((Kd.slice 3 (Kd.int .i64))).sz = 1 from rfl, Nat.mul_one] at hx36_0); (try rw [show ((Kd.slice 3 (Kd.int .i64))).sz = 1 from rfl, Nat.mul_one] at hf36_0); have HP36 := Kd.S_seg0 HH34.out (of_decide_eq_true zae8) (by have h_ : ((rd l0_5 x19_1) : Int) < ((x3_2.length : Int) : Int) := of_decide_eq_true zae8; first | exact h_ | (have e_ := (HN34.out); omega) | simpa using h_) (seg := [.slice Ao38 y739.length co38]) (j := 0) (show 1 ≤ 1 from by decide) (x' := y739) (Kd.M_row HO741.out) (fun _ hk => hk); (try simp only [show ((Kd.slice 3 (Kd.int .i64))).sz = 1 from rfl, Nat.mul_one, Nat.add_zero] at HP36); clear hcc36 hfr36) | ((with_reducible refine gate_store (t := 22) (p := 47) rfl ?_); refine store_event (t := 22) (p := 47) (v := ?vo_w37) (w1 := (w35.setCell ⟨go34, ((rd l0_5 x19_1) : Int).toNat, none⟩ (.slice Ao38 y739.length co38))) ?hg ?ho ?hn ?hr ?_; (case ho => rfl); (case hg => rfl); (case hn => rfl); (case hr => first | (go_simp; done) | (go_simp; rfl)); intro w37 hw; have hg : w35.grownBy w37 (some go34) := (by rw [hw]; exact HP36.2); have hp_ : Kd.S (Kd.slice 3 (Kd.int .i64)) 22 w37 w.heap.size (fun k_ => some k_ ≠ (.slice (some ad732) t729.length co13 : Value).ownBlock) (.slice (some ⟨go34, 0, none⟩) x3_2.length co33) y742 := (by rw [hw, Ny742.out]; exact HP36.1); clear HP36; have n0_ := Aside0.mk (Kd.R_over' (v := (.slice (some ⟨go34, 0, none⟩) x3_2.length co33)) zae17 (Kd.R_typed hraw36) (by decide) hg); have n1_ := Aside0.mk (blk_grown (g := gb0) (o := .cells #[.int .i64 a0_0, .int .i64 a0_1, .slice A0_2 l0_2.length c0_2, .int .i64 a0_3, .int .i64 a0_4, .slice (some ad728) l0_5.length c0_5, .slice A0_6 l0_6.length c0_6] 84 (0, 0)) zae16 hg (Kd.R_ne hraw36 BK0.out (by decide))); have n2_ := Aside0.mk ((by rw [hw]; exact below_set HB.out GB34.out : Below w.heap.size w w37)); have n3_ := Aside0.mk (hp_); clear HO_25; clear BK0; clear HB; clear HO741; clear HH34; have HO_25 := n0_; have BK0 := n1_; have HB := n2_; have HO_3 := n3_; clear n0_ n1_ n2_ n3_; clear hg hw hp_ hraw36))
     go_roundg k2
     case measure => have := HK1.out; have := HK2.out; omega
     case rel => exact ⟨(y742), (wrap64 (x27_2 + 1)), zae19, H', ⟨zae25⟩, ⟨zae18⟩, ⟨zae17⟩, ⟨zae16⟩, ⟨zae11⟩⟩

/-! ### impl_IsFarPainting: function 28 -/
mutual
def impl_IsFarPainting.l0 : Nat → List Int → List (List Int) → Int → Int → Option (Bool × Bool)
 | 0, _, _, _, _ => none
 | k + 1, x2, x27, x28, x29 => if x29 < x28 then (if 0 ≤ x29 then (if x29 < (x27.length : Int) then (impl_IsFarPainting.l1 k x2 x29 x27 x28 x29 (rd_L1 x27 x29) ((rd_L1 x27 x29).length : Int) 0) else (none)) else (none)) else (some (true, true))
def impl_IsFarPainting.l1 : Nat → List Int → Int → List (List Int) → Int → Int → List Int → Int → Int → Option (Bool × Bool)
 | 0, _, _, _, _, _, _, _, _ => none
 | k + 1, x2, x10, x27, x28, x29, x34, x35, x36 => if x36 < x35 then (if 0 ≤ x36 then (if x36 < (x34.length : Int) then (if 0 ≤ x10 then (if x10 < (x2.length : Int) then (if 0 ≤ (rd x34 x36) then (if (rd x34 x36) < (x2.length : Int) then (if (rd x2 x10) = (rd x2 (rd x34 x36)) then (some (false, true)) else (impl_IsFarPainting.l1 k x2 x10 x27 x28 x29 x34 x35 (wrap64 (x36 + 1)))) else (none)) else (none)) else (none)) else (none)) else (none)) else (none)) else (impl_IsFarPainting.l0 k x2 x27 x28 (wrap64 (x29 + 1)))
end
def impl_IsFarPainting.f (k : Nat) (a0_0 : Int) (a0_1 : Int) (l0_2 : List Int) (a1_0 : Int) (a1_1 : Int) (l2 : List Int) : Option (Bool × Bool) := (impl_graphOf.f k a0_0 a0_1 l0_2 a1_0 a1_1).bind fun bt745 => (if bt745.2.2 = true then ((impl_graph_isPainting.f k a0_0 a0_1 l0_2 a1_0 a1_1 bt745.1 bt745.2.1 l2).bind fun t754 => (if t754 = true then ((impl_graph_unlike.f k a0_0 a0_1 l0_2 a1_0 a1_1 bt745.1 bt745.2.1).bind fun t755 => (impl_IsFarPainting.l0 k l2 t755 (t755.length : Int) 0)) else (some (false, true)))) else (some (false, false)))
set_option maxHeartbeats 8000000 in
set_option maxRecDepth 100000 in
theorem impl_IsFarPainting.calls (k : Nat) (a0_0 : Int) (a0_1 : Int) (A0_2 : Option Addr) (c0_2 : Nat) (l0_2 : List Int) (a1_0 : Int) (a1_1 : Int) (A2 : Option Addr) (c2 : Nat) (l2 : List Int) (r1 : Bool) (r2 : Bool) (w : World) (hr0_2 : Kd.C (Kd.int .i64) w A0_2 l0_2.length l0_2) (hc0_2 : l0_2.length ≤ c0_2) (hr2 : Kd.C (Kd.int .i64) w A2 l2.length l2) (hc2 : l2.length ≤ c2) (h : impl_IsFarPainting.f k a0_0 a0_1 l0_2 a1_0 a1_1 l2 = some (r1, r2)) :
  Calls Try.prog 28 #[.agg #[.int .i64 a0_0, .int .i64 a0_1, .slice A0_2 l0_2.length c0_2], .agg #[.int .i64 a1_0, .int .i64 a1_1], .slice A2 l2.length c2] w fun e w' => e = .returned (.tuple #[.bool r1, .bool r2]) ∧ Below w.heap.size w w' := by
 have hu30 := Try.underlying30
 have hu32 := Try.underlying32
 have HR0_2 := Aside0.mk hr0_2
 have HC0_2 := Aside0.mk hc0_2
 clear hr0_2 hc0_2
 have HR2 := Aside0.mk hr2
 have HC2 := Aside0.mk hc2
 clear hr2 hc2
 have HB := Aside0.mk (Below.refl w.heap.size w)
 have H : ((impl_graphOf.f k a0_0 a0_1 l0_2 a1_0 a1_1).bind fun bt745 => (if bt745.2.2 = true then ((impl_graph_isPainting.f k a0_0 a0_1 l0_2 a1_0 a1_1 bt745.1 bt745.2.1 l2).bind fun t754 => (if t754 = true then ((impl_graph_unlike.f k a0_0 a0_1 l0_2 a1_0 a1_1 bt745.1 bt745.2.1).bind fun t755 => (impl_IsFarPainting.l0 k l2 t755 (t755.length : Int) 0)) else (some (false, true)))) else (some (false, false)))) = some (r1, r2) := h
 clear h
 replace H := Option.bind_eq_some_iff.mp H
 obtain ⟨⟨t745, t748, t753⟩, A40, H⟩ := H
 replace H : (if t753 = true then ((impl_graph_isPainting.f k a0_0 a0_1 l0_2 a1_0 a1_1 t745 t748 l2).bind fun t754 => (if t754 = true then ((impl_graph_unlike.f k a0_0 a0_1 l0_2 a1_0 a1_1 t745 t748).bind fun t755 => (impl_IsFarPainting.l0 k l2 t755 (t755.length : Int) 0)) else (some (false, true)))) else (some (false, false))) = some (r1, r2) := H
 have A4 := Aside0.mk A40
 clear A40
 by_cases c5 : t753 = true
 rotate_left
 ·replace c5 := Bool.eq_false_iff.mpr c5
  subst c5
  have H1 : (some (false, false)) = some (r1, r2) := by rw [if_neg (show ¬ (false = true) by decide)] at H; exact H
  clear H
  have H := H1
  clear H1
  simp only [Option.some.injEq, Prod.mk.injEq] at H
  obtain ⟨rfl, rfl⟩ := H
  go_enter Try.func28, Try.ntmps28
  go_wp2_with (first | ((with_reducible refine gate_dst (N := 3) rfl ?_); refine box_event ?hg (N := 3) ?hd (cs := #[.int .i64 a0_0, .int .i64 a0_1, .slice A0_2 l0_2.length c0_2]) (t := 30) ?hr ?_; (case hd => rfl); (case hg => rfl); (case hr => first | (go_simp; done) | (go_simp; rfl)); intro gb743 hg w40 hbox hb; have n0_ := Aside0.mk (below_step zae12 hb); have n1_ := Aside0.mk (hbox); have n2_ := Aside0.mk ((zae29 : w.heap.size ≤ gb743)); have n3_ := Aside0.mk ((zae29 : w.heap.size ≤ gb743)); clear HB; have HB := n0_; have BK743 := n1_; have GW743 := n2_; have GE743 := n3_; clear n0_ n1_ n2_ n3_; clear hb hbox hg) | ((with_reducible refine gate_dst (N := 4) rfl ?_); refine box_event ?hg (N := 4) ?hd (cs := #[.int .i64 a1_0, .int .i64 a1_1]) (t := 32) ?hr ?_; (case hd => rfl); (case hg => rfl); (case hr => first | (go_simp; done) | (go_simp; rfl)); intro gb744 hg w41 hbox hb; have n0_ := Aside0.mk (blk_below (g := gb743) (o := .cells #[.int .i64 a0_0, .int .i64 a0_1, .slice A0_2 l0_2.length c0_2] 30 (0, 0)) zae2 hb); have n1_ := Aside0.mk (below_step zae7 hb); have n2_ := Aside0.mk (hbox); have n3_ := Aside0.mk ((zae30 : w.heap.size ≤ gb744)); have n4_ := Aside0.mk ((zae30 : w.heap.size ≤ gb744)); have n5_ := Aside0.mk ((zae26 : gb743 ≠ gb744)); have n6_ := Aside0.mk ((zae27 : gb744 ≠ gb743)); clear BK743; clear HB; have BK743 := n0_; have HB := n1_; have BK744 := n2_; have GW744 := n3_; have GE744 := n4_; have NB743_744 := n5_; have NB744_743 := n6_; clear n0_ n1_ n2_ n3_ n4_ n5_ n6_; clear hb hbox hg; have hnb42 := NB743_744.out; have hnc42 := NB744_743.out; have hcz43_0 : w41.cell? ⟨gb743, 0, none⟩ = some (.int .i64 a0_0) := (blk_cell BK743.out 0).trans rfl; have hcz43_1 : w41.cell? ⟨gb743, 1, none⟩ = some (.int .i64 a0_1) := (blk_cell BK743.out 1).trans rfl; have hcz43_2 : w41.cell? ⟨gb743, 2, none⟩ = some (.slice A0_2 l0_2.length c0_2) := (blk_cell BK743.out 2).trans rfl; have hfz43_0 := blk_frozen BK743.out 0; have hfz43_1 := blk_frozen BK743.out 1; have hfz43_2 := blk_frozen BK743.out 2; have hcz44_0 : w41.cell? ⟨gb744, 0, none⟩ = some (.int .i64 a1_0) := (blk_cell BK744.out 0).trans rfl; have hcz44_1 : w41.cell? ⟨gb744, 1, none⟩ = some (.int .i64 a1_1) := (blk_cell BK744.out 1).trans rfl; have hfz44_0 := blk_frozen BK744.out 0; have hfz44_1 := blk_frozen BK744.out 1) | (go_at_call 58; (with_reducible refine (impl_graphOf.calls k a0_0 a0_1 _ _ l0_2 a1_0 a1_1 t745 t748 false _ ?side1 ?side2 A4.out).mono ?_); (case side1 => exact zae5); (case side2 => exact HC0_2.out); rintro e w45 ⟨v746, v749, pv752, rfl, hgp, ho0, ho1, hb⟩; obtain rfl := hgp.2 rfl; have n0_ := Aside0.mk (Kd.R_lower ho0 (below_size zae1)); have n1_ := Aside0.mk (Kd.S_lower ho1 (below_size zae1)); have n2_ := Aside0.mk (blk_below (g := gb743) (o := .cells #[.int .i64 a0_0, .int .i64 a0_1, .slice A0_2 l0_2.length c0_2] 30 (0, 0)) zae2 hb); have n3_ := Aside0.mk (blk_below (g := gb744) (o := .cells #[.int .i64 a1_0, .int .i64 a1_1] 32 (0, 0)) zae3 hb); have n4_ := Aside0.mk (below_step zae1 hb); clear BK743; clear BK744; clear HB; have HO747 := n0_; have HO750 := n1_; have BK743 := n2_; have BK744 := n3_; have HB := n4_; clear n0_ n1_ n2_ n3_ n4_; (try clear hb); (try clear hb2); (try clear hk); (try clear hi); (try clear ho0); (try clear ho1); (try clear hgp); (try clear hbox); (try clear hge); (try clear hna_); (try clear hnb_)))
  repeat ((first | go_quiet (first | (go_at_call 58; (with_reducible refine (impl_graphOf.calls k a0_0 a0_1 _ _ l0_2 a1_0 a1_1 t745 t748 false _ ?side1 ?side2 A4.out).mono ?_); (case side1 => exact zae5); (case side2 => exact HC0_2.out); rintro e w45 ⟨v746, v749, pv752, rfl, hgp, ho0, ho1, hb⟩; obtain rfl := hgp.2 rfl; have n0_ := Aside0.mk (Kd.R_lower ho0 (below_size zae1)); have n1_ := Aside0.mk (Kd.S_lower ho1 (below_size zae1)); have n2_ := Aside0.mk (blk_below (g := gb743) (o := .cells #[.int .i64 a0_0, .int .i64 a0_1, .slice A0_2 l0_2.length c0_2] 30 (0, 0)) zae2 hb); have n3_ := Aside0.mk (blk_below (g := gb744) (o := .cells #[.int .i64 a1_0, .int .i64 a1_1] 32 (0, 0)) zae3 hb); have n4_ := Aside0.mk (below_step zae1 hb); clear BK743; clear BK744; clear HB; have HO747 := n0_; have HO750 := n1_; have BK743 := n2_; have BK744 := n3_; have HB := n4_; clear n0_ n1_ n2_ n3_ n4_; (try clear hb); (try clear hb2); (try clear hk); (try clear hi); (try clear ho0); (try clear ho1); (try clear hgp); (try clear hbox); (try clear hge); (try clear hna_); (try clear hnb_))) | (refine wp_region_quiet_lit (by kernel_rfl) (by kernel_rfl) ?_; (repeat (any_goals (first | go_big_quiet_step (first | (go_at_call 58; (with_reducible refine (impl_graphOf.calls k a0_0 a0_1 _ _ l0_2 a1_0 a1_1 t745 t748 false _ ?side1 ?side2 A4.out).mono ?_); (case side1 => exact zae5); (case side2 => exact HC0_2.out); rintro e w45 ⟨v746, v749, pv752, rfl, hgp, ho0, ho1, hb⟩; obtain rfl := hgp.2 rfl; have n0_ := Aside0.mk (Kd.R_lower ho0 (below_size zae1)); have n1_ := Aside0.mk (Kd.S_lower ho1 (below_size zae1)); have n2_ := Aside0.mk (blk_below (g := gb743) (o := .cells #[.int .i64 a0_0, .int .i64 a0_1, .slice A0_2 l0_2.length c0_2] 30 (0, 0)) zae2 hb); have n3_ := Aside0.mk (blk_below (g := gb744) (o := .cells #[.int .i64 a1_0, .int .i64 a1_1] 32 (0, 0)) zae3 hb); have n4_ := Aside0.mk (below_step zae1 hb); clear BK743; clear BK744; clear HB; have HO747 := n0_; have HO750 := n1_; have BK743 := n2_; have BK744 := n3_; have HB := n4_; clear n0_ n1_ n2_ n3_ n4_; (try clear hb); (try clear hb2); (try clear hk); (try clear hi); (try clear ho0); (try clear ho1); (try clear hgp); (try clear hbox); (try clear hge); (try clear hna_); (try clear hnb_))) | quiet_step (first | (go_at_call 58; (with_reducible refine (impl_graphOf.calls k a0_0 a0_1 _ _ l0_2 a1_0 a1_1 t745 t748 false _ ?side1 ?side2 A4.out).mono ?_); (case side1 => exact zae5); (case side2 => exact HC0_2.out); rintro e w45 ⟨v746, v749, pv752, rfl, hgp, ho0, ho1, hb⟩; obtain rfl := hgp.2 rfl; have n0_ := Aside0.mk (Kd.R_lower ho0 (below_size zae1)); have n1_ := Aside0.mk (Kd.S_lower ho1 (below_size zae1)); have n2_ := Aside0.mk (blk_below (g := gb743) (o := .cells #[.int .i64 a0_0, .int .i64 a0_1, .slice A0_2 l0_2.length c0_2] 30 (0, 0)) zae2 hb); have n3_ := Aside0.mk (blk_below (g := gb744) (o := .cells #[.int .i64 a1_0, .int .i64 a1_1] 32 (0, 0)) zae3 hb); have n4_ := Aside0.mk (below_step zae1 hb); clear BK743; clear BK744; clear HB; have HO747 := n0_; have HO750 := n1_; have BK743 := n2_; have BK744 := n3_; have HB := n4_; clear n0_ n1_ n2_ n3_ n4_; (try clear hb); (try clear hb2); (try clear hk); (try clear hi); (try clear ho0); (try clear ho1); (try clear hgp); (try clear hbox); (try clear hge); (try clear hna_); (try clear hnb_)))))); all_goals (refine wpQuiet_nil ?_; intro _ hw2_; obtain ⟨nq, hw3_⟩ := hw2_; subst hw3_))); try go_wp2_with (first | ((with_reducible refine gate_dst (N := 3) rfl ?_); refine box_event ?hg (N := 3) ?hd (cs := #[.int .i64 a0_0, .int .i64 a0_1, .slice A0_2 l0_2.length c0_2]) (t := 30) ?hr ?_; (case hd => rfl); (case hg => rfl); (case hr => first | (go_simp; done) | (go_simp; rfl)); intro gb743 hg w40 hbox hb; have n0_ := Aside0.mk (below_step zae12 hb); have n1_ := Aside0.mk (hbox); have n2_ := Aside0.mk ((zae29 : w.heap.size ≤ gb743)); have n3_ := Aside0.mk ((zae29 : w.heap.size ≤ gb743)); clear HB; have HB := n0_; have BK743 := n1_; have GW743 := n2_; have GE743 := n3_; clear n0_ n1_ n2_ n3_; clear hb hbox hg) | ((with_reducible refine gate_dst (N := 4) rfl ?_); refine box_event ?hg (N := 4) ?hd (cs := #[.int .i64 a1_0, .int .i64 a1_1]) (t := 32) ?hr ?_; (case hd => rfl); (case hg => rfl); (case hr => first | (go_simp; done) | (go_simp; rfl)); intro gb744 hg w41 hbox hb; have n0_ := Aside0.mk (blk_below (g := gb743) (o := .cells #[.int .i64 a0_0, .int .i64 a0_1, .slice A0_2 l0_2.length c0_2] 30 (0, 0)) zae2 hb); have n1_ := Aside0.mk (below_step zae7 hb); have n2_ := Aside0.mk (hbox); have n3_ := Aside0.mk ((zae30 : w.heap.size ≤ gb744)); have n4_ := Aside0.mk ((zae30 : w.heap.size ≤ gb744)); have n5_ := Aside0.mk ((zae26 : gb743 ≠ gb744)); have n6_ := Aside0.mk ((zae27 : gb744 ≠ gb743)); clear BK743; clear HB; have BK743 := n0_; have HB := n1_; have BK744 := n2_; have GW744 := n3_; have GE744 := n4_; have NB743_744 := n5_; have NB744_743 := n6_; clear n0_ n1_ n2_ n3_ n4_ n5_ n6_; clear hb hbox hg; have hnb42 := NB743_744.out; have hnc42 := NB744_743.out; have hcz43_0 : w41.cell? ⟨gb743, 0, none⟩ = some (.int .i64 a0_0) := (blk_cell BK743.out 0).trans rfl; have hcz43_1 : w41.cell? ⟨gb743, 1, none⟩ = some (.int .i64 a0_1) := (blk_cell BK743.out 1).trans rfl; have hcz43_2 : w41.cell? ⟨gb743, 2, none⟩ = some (.slice A0_2 l0_2.length c0_2) := (blk_cell BK743.out 2).trans rfl; have hfz43_0 := blk_frozen BK743.out 0; have hfz43_1 := blk_frozen BK743.out 1; have hfz43_2 := blk_frozen BK743.out 2; have hcz44_0 : w41.cell? ⟨gb744, 0, none⟩ = some (.int .i64 a1_0) := (blk_cell BK744.out 0).trans rfl; have hcz44_1 : w41.cell? ⟨gb744, 1, none⟩ = some (.int .i64 a1_1) := (blk_cell BK744.out 1).trans rfl; have hfz44_0 := blk_frozen BK744.out 0; have hfz44_1 := blk_frozen BK744.out 1) | (go_at_call 58; (with_reducible refine (impl_graphOf.calls k a0_0 a0_1 _ _ l0_2 a1_0 a1_1 t745 t748 false _ ?side1 ?side2 A4.out).mono ?_); (case side1 => exact zae5); (case side2 => exact HC0_2.out); rintro e w45 ⟨v746, v749, pv752, rfl, hgp, ho0, ho1, hb⟩; obtain rfl := hgp.2 rfl; have n0_ := Aside0.mk (Kd.R_lower ho0 (below_size zae1)); have n1_ := Aside0.mk (Kd.S_lower ho1 (below_size zae1)); have n2_ := Aside0.mk (blk_below (g := gb743) (o := .cells #[.int .i64 a0_0, .int .i64 a0_1, .slice A0_2 l0_2.length c0_2] 30 (0, 0)) zae2 hb); have n3_ := Aside0.mk (blk_below (g := gb744) (o := .cells #[.int .i64 a1_0, .int .i64 a1_1] 32 (0, 0)) zae3 hb); have n4_ := Aside0.mk (below_step zae1 hb); clear BK743; clear BK744; clear HB; have HO747 := n0_; have HO750 := n1_; have BK743 := n2_; have BK744 := n3_; have HB := n4_; clear n0_ n1_ n2_ n3_ n4_; (try clear hb); (try clear hb2); (try clear hk); (try clear hi); (try clear ho0); (try clear ho1); (try clear hgp); (try clear hbox); (try clear hge); (try clear hna_); (try clear hnb_))))
  go_ret2
  exact ⟨zae20, zae1⟩
 subst c5
 have H1 : ((impl_graph_isPainting.f k a0_0 a0_1 l0_2 a1_0 a1_1 t745 t748 l2).bind fun t754 => (if t754 = true then ((impl_graph_unlike.f k a0_0 a0_1 l0_2 a1_0 a1_1 t745 t748).bind fun t755 => (impl_IsFarPainting.l0 k l2 t755 (t755.length : Int) 0)) else (some (false, true)))) = some (r1, r2) := by rw [if_pos rfl] at H; exact H
 clear H
 have H := H1
 clear H1
 replace H := Option.bind_eq_some_iff.mp H
 obtain ⟨t754, A60, H⟩ := H
 replace H : (if t754 = true then ((impl_graph_unlike.f k a0_0 a0_1 l0_2 a1_0 a1_1 t745 t748).bind fun t755 => (impl_IsFarPainting.l0 k l2 t755 (t755.length : Int) 0)) else (some (false, true))) = some (r1, r2) := H
 have A6 := Aside0.mk A60
 clear A60
 by_cases c7 : t754 = true
 rotate_left
 ·replace c7 := Bool.eq_false_iff.mpr c7
  subst c7
  have H1 : (some (false, true)) = some (r1, r2) := by rw [if_neg (show ¬ (false = true) by decide)] at H; exact H
  clear H
  have H := H1
  clear H1
  simp only [Option.some.injEq, Prod.mk.injEq] at H
  obtain ⟨rfl, rfl⟩ := H
  go_enter Try.func28, Try.ntmps28
  go_wp2_with (first | ((with_reducible refine gate_dst (N := 3) rfl ?_); refine box_event ?hg (N := 3) ?hd (cs := #[.int .i64 a0_0, .int .i64 a0_1, .slice A0_2 l0_2.length c0_2]) (t := 30) ?hr ?_; (case hd => rfl); (case hg => rfl); (case hr => first | (go_simp; done) | (go_simp; rfl)); intro gb743 hg w31 hbox hb; have n0_ := Aside0.mk (below_step zae12 hb); have n1_ := Aside0.mk (hbox); have n2_ := Aside0.mk ((zae29 : w.heap.size ≤ gb743)); have n3_ := Aside0.mk ((zae29 : w.heap.size ≤ gb743)); clear HB; have HB := n0_; have BK743 := n1_; have GW743 := n2_; have GE743 := n3_; clear n0_ n1_ n2_ n3_; clear hb hbox hg) | ((with_reducible refine gate_dst (N := 4) rfl ?_); refine box_event ?hg (N := 4) ?hd (cs := #[.int .i64 a1_0, .int .i64 a1_1]) (t := 32) ?hr ?_; (case hd => rfl); (case hg => rfl); (case hr => first | (go_simp; done) | (go_simp; rfl)); intro gb744 hg w32 hbox hb; have n0_ := Aside0.mk (blk_below (g := gb743) (o := .cells #[.int .i64 a0_0, .int .i64 a0_1, .slice A0_2 l0_2.length c0_2] 30 (0, 0)) zae2 hb); have n1_ := Aside0.mk (below_step zae7 hb); have n2_ := Aside0.mk (hbox); have n3_ := Aside0.mk ((zae30 : w.heap.size ≤ gb744)); have n4_ := Aside0.mk ((zae30 : w.heap.size ≤ gb744)); have n5_ := Aside0.mk ((zae26 : gb743 ≠ gb744)); have n6_ := Aside0.mk ((zae27 : gb744 ≠ gb743)); clear BK743; clear HB; have BK743 := n0_; have HB := n1_; have BK744 := n2_; have GW744 := n3_; have GE744 := n4_; have NB743_744 := n5_; have NB744_743 := n6_; clear n0_ n1_ n2_ n3_ n4_ n5_ n6_; clear hb hbox hg; have hnb33 := NB743_744.out; have hnc33 := NB744_743.out; have hcz34_0 : w32.cell? ⟨gb743, 0, none⟩ = some (.int .i64 a0_0) := (blk_cell BK743.out 0).trans rfl; have hcz34_1 : w32.cell? ⟨gb743, 1, none⟩ = some (.int .i64 a0_1) := (blk_cell BK743.out 1).trans rfl; have hcz34_2 : w32.cell? ⟨gb743, 2, none⟩ = some (.slice A0_2 l0_2.length c0_2) := (blk_cell BK743.out 2).trans rfl; have hfz34_0 := blk_frozen BK743.out 0; have hfz34_1 := blk_frozen BK743.out 1; have hfz34_2 := blk_frozen BK743.out 2; have hcz35_0 : w32.cell? ⟨gb744, 0, none⟩ = some (.int .i64 a1_0) := (blk_cell BK744.out 0).trans rfl; have hcz35_1 : w32.cell? ⟨gb744, 1, none⟩ = some (.int .i64 a1_1) := (blk_cell BK744.out 1).trans rfl; have hfz35_0 := blk_frozen BK744.out 0; have hfz35_1 := blk_frozen BK744.out 1) | (go_at_call 58; (with_reducible refine (impl_graphOf.calls k a0_0 a0_1 _ _ l0_2 a1_0 a1_1 t745 t748 true _ ?side1 ?side2 A4.out).mono ?_); (case side1 => exact zae5); (case side2 => exact HC0_2.out); rintro e w36 ⟨v746, v749, pv752, rfl, hgp, ho0, ho1, hb⟩; obtain ⟨gb751, rfl, hbox, hge⟩ := hgp.1 rfl; have n0_ := Aside0.mk (Kd.R_lower ho0 (below_size zae1)); have n1_ := Aside0.mk (Kd.S_lower ho1 (below_size zae1)); have n2_ := Aside0.mk (blk_below (g := gb743) (o := .cells #[.int .i64 a0_0, .int .i64 a0_1, .slice A0_2 l0_2.length c0_2] 30 (0, 0)) zae2 hb); have n3_ := Aside0.mk (blk_below (g := gb744) (o := .cells #[.int .i64 a1_0, .int .i64 a1_1] 32 (0, 0)) zae3 hb); have n4_ := Aside0.mk (hbox); have n5_ := Aside0.mk ((Nat.le_trans zae28 hge : w.heap.size ≤ gb751)); have n6_ := Aside0.mk ((Nat.le_trans zae28 hge : w.heap.size ≤ gb751)); have n7_ := Aside0.mk ((Nat.ne_of_lt (Nat.lt_of_lt_of_le (blk_lt (g := gb743) (o := .cells #[.int .i64 a0_0, .int .i64 a0_1, .slice A0_2 l0_2.length c0_2] 30 (0, 0)) zae2) hge) : gb743 ≠ gb751)); have n8_ := Aside0.mk ((Nat.ne_of_gt (Nat.lt_of_lt_of_le (blk_lt (g := gb743) (o := .cells #[.int .i64 a0_0, .int .i64 a0_1, .slice A0_2 l0_2.length c0_2] 30 (0, 0)) zae2) hge) : gb751 ≠ gb743)); have n9_ := Aside0.mk ((Nat.ne_of_lt (Nat.lt_of_lt_of_le (blk_lt (g := gb744) (o := .cells #[.int .i64 a1_0, .int .i64 a1_1] 32 (0, 0)) zae3) hge) : gb744 ≠ gb751)); have n10_ := Aside0.mk ((Nat.ne_of_gt (Nat.lt_of_lt_of_le (blk_lt (g := gb744) (o := .cells #[.int .i64 a1_0, .int .i64 a1_1] 32 (0, 0)) zae3) hge) : gb751 ≠ gb744)); have n11_ := Aside0.mk (below_step zae1 hb); clear BK743; clear BK744; clear HB; have HO747 := n0_; have HO750 := n1_; have BK743 := n2_; have BK744 := n3_; have BK751 := n4_; have GW751 := n5_; have GE751 := n6_; have NB743_751 := n7_; have NB751_743 := n8_; have NB744_751 := n9_; have NB751_744 := n10_; have HB := n11_; clear n0_ n1_ n2_ n3_ n4_ n5_ n6_ n7_ n8_ n9_ n10_ n11_; (try clear hb); (try clear hb2); (try clear hk); (try clear hi); (try clear ho0); (try clear ho1); (try clear hgp); (try clear hbox); (try clear hge); (try clear hna_); (try clear hnb_); obtain ⟨Ao37, co37, eo37⟩ := Kd.R_slice HO747.out; subst eo37; obtain ⟨Ao38, co38, eo38⟩ := Kd.S_slice HO750.out; subst eo38) | (go_at_call 59; (with_reducible refine (impl_graph_isPainting.calls k gb751 a0_0 a0_1 A0_2 c0_2 l0_2 a1_0 a1_1 Ao37 co37 t745 Ao38 co38 t748 _ _ l2 false _ ?side1 ?side2 ?side3 ?side4 ?side5 ?side6 ?side7 ?side8 ?side9 A6.out).mono ?_); (case side1 => exact zae6); (case side2 => exact zae5); (case side3 => exact HC0_2.out); (case side4 => exact zae10); (case side5 => exact (Kd.R_reads' HO747.out).2.1); (case side6 => exact zae9); (case side7 => exact (Kd.S_reads' HO750.out).2.1); (case side8 => exact zae15); (case side9 => exact HC2.out); rintro e w39 ⟨rfl, hb⟩; have n0_ := Aside0.mk (Kd.R_below zae13 hb); have n1_ := Aside0.mk (Kd.S_below zae14 hb); have n2_ := Aside0.mk (blk_below (g := gb743) (o := .cells #[.int .i64 a0_0, .int .i64 a0_1, .slice A0_2 l0_2.length c0_2] 30 (0, 0)) zae2 hb); have n3_ := Aside0.mk (blk_below (g := gb744) (o := .cells #[.int .i64 a1_0, .int .i64 a1_1] 32 (0, 0)) zae3 hb); have n4_ := Aside0.mk (blk_below (g := gb751) (o := .cells #[.int .i64 a0_0, .int .i64 a0_1, .slice A0_2 l0_2.length c0_2, .int .i64 a1_0, .int .i64 a1_1, .slice Ao37 t745.length co37, .slice Ao38 t748.length co38] 84 (0, 0)) zae6 hb); have n5_ := Aside0.mk (below_step zae4 hb); clear HO747; clear HO750; clear BK743; clear BK744; clear BK751; clear HB; have HO747 := n0_; have HO750 := n1_; have BK743 := n2_; have BK744 := n3_; have BK751 := n4_; have HB := n5_; clear n0_ n1_ n2_ n3_ n4_ n5_; (try clear hb); (try clear hb2); (try clear hk); (try clear hi); (try clear hna_); (try clear hnb_)))
  repeat ((first | go_quiet (first | (go_at_call 58; (with_reducible refine (impl_graphOf.calls k a0_0 a0_1 _ _ l0_2 a1_0 a1_1 t745 t748 true _ ?side1 ?side2 A4.out).mono ?_); (case side1 => exact zae5); (case side2 => exact HC0_2.out); rintro e w36 ⟨v746, v749, pv752, rfl, hgp, ho0, ho1, hb⟩; obtain ⟨gb751, rfl, hbox, hge⟩ := hgp.1 rfl; have n0_ := Aside0.mk (Kd.R_lower ho0 (below_size zae1)); have n1_ := Aside0.mk (Kd.S_lower ho1 (below_size zae1)); have n2_ := Aside0.mk (blk_below (g := gb743) (o := .cells #[.int .i64 a0_0, .int .i64 a0_1, .slice A0_2 l0_2.length c0_2] 30 (0, 0)) zae2 hb); have n3_ := Aside0.mk (blk_below (g := gb744) (o := .cells #[.int .i64 a1_0, .int .i64 a1_1] 32 (0, 0)) zae3 hb); have n4_ := Aside0.mk (hbox); have n5_ := Aside0.mk ((Nat.le_trans zae28 hge : w.heap.size ≤ gb751)); have n6_ := Aside0.mk ((Nat.le_trans zae28 hge : w.heap.size ≤ gb751)); have n7_ := Aside0.mk ((Nat.ne_of_lt (Nat.lt_of_lt_of_le (blk_lt (g := gb743) (o := .cells #[.int .i64 a0_0, .int .i64 a0_1, .slice A0_2 l0_2.length c0_2] 30 (0, 0)) zae2) hge) : gb743 ≠ gb751)); have n8_ := Aside0.mk ((Nat.ne_of_gt (Nat.lt_of_lt_of_le (blk_lt (g := gb743) (o := .cells #[.int .i64 a0_0, .int .i64 a0_1, .slice A0_2 l0_2.length c0_2] 30 (0, 0)) zae2) hge) : gb751 ≠ gb743)); have n9_ := Aside0.mk ((Nat.ne_of_lt (Nat.lt_of_lt_of_le (blk_lt (g := gb744) (o := .cells #[.int .i64 a1_0, .int .i64 a1_1] 32 (0, 0)) zae3) hge) : gb744 ≠ gb751)); have n10_ := Aside0.mk ((Nat.ne_of_gt (Nat.lt_of_lt_of_le (blk_lt (g := gb744) (o := .cells #[.int .i64 a1_0, .int .i64 a1_1] 32 (0, 0)) zae3) hge) : gb751 ≠ gb744)); have n11_ := Aside0.mk (below_step zae1 hb); clear BK743; clear BK744; clear HB; have HO747 := n0_; have HO750 := n1_; have BK743 := n2_; have BK744 := n3_; have BK751 := n4_; have GW751 := n5_; have GE751 := n6_; have NB743_751 := n7_; have NB751_743 := n8_; have NB744_751 := n9_; have NB751_744 := n10_; have HB := n11_; clear n0_ n1_ n2_ n3_ n4_ n5_ n6_ n7_ n8_ n9_ n10_ n11_; (try clear hb); (try clear hb2); (try clear hk); (try clear hi); (try clear ho0); (try clear ho1); (try clear hgp); (try clear hbox); (try clear hge); (try clear hna_); (try clear hnb_); obtain ⟨Ao37, co37, eo37⟩ := Kd.R_slice HO747.out; subst eo37; obtain ⟨Ao38, co38, eo38⟩ := Kd.S_slice HO750.out; subst eo38) | (go_at_call 59; (with_reducible refine (impl_graph_isPainting.calls k gb751 a0_0 a0_1 A0_2 c0_2 l0_2 a1_0 a1_1 Ao37 co37 t745 Ao38 co38 t748 _ _ l2 false _ ?side1 ?side2 ?side3 ?side4 ?side5 ?side6 ?side7 ?side8 ?side9 A6.out).mono ?_); (case side1 => exact zae6); (case side2 => exact zae5); (case side3 => exact HC0_2.out); (case side4 => exact zae10); (case side5 => exact (Kd.R_reads' HO747.out).2.1); (case side6 => exact zae9); (case side7 => exact (Kd.S_reads' HO750.out).2.1); (case side8 => exact zae15); (case side9 => exact HC2.out); rintro e w39 ⟨rfl, hb⟩; have n0_ := Aside0.mk (Kd.R_below zae13 hb); have n1_ := Aside0.mk (Kd.S_below zae14 hb); have n2_ := Aside0.mk (blk_below (g := gb743) (o := .cells #[.int .i64 a0_0, .int .i64 a0_1, .slice A0_2 l0_2.length c0_2] 30 (0, 0)) zae2 hb); have n3_ := Aside0.mk (blk_below (g := gb744) (o := .cells #[.int .i64 a1_0, .int .i64 a1_1] 32 (0, 0)) zae3 hb); have n4_ := Aside0.mk (blk_below (g := gb751) (o := .cells #[.int .i64 a0_0, .int .i64 a0_1, .slice A0_2 l0_2.length c0_2, .int .i64 a1_0, .int .i64 a1_1, .slice Ao37 t745.length co37, .slice Ao38 t748.length co38] 84 (0, 0)) zae6 hb); have n5_ := Aside0.mk (below_step zae4 hb); clear HO747; clear HO750; clear BK743; clear BK744; clear BK751; clear HB; have HO747 := n0_; have HO750 := n1_; have BK743 := n2_; have BK744 := n3_; have BK751 := n4_; have HB := n5_; clear n0_ n1_ n2_ n3_ n4_ n5_; (try clear hb); (try clear hb2); (try clear hk); (try clear hi); (try clear hna_); (try clear hnb_))) | (refine wp_region_quiet_lit (by kernel_rfl) (by kernel_rfl) ?_; (repeat (any_goals (first | go_big_quiet_step (first | (go_at_call 58; (with_reducible refine (impl_graphOf.calls k a0_0 a0_1 _ _ l0_2 a1_0 a1_1 t745 t748 true _ ?side1 ?side2 A4.out).mono ?_); (case side1 => exact zae5); (case side2 => exact HC0_2.out); rintro e w36 ⟨v746, v749, pv752, rfl, hgp, ho0, ho1, hb⟩; obtain ⟨gb751, rfl, hbox, hge⟩ := hgp.1 rfl; have n0_ := Aside0.mk (Kd.R_lower ho0 (below_size zae1)); have n1_ := Aside0.mk (Kd.S_lower ho1 (below_size zae1)); have n2_ := Aside0.mk (blk_below (g := gb743) (o := .cells #[.int .i64 a0_0, .int .i64 a0_1, .slice A0_2 l0_2.length c0_2] 30 (0, 0)) zae2 hb); have n3_ := Aside0.mk (blk_below (g := gb744) (o := .cells #[.int .i64 a1_0, .int .i64 a1_1] 32 (0, 0)) zae3 hb); have n4_ := Aside0.mk (hbox); have n5_ := Aside0.mk ((Nat.le_trans zae28 hge : w.heap.size ≤ gb751)); have n6_ := Aside0.mk ((Nat.le_trans zae28 hge : w.heap.size ≤ gb751)); have n7_ := Aside0.mk ((Nat.ne_of_lt (Nat.lt_of_lt_of_le (blk_lt (g := gb743) (o := .cells #[.int .i64 a0_0, .int .i64 a0_1, .slice A0_2 l0_2.length c0_2] 30 (0, 0)) zae2) hge) : gb743 ≠ gb751)); have n8_ := Aside0.mk ((Nat.ne_of_gt (Nat.lt_of_lt_of_le (blk_lt (g := gb743) (o := .cells #[.int .i64 a0_0, .int .i64 a0_1, .slice A0_2 l0_2.length c0_2] 30 (0, 0)) zae2) hge) : gb751 ≠ gb743)); have n9_ := Aside0.mk ((Nat.ne_of_lt (Nat.lt_of_lt_of_le (blk_lt (g := gb744) (o := .cells #[.int .i64 a1_0, .int .i64 a1_1] 32 (0, 0)) zae3) hge) : gb744 ≠ gb751)); have n10_ := Aside0.mk ((Nat.ne_of_gt (Nat.lt_of_lt_of_le (blk_lt (g := gb744) (o := .cells #[.int .i64 a1_0, .int .i64 a1_1] 32 (0, 0)) zae3) hge) : gb751 ≠ gb744)); have n11_ := Aside0.mk (below_step zae1 hb); clear BK743; clear BK744; clear HB; have HO747 := n0_; have HO750 := n1_; have BK743 := n2_; have BK744 := n3_; have BK751 := n4_; have GW751 := n5_; have GE751 := n6_; have NB743_751 := n7_; have NB751_743 := n8_; have NB744_751 := n9_; have NB751_744 := n10_; have HB := n11_; clear n0_ n1_ n2_ n3_ n4_ n5_ n6_ n7_ n8_ n9_ n10_ n11_; (try clear hb); (try clear hb2); (try clear hk); (try clear hi); (try clear ho0); (try clear ho1); (try clear hgp); (try clear hbox); (try clear hge); (try clear hna_); (try clear hnb_); obtain ⟨Ao37, co37, eo37⟩ := Kd.R_slice HO747.out; subst eo37; obtain ⟨Ao38, co38, eo38⟩ := Kd.S_slice HO750.out; subst eo38) | (go_at_call 59; (with_reducible refine (impl_graph_isPainting.calls k gb751 a0_0 a0_1 A0_2 c0_2 l0_2 a1_0 a1_1 Ao37 co37 t745 Ao38 co38 t748 _ _ l2 false _ ?side1 ?side2 ?side3 ?side4 ?side5 ?side6 ?side7 ?side8 ?side9 A6.out).mono ?_); (case side1 => exact zae6); (case side2 => exact zae5); (case side3 => exact HC0_2.out); (case side4 => exact zae10); (case side5 => exact (Kd.R_reads' HO747.out).2.1); (case side6 => exact zae9); (case side7 => exact (Kd.S_reads' HO750.out).2.1); (case side8 => exact zae15); (case side9 => exact HC2.out); rintro e w39 ⟨rfl, hb⟩; have n0_ := Aside0.mk (Kd.R_below zae13 hb); have n1_ := Aside0.mk (Kd.S_below zae14 hb); have n2_ := Aside0.mk (blk_below (g := gb743) (o := .cells #[.int .i64 a0_0, .int .i64 a0_1, .slice A0_2 l0_2.length c0_2] 30 (0, 0)) zae2 hb); have n3_ := Aside0.mk (blk_below (g := gb744) (o := .cells #[.int .i64 a1_0, .int .i64 a1_1] 32 (0, 0)) zae3 hb); have n4_ := Aside0.mk (blk_below (g := gb751) (o := .cells #[.int .i64 a0_0, .int .i64 a0_1, .slice A0_2 l0_2.length c0_2, .int .i64 a1_0, .int .i64 a1_1, .slice Ao37 t745.length co37, .slice Ao38 t748.length co38] 84 (0, 0)) zae6 hb); have n5_ := Aside0.mk (below_step zae4 hb); clear HO747; clear HO750; clear BK743; clear BK744; clear BK751; clear HB; have HO747 := n0_; have HO750 := n1_; have BK743 := n2_; have BK744 := n3_; have BK751 := n4_; have HB := n5_; clear n0_ n1_ n2_ n3_ n4_ n5_; (try clear hb); (try clear hb2); (try clear hk); (try clear hi); (try clear hna_); (try clear hnb_))) | quiet_step (first | (go_at_call 58; (with_reducible refine (impl_graphOf.calls k a0_0 a0_1 _ _ l0_2 a1_0 a1_1 t745 t748 true _ ?side1 ?side2 A4.out).mono ?_); (case side1 => exact zae5); (case side2 => exact HC0_2.out); rintro e w36 ⟨v746, v749, pv752, rfl, hgp, ho0, ho1, hb⟩; obtain ⟨gb751, rfl, hbox, hge⟩ := hgp.1 rfl; have n0_ := Aside0.mk (Kd.R_lower ho0 (below_size zae1)); have n1_ := Aside0.mk (Kd.S_lower ho1 (below_size zae1)); have n2_ := Aside0.mk (blk_below (g := gb743) (o := .cells #[.int .i64 a0_0, .int .i64 a0_1, .slice A0_2 l0_2.length c0_2] 30 (0, 0)) zae2 hb); have n3_ := Aside0.mk (blk_below (g := gb744) (o := .cells #[.int .i64 a1_0, .int .i64 a1_1] 32 (0, 0)) zae3 hb); have n4_ := Aside0.mk (hbox); have n5_ := Aside0.mk ((Nat.le_trans zae28 hge : w.heap.size ≤ gb751)); have n6_ := Aside0.mk ((Nat.le_trans zae28 hge : w.heap.size ≤ gb751)); have n7_ := Aside0.mk ((Nat.ne_of_lt (Nat.lt_of_lt_of_le (blk_lt (g := gb743) (o := .cells #[.int .i64 a0_0, .int .i64 a0_1, .slice A0_2 l0_2.length c0_2] 30 (0, 0)) zae2) hge) : gb743 ≠ gb751)); have n8_ := Aside0.mk ((Nat.ne_of_gt (Nat.lt_of_lt_of_le (blk_lt (g := gb743) (o := .cells #[.int .i64 a0_0, .int .i64 a0_1, .slice A0_2 l0_2.length c0_2] 30 (0, 0)) zae2) hge) : gb751 ≠ gb743)); have n9_ := Aside0.mk ((Nat.ne_of_lt (Nat.lt_of_lt_of_le (blk_lt (g := gb744) (o := .cells #[.int .i64 a1_0, .int .i64 a1_1] 32 (0, 0)) zae3) hge) : gb744 ≠ gb751)); have n10_ := Aside0.mk ((Nat.ne_of_gt (Nat.lt_of_lt_of_le (blk_lt (g := gb744) (o := .cells #[.int .i64 a1_0, .int .i64 a1_1] 32 (0, 0)) zae3) hge) : gb751 ≠ gb744)); have n11_ := Aside0.mk (below_step zae1 hb); clear BK743; clear BK744; clear HB; have HO747 := n0_; have HO750 := n1_; have BK743 := n2_; have BK744 := n3_; have BK751 := n4_; have GW751 := n5_; have GE751 := n6_; have NB743_751 := n7_; have NB751_743 := n8_; have NB744_751 := n9_; have NB751_744 := n10_; have HB := n11_; clear n0_ n1_ n2_ n3_ n4_ n5_ n6_ n7_ n8_ n9_ n10_ n11_; (try clear hb); (try clear hb2); (try clear hk); (try clear hi); (try clear ho0); (try clear ho1); (try clear hgp); (try clear hbox); (try clear hge); (try clear hna_); (try clear hnb_); obtain ⟨Ao37, co37, eo37⟩ := Kd.R_slice HO747.out; subst eo37; obtain ⟨Ao38, co38, eo38⟩ := Kd.S_slice HO750.out; subst eo38) | (go_at_call 59; (with_reducible refine (impl_graph_isPainting.calls k gb751 a0_0 a0_1 A0_2 c0_2 l0_2 a1_0 a1_1 Ao37 co37 t745 Ao38 co38 t748 _ _ l2 false _ ?side1 ?side2 ?side3 ?side4 ?side5 ?side6 ?side7 ?side8 ?side9 A6.out).mono ?_); (case side1 => exact zae6); (case side2 => exact zae5); (case side3 => exact HC0_2.out); (case side4 => exact zae10); (case side5 => exact (Kd.R_reads' HO747.out).2.1); (case side6 => exact zae9); (case side7 => exact (Kd.S_reads' HO750.out).2.1); (case side8 => exact zae15); (case side9 => exact HC2.out); rintro e w39 ⟨rfl, hb⟩; have n0_ := Aside0.mk (Kd.R_below zae13 hb); have n1_ := Aside0.mk (Kd.S_below zae14 hb); have n2_ := Aside0.mk (blk_below (g := gb743) (o := .cells #[.int .i64 a0_0, .int .i64 a0_1, .slice A0_2 l0_2.length c0_2] 30 (0, 0)) zae2 hb); have n3_ := Aside0.mk (blk_below (g := gb744) (o := .cells #[.int .i64 a1_0, .int .i64 a1_1] 32 (0, 0)) zae3 hb); have n4_ := Aside0.mk (blk_below (g := gb751) (o := .cells #[.int .i64 a0_0, .int .i64 a0_1, .slice A0_2 l0_2.length c0_2, .int .i64 a1_0, .int .i64 a1_1, .slice Ao37 t745.length co37, .slice Ao38 t748.length co38] 84 (0, 0)) zae6 hb); have n5_ := Aside0.mk (below_step zae4 hb); clear HO747; clear HO750; clear BK743; clear BK744; clear BK751; clear HB; have HO747 := n0_; have HO750 := n1_; have BK743 := n2_; have BK744 := n3_; have BK751 := n4_; have HB := n5_; clear n0_ n1_ n2_ n3_ n4_ n5_; (try clear hb); (try clear hb2); (try clear hk); (try clear hi); (try clear hna_); (try clear hnb_)))))); all_goals (refine wpQuiet_nil ?_; intro _ hw2_; obtain ⟨nq, hw3_⟩ := hw2_; subst hw3_))); try go_wp2_with (first | ((with_reducible refine gate_dst (N := 3) rfl ?_); refine box_event ?hg (N := 3) ?hd (cs := #[.int .i64 a0_0, .int .i64 a0_1, .slice A0_2 l0_2.length c0_2]) (t := 30) ?hr ?_; (case hd => rfl); (case hg => rfl); (case hr => first | (go_simp; done) | (go_simp; rfl)); intro gb743 hg w31 hbox hb; have n0_ := Aside0.mk (below_step zae12 hb); have n1_ := Aside0.mk (hbox); have n2_ := Aside0.mk ((zae29 : w.heap.size ≤ gb743)); have n3_ := Aside0.mk ((zae29 : w.heap.size ≤ gb743)); clear HB; have HB := n0_; have BK743 := n1_; have GW743 := n2_; have GE743 := n3_; clear n0_ n1_ n2_ n3_; clear hb hbox hg) | ((with_reducible refine gate_dst (N := 4) rfl ?_); refine box_event ?hg (N := 4) ?hd (cs := #[.int .i64 a1_0, .int .i64 a1_1]) (t := 32) ?hr ?_; (case hd => rfl); (case hg => rfl); (case hr => first | (go_simp; done) | (go_simp; rfl)); intro gb744 hg w32 hbox hb; have n0_ := Aside0.mk (blk_below (g := gb743) (o := .cells #[.int .i64 a0_0, .int .i64 a0_1, .slice A0_2 l0_2.length c0_2] 30 (0, 0)) zae2 hb); have n1_ := Aside0.mk (below_step zae7 hb); have n2_ := Aside0.mk (hbox); have n3_ := Aside0.mk ((zae30 : w.heap.size ≤ gb744)); have n4_ := Aside0.mk ((zae30 : w.heap.size ≤ gb744)); have n5_ := Aside0.mk ((zae26 : gb743 ≠ gb744)); have n6_ := Aside0.mk ((zae27 : gb744 ≠ gb743)); clear BK743; clear HB; have BK743 := n0_; have HB := n1_; have BK744 := n2_; have GW744 := n3_; have GE744 := n4_; have NB743_744 := n5_; have NB744_743 := n6_; clear n0_ n1_ n2_ n3_ n4_ n5_ n6_; clear hb hbox hg; have hnb33 := NB743_744.out; have hnc33 := NB744_743.out; have hcz34_0 : w32.cell? ⟨gb743, 0, none⟩ = some (.int .i64 a0_0) := (blk_cell BK743.out 0).trans rfl; have hcz34_1 : w32.cell? ⟨gb743, 1, none⟩ = some (.int .i64 a0_1) := (blk_cell BK743.out 1).trans rfl; have hcz34_2 : w32.cell? ⟨gb743, 2, none⟩ = some (.slice A0_2 l0_2.length c0_2) := (blk_cell BK743.out 2).trans rfl; have hfz34_0 := blk_frozen BK743.out 0; have hfz34_1 := blk_frozen BK743.out 1; have hfz34_2 := blk_frozen BK743.out 2; have hcz35_0 : w32.cell? ⟨gb744, 0, none⟩ = some (.int .i64 a1_0) := (blk_cell BK744.out 0).trans rfl; have hcz35_1 : w32.cell? ⟨gb744, 1, none⟩ = some (.int .i64 a1_1) := (blk_cell BK744.out 1).trans rfl; have hfz35_0 := blk_frozen BK744.out 0; have hfz35_1 := blk_frozen BK744.out 1) | (go_at_call 58; (with_reducible refine (impl_graphOf.calls k a0_0 a0_1 _ _ l0_2 a1_0 a1_1 t745 t748 true _ ?side1 ?side2 A4.out).mono ?_); (case side1 => exact zae5); (case side2 => exact HC0_2.out); rintro e w36 ⟨v746, v749, pv752, rfl, hgp, ho0, ho1, hb⟩; obtain ⟨gb751, rfl, hbox, hge⟩ := hgp.1 rfl; have n0_ := Aside0.mk (Kd.R_lower ho0 (below_size zae1)); have n1_ := Aside0.mk (Kd.S_lower ho1 (below_size zae1)); have n2_ := Aside0.mk (blk_below (g := gb743) (o := .cells #[.int .i64 a0_0, .int .i64 a0_1, .slice A0_2 l0_2.length c0_2] 30 (0, 0)) zae2 hb); have n3_ := Aside0.mk (blk_below (g := gb744) (o := .cells #[.int .i64 a1_0, .int .i64 a1_1] 32 (0, 0)) zae3 hb); have n4_ := Aside0.mk (hbox); have n5_ := Aside0.mk ((Nat.le_trans zae28 hge : w.heap.size ≤ gb751)); have n6_ := Aside0.mk ((Nat.le_trans zae28 hge : w.heap.size ≤ gb751)); have n7_ := Aside0.mk ((Nat.ne_of_lt (Nat.lt_of_lt_of_le (blk_lt (g := gb743) (o := .cells #[.int .i64 a0_0, .int .i64 a0_1, .slice A0_2 l0_2.length c0_2] 30 (0, 0)) zae2) hge) : gb743 ≠ gb751)); have n8_ := Aside0.mk ((Nat.ne_of_gt (Nat.lt_of_lt_of_le (blk_lt (g := gb743) (o := .cells #[.int .i64 a0_0, .int .i64 a0_1, .slice A0_2 l0_2.length c0_2] 30 (0, 0)) zae2) hge) : gb751 ≠ gb743)); have n9_ := Aside0.mk ((Nat.ne_of_lt (Nat.lt_of_lt_of_le (blk_lt (g := gb744) (o := .cells #[.int .i64 a1_0, .int .i64 a1_1] 32 (0, 0)) zae3) hge) : gb744 ≠ gb751)); have n10_ := Aside0.mk ((Nat.ne_of_gt (Nat.lt_of_lt_of_le (blk_lt (g := gb744) (o := .cells #[.int .i64 a1_0, .int .i64 a1_1] 32 (0, 0)) zae3) hge) : gb751 ≠ gb744)); have n11_ := Aside0.mk (below_step zae1 hb); clear BK743; clear BK744; clear HB; have HO747 := n0_; have HO750 := n1_; have BK743 := n2_; have BK744 := n3_; have BK751 := n4_; have GW751 := n5_; have GE751 := n6_; have NB743_751 := n7_; have NB751_743 := n8_; have NB744_751 := n9_; have NB751_744 := n10_; have HB := n11_; clear n0_ n1_ n2_ n3_ n4_ n5_ n6_ n7_ n8_ n9_ n10_ n11_; (try clear hb); (try clear hb2); (try clear hk); (try clear hi); (try clear ho0); (try clear ho1); (try clear hgp); (try clear hbox); (try clear hge); (try clear hna_); (try clear hnb_); obtain ⟨Ao37, co37, eo37⟩ := Kd.R_slice HO747.out; subst eo37; obtain ⟨Ao38, co38, eo38⟩ := Kd.S_slice HO750.out; subst eo38) | (go_at_call 59; (with_reducible refine (impl_graph_isPainting.calls k gb751 a0_0 a0_1 A0_2 c0_2 l0_2 a1_0 a1_1 Ao37 co37 t745 Ao38 co38 t748 _ _ l2 false _ ?side1 ?side2 ?side3 ?side4 ?side5 ?side6 ?side7 ?side8 ?side9 A6.out).mono ?_); (case side1 => exact zae6); (case side2 => exact zae5); (case side3 => exact HC0_2.out); (case side4 => exact zae10); (case side5 => exact (Kd.R_reads' HO747.out).2.1); (case side6 => exact zae9); (case side7 => exact (Kd.S_reads' HO750.out).2.1); (case side8 => exact zae15); (case side9 => exact HC2.out); rintro e w39 ⟨rfl, hb⟩; have n0_ := Aside0.mk (Kd.R_below zae13 hb); have n1_ := Aside0.mk (Kd.S_below zae14 hb); have n2_ := Aside0.mk (blk_below (g := gb743) (o := .cells #[.int .i64 a0_0, .int .i64 a0_1, .slice A0_2 l0_2.length c0_2] 30 (0, 0)) zae2 hb); have n3_ := Aside0.mk (blk_below (g := gb744) (o := .cells #[.int .i64 a1_0, .int .i64 a1_1] 32 (0, 0)) zae3 hb); have n4_ := Aside0.mk (blk_below (g := gb751) (o := .cells #[.int .i64 a0_0, .int .i64 a0_1, .slice A0_2 l0_2.length c0_2, .int .i64 a1_0, .int .i64 a1_1, .slice Ao37 t745.length co37, .slice Ao38 t748.length co38] 84 (0, 0)) zae6 hb); have n5_ := Aside0.mk (below_step zae4 hb); clear HO747; clear HO750; clear BK743; clear BK744; clear BK751; clear HB; have HO747 := n0_; have HO750 := n1_; have BK743 := n2_; have BK744 := n3_; have BK751 := n4_; have HB := n5_; clear n0_ n1_ n2_ n3_ n4_ n5_; (try clear hb); (try clear hb2); (try clear hk); (try clear hi); (try clear hna_); (try clear hnb_))))
  go_ret2
  exact ⟨zae20, zae4⟩
 subst c7
 have H1 : ((impl_graph_unlike.f k a0_0 a0_1 l0_2 a1_0 a1_1 t745 t748).bind fun t755 => (impl_IsFarPainting.l0 k l2 t755 (t755.length : Int) 0)) = some (r1, r2) := by rw [if_pos rfl] at H; exact H
 clear H
 have H := H1
 clear H1
 replace H := Option.bind_eq_some_iff.mp H
 obtain ⟨t755, A80, H⟩ := H
 replace H : (impl_IsFarPainting.l0 k l2 t755 (t755.length : Int) 0) = some (r1, r2) := H
 have A8 := Aside0.mk A80
 clear A80
 have H' := Aside0.mk H
 clear H
 go_enter Try.func28, Try.ntmps28
 go_wp2_with (first | ((with_reducible refine gate_dst (N := 3) rfl ?_); refine box_event ?hg (N := 3) ?hd (cs := #[.int .i64 a0_0, .int .i64 a0_1, .slice A0_2 l0_2.length c0_2]) (t := 30) ?hr ?_; (case hd => rfl); (case hg => rfl); (case hr => first | (go_simp; done) | (go_simp; rfl)); intro gb743 hg w9 hbox hb; have n0_ := Aside0.mk (below_step zae12 hb); have n1_ := Aside0.mk (hbox); have n2_ := Aside0.mk ((zae29 : w.heap.size ≤ gb743)); have n3_ := Aside0.mk ((zae29 : w.heap.size ≤ gb743)); clear HB; have HB := n0_; have BK743 := n1_; have GW743 := n2_; have GE743 := n3_; clear n0_ n1_ n2_ n3_; clear hb hbox hg) | ((with_reducible refine gate_dst (N := 4) rfl ?_); refine box_event ?hg (N := 4) ?hd (cs := #[.int .i64 a1_0, .int .i64 a1_1]) (t := 32) ?hr ?_; (case hd => rfl); (case hg => rfl); (case hr => first | (go_simp; done) | (go_simp; rfl)); intro gb744 hg w10 hbox hb; have n0_ := Aside0.mk (blk_below (g := gb743) (o := .cells #[.int .i64 a0_0, .int .i64 a0_1, .slice A0_2 l0_2.length c0_2] 30 (0, 0)) zae2 hb); have n1_ := Aside0.mk (below_step zae7 hb); have n2_ := Aside0.mk (hbox); have n3_ := Aside0.mk ((zae30 : w.heap.size ≤ gb744)); have n4_ := Aside0.mk ((zae30 : w.heap.size ≤ gb744)); have n5_ := Aside0.mk ((zae26 : gb743 ≠ gb744)); have n6_ := Aside0.mk ((zae27 : gb744 ≠ gb743)); clear BK743; clear HB; have BK743 := n0_; have HB := n1_; have BK744 := n2_; have GW744 := n3_; have GE744 := n4_; have NB743_744 := n5_; have NB744_743 := n6_; clear n0_ n1_ n2_ n3_ n4_ n5_ n6_; clear hb hbox hg; have hnb11 := NB743_744.out; have hnc11 := NB744_743.out; have hcz12_0 : w10.cell? ⟨gb743, 0, none⟩ = some (.int .i64 a0_0) := (blk_cell BK743.out 0).trans rfl; have hcz12_1 : w10.cell? ⟨gb743, 1, none⟩ = some (.int .i64 a0_1) := (blk_cell BK743.out 1).trans rfl; have hcz12_2 : w10.cell? ⟨gb743, 2, none⟩ = some (.slice A0_2 l0_2.length c0_2) := (blk_cell BK743.out 2).trans rfl; have hfz12_0 := blk_frozen BK743.out 0; have hfz12_1 := blk_frozen BK743.out 1; have hfz12_2 := blk_frozen BK743.out 2; have hcz13_0 : w10.cell? ⟨gb744, 0, none⟩ = some (.int .i64 a1_0) := (blk_cell BK744.out 0).trans rfl; have hcz13_1 : w10.cell? ⟨gb744, 1, none⟩ = some (.int .i64 a1_1) := (blk_cell BK744.out 1).trans rfl; have hfz13_0 := blk_frozen BK744.out 0; have hfz13_1 := blk_frozen BK744.out 1) | (go_at_call 58; (with_reducible refine (impl_graphOf.calls k a0_0 a0_1 _ _ l0_2 a1_0 a1_1 t745 t748 true _ ?side1 ?side2 A4.out).mono ?_); (case side1 => exact zae5); (case side2 => exact HC0_2.out); rintro e w14 ⟨v746, v749, pv752, rfl, hgp, ho0, ho1, hb⟩; obtain ⟨gb751, rfl, hbox, hge⟩ := hgp.1 rfl; have n0_ := Aside0.mk (Kd.R_lower ho0 (below_size zae1)); have n1_ := Aside0.mk (Kd.S_lower ho1 (below_size zae1)); have n2_ := Aside0.mk (blk_below (g := gb743) (o := .cells #[.int .i64 a0_0, .int .i64 a0_1, .slice A0_2 l0_2.length c0_2] 30 (0, 0)) zae2 hb); have n3_ := Aside0.mk (blk_below (g := gb744) (o := .cells #[.int .i64 a1_0, .int .i64 a1_1] 32 (0, 0)) zae3 hb); have n4_ := Aside0.mk (hbox); have n5_ := Aside0.mk ((Nat.le_trans zae28 hge : w.heap.size ≤ gb751)); have n6_ := Aside0.mk ((Nat.le_trans zae28 hge : w.heap.size ≤ gb751)); have n7_ := Aside0.mk ((Nat.ne_of_lt (Nat.lt_of_lt_of_le (blk_lt (g := gb743) (o := .cells #[.int .i64 a0_0, .int .i64 a0_1, .slice A0_2 l0_2.length c0_2] 30 (0, 0)) zae2) hge) : gb743 ≠ gb751)); have n8_ := Aside0.mk ((Nat.ne_of_gt (Nat.lt_of_lt_of_le (blk_lt (g := gb743) (o := .cells #[.int .i64 a0_0, .int .i64 a0_1, .slice A0_2 l0_2.length c0_2] 30 (0, 0)) zae2) hge) : gb751 ≠ gb743)); have n9_ := Aside0.mk ((Nat.ne_of_lt (Nat.lt_of_lt_of_le (blk_lt (g := gb744) (o := .cells #[.int .i64 a1_0, .int .i64 a1_1] 32 (0, 0)) zae3) hge) : gb744 ≠ gb751)); have n10_ := Aside0.mk ((Nat.ne_of_gt (Nat.lt_of_lt_of_le (blk_lt (g := gb744) (o := .cells #[.int .i64 a1_0, .int .i64 a1_1] 32 (0, 0)) zae3) hge) : gb751 ≠ gb744)); have n11_ := Aside0.mk (below_step zae1 hb); clear BK743; clear BK744; clear HB; have HO747 := n0_; have HO750 := n1_; have BK743 := n2_; have BK744 := n3_; have BK751 := n4_; have GW751 := n5_; have GE751 := n6_; have NB743_751 := n7_; have NB751_743 := n8_; have NB744_751 := n9_; have NB751_744 := n10_; have HB := n11_; clear n0_ n1_ n2_ n3_ n4_ n5_ n6_ n7_ n8_ n9_ n10_ n11_; (try clear hb); (try clear hb2); (try clear hk); (try clear hi); (try clear ho0); (try clear ho1); (try clear hgp); (try clear hbox); (try clear hge); (try clear hna_); (try clear hnb_); obtain ⟨Ao15, co15, eo15⟩ := Kd.R_slice HO747.out; subst eo15; obtain ⟨Ao16, co16, eo16⟩ := Kd.S_slice HO750.out; subst eo16) | (go_at_call 59; (with_reducible refine (impl_graph_isPainting.calls k gb751 a0_0 a0_1 A0_2 c0_2 l0_2 a1_0 a1_1 Ao15 co15 t745 Ao16 co16 t748 _ _ l2 true _ ?side1 ?side2 ?side3 ?side4 ?side5 ?side6 ?side7 ?side8 ?side9 A6.out).mono ?_); (case side1 => exact zae6); (case side2 => exact zae5); (case side3 => exact HC0_2.out); (case side4 => exact zae10); (case side5 => exact (Kd.R_reads' HO747.out).2.1); (case side6 => exact zae9); (case side7 => exact (Kd.S_reads' HO750.out).2.1); (case side8 => exact zae15); (case side9 => exact HC2.out); rintro e w17 ⟨rfl, hb⟩; have n0_ := Aside0.mk (Kd.R_below zae13 hb); have n1_ := Aside0.mk (Kd.S_below zae14 hb); have n2_ := Aside0.mk (blk_below (g := gb743) (o := .cells #[.int .i64 a0_0, .int .i64 a0_1, .slice A0_2 l0_2.length c0_2] 30 (0, 0)) zae2 hb); have n3_ := Aside0.mk (blk_below (g := gb744) (o := .cells #[.int .i64 a1_0, .int .i64 a1_1] 32 (0, 0)) zae3 hb); have n4_ := Aside0.mk (blk_below (g := gb751) (o := .cells #[.int .i64 a0_0, .int .i64 a0_1, .slice A0_2 l0_2.length c0_2, .int .i64 a1_0, .int .i64 a1_1, .slice Ao15 t745.length co15, .slice Ao16 t748.length co16] 84 (0, 0)) zae6 hb); have n5_ := Aside0.mk (below_step zae4 hb); clear HO747; clear HO750; clear BK743; clear BK744; clear BK751; clear HB; have HO747 := n0_; have HO750 := n1_; have BK743 := n2_; have BK744 := n3_; have BK751 := n4_; have HB := n5_; clear n0_ n1_ n2_ n3_ n4_ n5_; (try clear hb); (try clear hb2); (try clear hk); (try clear hi); (try clear hna_); (try clear hnb_)) | (go_at_call 60; (with_reducible refine (impl_graph_unlike.calls k gb751 a0_0 a0_1 A0_2 c0_2 l0_2 a1_0 a1_1 Ao15 co15 t745 Ao16 co16 t748 t755 _ ?side1 ?side2 ?side3 ?side4 ?side5 ?side6 ?side7 A8.out).mono ?_); (case side1 => exact zae6); (case side2 => exact zae5); (case side3 => exact HC0_2.out); (case side4 => exact zae10); (case side5 => exact (Kd.R_reads' HO747.out).2.1); (case side6 => exact zae9); (case side7 => exact (Kd.S_reads' HO750.out).2.1); rintro e w18 ⟨v756, rfl, ho0, hb⟩; have n0_ := Aside0.mk (Kd.R_below zae13 hb); have n1_ := Aside0.mk (Kd.S_elder' zae14 (Kd.S_base ho0) hb); have n2_ := Aside0.mk (Kd.S_lower (Kd.S_new' (Kd.S_new' ho0 (Kd.R_lt zae13)) (Kd.S_lt zae14)) (below_size zae4)); have n3_ := Aside0.mk (blk_below (g := gb743) (o := .cells #[.int .i64 a0_0, .int .i64 a0_1, .slice A0_2 l0_2.length c0_2] 30 (0, 0)) zae2 hb); have n4_ := Aside0.mk (blk_below (g := gb744) (o := .cells #[.int .i64 a1_0, .int .i64 a1_1] 32 (0, 0)) zae3 hb); have n5_ := Aside0.mk (blk_below (g := gb751) (o := .cells #[.int .i64 a0_0, .int .i64 a0_1, .slice A0_2 l0_2.length c0_2, .int .i64 a1_0, .int .i64 a1_1, .slice Ao15 t745.length co15, .slice Ao16 t748.length co16] 84 (0, 0)) zae6 hb); have n6_ := Aside0.mk (below_step zae4 hb); clear HO747; clear HO750; clear BK743; clear BK744; clear BK751; clear HB; have HO747 := n0_; have HO750 := n1_; have HO757 := n2_; have BK743 := n3_; have BK744 := n4_; have BK751 := n5_; have HB := n6_; clear n0_ n1_ n2_ n3_ n4_ n5_ n6_; (try clear hb); (try clear hb2); (try clear hk); (try clear hi); (try clear ho0); (try clear hna_); (try clear hnb_); obtain ⟨Ao19, co19, eo19⟩ := Kd.S_slice HO757.out; subst eo19))
 repeat ((first | go_quiet (first | (go_at_call 58; (with_reducible refine (impl_graphOf.calls k a0_0 a0_1 _ _ l0_2 a1_0 a1_1 t745 t748 true _ ?side1 ?side2 A4.out).mono ?_); (case side1 => exact zae5); (case side2 => exact HC0_2.out); rintro e w14 ⟨v746, v749, pv752, rfl, hgp, ho0, ho1, hb⟩; obtain ⟨gb751, rfl, hbox, hge⟩ := hgp.1 rfl; have n0_ := Aside0.mk (Kd.R_lower ho0 (below_size zae1)); have n1_ := Aside0.mk (Kd.S_lower ho1 (below_size zae1)); have n2_ := Aside0.mk (blk_below (g := gb743) (o := .cells #[.int .i64 a0_0, .int .i64 a0_1, .slice A0_2 l0_2.length c0_2] 30 (0, 0)) zae2 hb); have n3_ := Aside0.mk (blk_below (g := gb744) (o := .cells #[.int .i64 a1_0, .int .i64 a1_1] 32 (0, 0)) zae3 hb); have n4_ := Aside0.mk (hbox); have n5_ := Aside0.mk ((Nat.le_trans zae28 hge : w.heap.size ≤ gb751)); have n6_ := Aside0.mk ((Nat.le_trans zae28 hge : w.heap.size ≤ gb751)); have n7_ := Aside0.mk ((Nat.ne_of_lt (Nat.lt_of_lt_of_le (blk_lt (g := gb743) (o := .cells #[.int .i64 a0_0, .int .i64 a0_1, .slice A0_2 l0_2.length c0_2] 30 (0, 0)) zae2) hge) : gb743 ≠ gb751)); have n8_ := Aside0.mk ((Nat.ne_of_gt (Nat.lt_of_lt_of_le (blk_lt (g := gb743) (o := .cells #[.int .i64 a0_0, .int .i64 a0_1, .slice A0_2 l0_2.length c0_2] 30 (0, 0)) zae2) hge) : gb751 ≠ gb743)); have n9_ := Aside0.mk ((Nat.ne_of_lt (Nat.lt_of_lt_of_le (blk_lt (g := gb744) (o := .cells #[.int .i64 a1_0, .int .i64 a1_1] 32 (0, 0)) zae3) hge) : gb744 ≠ gb751)); have n10_ := Aside0.mk ((Nat.ne_of_gt (Nat.lt_of_lt_of_le (blk_lt (g := gb744) (o := .cells #[.int .i64 a1_0, .int .i64 a1_1] 32 (0, 0)) zae3) hge) : gb751 ≠ gb744)); have n11_ := Aside0.mk (below_step zae1 hb); clear BK743; clear BK744; clear HB; have HO747 := n0_; have HO750 := n1_; have BK743 := n2_; have BK744 := n3_; have BK751 := n4_; have GW751 := n5_; have GE751 := n6_; have NB743_751 := n7_; have NB751_743 := n8_; have NB744_751 := n9_; have NB751_744 := n10_; have HB := n11_; clear n0_ n1_ n2_ n3_ n4_ n5_ n6_ n7_ n8_ n9_ n10_ n11_; (try clear hb); (try clear hb2); (try clear hk); (try clear hi); (try clear ho0); (try clear ho1); (try clear hgp); (try clear hbox); (try clear hge); (try clear hna_); (try clear hnb_); obtain ⟨Ao15, co15, eo15⟩ := Kd.R_slice HO747.out; subst eo15; obtain ⟨Ao16, co16, eo16⟩ := Kd.S_slice HO750.out; subst eo16) | (go_at_call 59; (with_reducible refine (impl_graph_isPainting.calls k gb751 a0_0 a0_1 A0_2 c0_2 l0_2 a1_0 a1_1 Ao15 co15 t745 Ao16 co16 t748 _ _ l2 true _ ?side1 ?side2 ?side3 ?side4 ?side5 ?side6 ?side7 ?side8 ?side9 A6.out).mono ?_); (case side1 => exact zae6); (case side2 => exact zae5); (case side3 => exact HC0_2.out); (case side4 => exact zae10); (case side5 => exact (Kd.R_reads' HO747.out).2.1); (case side6 => exact zae9); (case side7 => exact (Kd.S_reads' HO750.out).2.1); (case side8 => exact zae15); (case side9 => exact HC2.out); rintro e w17 ⟨rfl, hb⟩; have n0_ := Aside0.mk (Kd.R_below zae13 hb); have n1_ := Aside0.mk (Kd.S_below zae14 hb); have n2_ := Aside0.mk (blk_below (g := gb743) (o := .cells #[.int .i64 a0_0, .int .i64 a0_1, .slice A0_2 l0_2.length c0_2] 30 (0, 0)) zae2 hb); have n3_ := Aside0.mk (blk_below (g := gb744) (o := .cells #[.int .i64 a1_0, .int .i64 a1_1] 32 (0, 0)) zae3 hb); have n4_ := Aside0.mk (blk_below (g := gb751) (o := .cells #[.int .i64 a0_0, .int .i64 a0_1, .slice A0_2 l0_2.length c0_2, .int .i64 a1_0, .int .i64 a1_1, .slice Ao15 t745.length co15, .slice Ao16 t748.length co16] 84 (0, 0)) zae6 hb); have n5_ := Aside0.mk (below_step zae4 hb); clear HO747; clear HO750; clear BK743; clear BK744; clear BK751; clear HB; have HO747 := n0_; have HO750 := n1_; have BK743 := n2_; have BK744 := n3_; have BK751 := n4_; have HB := n5_; clear n0_ n1_ n2_ n3_ n4_ n5_; (try clear hb); (try clear hb2); (try clear hk); (try clear hi); (try clear hna_); (try clear hnb_)) | (go_at_call 60; (with_reducible refine (impl_graph_unlike.calls k gb751 a0_0 a0_1 A0_2 c0_2 l0_2 a1_0 a1_1 Ao15 co15 t745 Ao16 co16 t748 t755 _ ?side1 ?side2 ?side3 ?side4 ?side5 ?side6 ?side7 A8.out).mono ?_); (case side1 => exact zae6); (case side2 => exact zae5); (case side3 => exact HC0_2.out); (case side4 => exact zae10); (case side5 => exact (Kd.R_reads' HO747.out).2.1); (case side6 => exact zae9); (case side7 => exact (Kd.S_reads' HO750.out).2.1); rintro e w18 ⟨v756, rfl, ho0, hb⟩; have n0_ := Aside0.mk (Kd.R_below zae13 hb); have n1_ := Aside0.mk (Kd.S_elder' zae14 (Kd.S_base ho0) hb); have n2_ := Aside0.mk (Kd.S_lower (Kd.S_new' (Kd.S_new' ho0 (Kd.R_lt zae13)) (Kd.S_lt zae14)) (below_size zae4)); have n3_ := Aside0.mk (blk_below (g := gb743) (o := .cells #[.int .i64 a0_0, .int .i64 a0_1, .slice A0_2 l0_2.length c0_2] 30 (0, 0)) zae2 hb); have n4_ := Aside0.mk (blk_below (g := gb744) (o := .cells #[.int .i64 a1_0, .int .i64 a1_1] 32 (0, 0)) zae3 hb); have n5_ := Aside0.mk (blk_below (g := gb751) (o := .cells #[.int .i64 a0_0, .int .i64 a0_1, .slice A0_2 l0_2.length c0_2, .int .i64 a1_0, .int .i64 a1_1, .slice Ao15 t745.length co15, .slice Ao16 t748.length co16] 84 (0, 0)) zae6 hb); have n6_ := Aside0.mk (below_step zae4 hb); clear HO747; clear HO750; clear BK743; clear BK744; clear BK751; clear HB; have HO747 := n0_; have HO750 := n1_; have HO757 := n2_; have BK743 := n3_; have BK744 := n4_; have BK751 := n5_; have HB := n6_; clear n0_ n1_ n2_ n3_ n4_ n5_ n6_; (try clear hb); (try clear hb2); (try clear hk); (try clear hi); (try clear ho0); (try clear hna_); (try clear hnb_); obtain ⟨Ao19, co19, eo19⟩ := Kd.S_slice HO757.out; subst eo19)) | (refine wp_region_quiet_lit (by kernel_rfl) (by kernel_rfl) ?_; (repeat (any_goals (first | go_big_quiet_step (first | (go_at_call 58; (with_reducible refine (impl_graphOf.calls k a0_0 a0_1 _ _ l0_2 a1_0 a1_1 t745 t748 true _ ?side1 ?side2 A4.out).mono ?_); (case side1 => exact zae5); (case side2 => exact HC0_2.out); rintro e w14 ⟨v746, v749, pv752, rfl, hgp, ho0, ho1, hb⟩; obtain ⟨gb751, rfl, hbox, hge⟩ := hgp.1 rfl; have n0_ := Aside0.mk (Kd.R_lower ho0 (below_size zae1)); have n1_ := Aside0.mk (Kd.S_lower ho1 (below_size zae1)); have n2_ := Aside0.mk (blk_below (g := gb743) (o := .cells #[.int .i64 a0_0, .int .i64 a0_1, .slice A0_2 l0_2.length c0_2] 30 (0, 0)) zae2 hb); have n3_ := Aside0.mk (blk_below (g := gb744) (o := .cells #[.int .i64 a1_0, .int .i64 a1_1] 32 (0, 0)) zae3 hb); have n4_ := Aside0.mk (hbox); have n5_ := Aside0.mk ((Nat.le_trans zae28 hge : w.heap.size ≤ gb751)); have n6_ := Aside0.mk ((Nat.le_trans zae28 hge : w.heap.size ≤ gb751)); have n7_ := Aside0.mk ((Nat.ne_of_lt (Nat.lt_of_lt_of_le (blk_lt (g := gb743) (o := .cells #[.int .i64 a0_0, .int .i64 a0_1, .slice A0_2 l0_2.length c0_2] 30 (0, 0)) zae2) hge) : gb743 ≠ gb751)); have n8_ := Aside0.mk ((Nat.ne_of_gt (Nat.lt_of_lt_of_le (blk_lt (g := gb743) (o := .cells #[.int .i64 a0_0, .int .i64 a0_1, .slice A0_2 l0_2.length c0_2] 30 (0, 0)) zae2) hge) : gb751 ≠ gb743)); have n9_ := Aside0.mk ((Nat.ne_of_lt (Nat.lt_of_lt_of_le (blk_lt (g := gb744) (o := .cells #[.int .i64 a1_0, .int .i64 a1_1] 32 (0, 0)) zae3) hge) : gb744 ≠ gb751)); have n10_ := Aside0.mk ((Nat.ne_of_gt (Nat.lt_of_lt_of_le (blk_lt (g := gb744) (o := .cells #[.int .i64 a1_0, .int .i64 a1_1] 32 (0, 0)) zae3) hge) : gb751 ≠ gb744)); have n11_ := Aside0.mk (below_step zae1 hb); clear BK743; clear BK744; clear HB; have HO747 := n0_; have HO750 := n1_; have BK743 := n2_; have BK744 := n3_; have BK751 := n4_; have GW751 := n5_; have GE751 := n6_; have NB743_751 := n7_; have NB751_743 := n8_; have NB744_751 := n9_; have NB751_744 := n10_; have HB := n11_; clear n0_ n1_ n2_ n3_ n4_ n5_ n6_ n7_ n8_ n9_ n10_ n11_; (try clear hb); (try clear hb2); (try clear hk); (try clear hi); (try clear ho0); (try clear ho1); (try clear hgp); (try clear hbox); (try clear hge); (try clear hna_); (try clear hnb_); obtain ⟨Ao15, co15, eo15⟩ := Kd.R_slice HO747.out; subst eo15; obtain ⟨Ao16, co16, eo16⟩ := Kd.S_slice HO750.out; subst eo16) | (go_at_call 59; (with_reducible refine (impl_graph_isPainting.calls k gb751 a0_0 a0_1 A0_2 c0_2 l0_2 a1_0 a1_1 Ao15 co15 t745 Ao16 co16 t748 _ _ l2 true _ ?side1 ?side2 ?side3 ?side4 ?side5 ?side6 ?side7 ?side8 ?side9 A6.out).mono ?_); (case side1 => exact zae6); (case side2 => exact zae5); (case side3 => exact HC0_2.out); (case side4 => exact zae10); (case side5 => exact (Kd.R_reads' HO747.out).2.1); (case side6 => exact zae9); (case side7 => exact (Kd.S_reads' HO750.out).2.1); (case side8 => exact zae15); (case side9 => exact HC2.out); rintro e w17 ⟨rfl, hb⟩; have n0_ := Aside0.mk (Kd.R_below zae13 hb); have n1_ := Aside0.mk (Kd.S_below zae14 hb); have n2_ := Aside0.mk (blk_below (g := gb743) (o := .cells #[.int .i64 a0_0, .int .i64 a0_1, .slice A0_2 l0_2.length c0_2] 30 (0, 0)) zae2 hb); have n3_ := Aside0.mk (blk_below (g := gb744) (o := .cells #[.int .i64 a1_0, .int .i64 a1_1] 32 (0, 0)) zae3 hb); have n4_ := Aside0.mk (blk_below (g := gb751) (o := .cells #[.int .i64 a0_0, .int .i64 a0_1, .slice A0_2 l0_2.length c0_2, .int .i64 a1_0, .int .i64 a1_1, .slice Ao15 t745.length co15, .slice Ao16 t748.length co16] 84 (0, 0)) zae6 hb); have n5_ := Aside0.mk (below_step zae4 hb); clear HO747; clear HO750; clear BK743; clear BK744; clear BK751; clear HB; have HO747 := n0_; have HO750 := n1_; have BK743 := n2_; have BK744 := n3_; have BK751 := n4_; have HB := n5_; clear n0_ n1_ n2_ n3_ n4_ n5_; (try clear hb); (try clear hb2); (try clear hk); (try clear hi); (try clear hna_); (try clear hnb_)) | (go_at_call 60; (with_reducible refine (impl_graph_unlike.calls k gb751 a0_0 a0_1 A0_2 c0_2 l0_2 a1_0 a1_1 Ao15 co15 t745 Ao16 co16 t748 t755 _ ?side1 ?side2 ?side3 ?side4 ?side5 ?side6 ?side7 A8.out).mono ?_); (case side1 => exact zae6); (case side2 => exact zae5); (case side3 => exact HC0_2.out); (case side4 => exact zae10); (case side5 => exact (Kd.R_reads' HO747.out).2.1); (case side6 => exact zae9); (case side7 => exact (Kd.S_reads' HO750.out).2.1); rintro e w18 ⟨v756, rfl, ho0, hb⟩; have n0_ := Aside0.mk (Kd.R_below zae13 hb); have n1_ := Aside0.mk (Kd.S_elder' zae14 (Kd.S_base ho0) hb); have n2_ := Aside0.mk (Kd.S_lower (Kd.S_new' (Kd.S_new' ho0 (Kd.R_lt zae13)) (Kd.S_lt zae14)) (below_size zae4)); have n3_ := Aside0.mk (blk_below (g := gb743) (o := .cells #[.int .i64 a0_0, .int .i64 a0_1, .slice A0_2 l0_2.length c0_2] 30 (0, 0)) zae2 hb); have n4_ := Aside0.mk (blk_below (g := gb744) (o := .cells #[.int .i64 a1_0, .int .i64 a1_1] 32 (0, 0)) zae3 hb); have n5_ := Aside0.mk (blk_below (g := gb751) (o := .cells #[.int .i64 a0_0, .int .i64 a0_1, .slice A0_2 l0_2.length c0_2, .int .i64 a1_0, .int .i64 a1_1, .slice Ao15 t745.length co15, .slice Ao16 t748.length co16] 84 (0, 0)) zae6 hb); have n6_ := Aside0.mk (below_step zae4 hb); clear HO747; clear HO750; clear BK743; clear BK744; clear BK751; clear HB; have HO747 := n0_; have HO750 := n1_; have HO757 := n2_; have BK743 := n3_; have BK744 := n4_; have BK751 := n5_; have HB := n6_; clear n0_ n1_ n2_ n3_ n4_ n5_ n6_; (try clear hb); (try clear hb2); (try clear hk); (try clear hi); (try clear ho0); (try clear hna_); (try clear hnb_); obtain ⟨Ao19, co19, eo19⟩ := Kd.S_slice HO757.out; subst eo19)) | quiet_step (first | (go_at_call 58; (with_reducible refine (impl_graphOf.calls k a0_0 a0_1 _ _ l0_2 a1_0 a1_1 t745 t748 true _ ?side1 ?side2 A4.out).mono ?_); (case side1 => exact zae5); (case side2 => exact HC0_2.out); rintro e w14 ⟨v746, v749, pv752, rfl, hgp, ho0, ho1, hb⟩; obtain ⟨gb751, rfl, hbox, hge⟩ := hgp.1 rfl; have n0_ := Aside0.mk (Kd.R_lower ho0 (below_size zae1)); have n1_ := Aside0.mk (Kd.S_lower ho1 (below_size zae1)); have n2_ := Aside0.mk (blk_below (g := gb743) (o := .cells #[.int .i64 a0_0, .int .i64 a0_1, .slice A0_2 l0_2.length c0_2] 30 (0, 0)) zae2 hb); have n3_ := Aside0.mk (blk_below (g := gb744) (o := .cells #[.int .i64 a1_0, .int .i64 a1_1] 32 (0, 0)) zae3 hb); have n4_ := Aside0.mk (hbox); have n5_ := Aside0.mk ((Nat.le_trans zae28 hge : w.heap.size ≤ gb751)); have n6_ := Aside0.mk ((Nat.le_trans zae28 hge : w.heap.size ≤ gb751)); have n7_ := Aside0.mk ((Nat.ne_of_lt (Nat.lt_of_lt_of_le (blk_lt (g := gb743) (o := .cells #[.int .i64 a0_0, .int .i64 a0_1, .slice A0_2 l0_2.length c0_2] 30 (0, 0)) zae2) hge) : gb743 ≠ gb751)); have n8_ := Aside0.mk ((Nat.ne_of_gt (Nat.lt_of_lt_of_le (blk_lt (g := gb743) (o := .cells #[.int .i64 a0_0, .int .i64 a0_1, .slice A0_2 l0_2.length c0_2] 30 (0, 0)) zae2) hge) : gb751 ≠ gb743)); have n9_ := Aside0.mk ((Nat.ne_of_lt (Nat.lt_of_lt_of_le (blk_lt (g := gb744) (o := .cells #[.int .i64 a1_0, .int .i64 a1_1] 32 (0, 0)) zae3) hge) : gb744 ≠ gb751)); have n10_ := Aside0.mk ((Nat.ne_of_gt (Nat.lt_of_lt_of_le (blk_lt (g := gb744) (o := .cells #[.int .i64 a1_0, .int .i64 a1_1] 32 (0, 0)) zae3) hge) : gb751 ≠ gb744)); have n11_ := Aside0.mk (below_step zae1 hb); clear BK743; clear BK744; clear HB; have HO747 := n0_; have HO750 := n1_; have BK743 := n2_; have BK744 := n3_; have BK751 := n4_; have GW751 := n5_; have GE751 := n6_; have NB743_751 := n7_; have NB751_743 := n8_; have NB744_751 := n9_; have NB751_744 := n10_; have HB := n11_; clear n0_ n1_ n2_ n3_ n4_ n5_ n6_ n7_ n8_ n9_ n10_ n11_; (try clear hb); (try clear hb2); (try clear hk); (try clear hi); (try clear ho0); (try clear ho1); (try clear hgp); (try clear hbox); (try clear hge); (try clear hna_); (try clear hnb_); obtain ⟨Ao15, co15, eo15⟩ := Kd.R_slice HO747.out; subst eo15; obtain ⟨Ao16, co16, eo16⟩ := Kd.S_slice HO750.out; subst eo16) | (go_at_call 59; (with_reducible refine (impl_graph_isPainting.calls k gb751 a0_0 a0_1 A0_2 c0_2 l0_2 a1_0 a1_1 Ao15 co15 t745 Ao16 co16 t748 _ _ l2 true _ ?side1 ?side2 ?side3 ?side4 ?side5 ?side6 ?side7 ?side8 ?side9 A6.out).mono ?_); (case side1 => exact zae6); (case side2 => exact zae5); (case side3 => exact HC0_2.out); (case side4 => exact zae10); (case side5 => exact (Kd.R_reads' HO747.out).2.1); (case side6 => exact zae9); (case side7 => exact (Kd.S_reads' HO750.out).2.1); (case side8 => exact zae15); (case side9 => exact HC2.out); rintro e w17 ⟨rfl, hb⟩; have n0_ := Aside0.mk (Kd.R_below zae13 hb); have n1_ := Aside0.mk (Kd.S_below zae14 hb); have n2_ := Aside0.mk (blk_below (g := gb743) (o := .cells #[.int .i64 a0_0, .int .i64 a0_1, .slice A0_2 l0_2.length c0_2] 30 (0, 0)) zae2 hb); have n3_ := Aside0.mk (blk_below (g := gb744) (o := .cells #[.int .i64 a1_0, .int .i64 a1_1] 32 (0, 0)) zae3 hb); have n4_ := Aside0.mk (blk_below (g := gb751) (o := .cells #[.int .i64 a0_0, .int .i64 a0_1, .slice A0_2 l0_2.length c0_2, .int .i64 a1_0, .int .i64 a1_1, .slice Ao15 t745.length co15, .slice Ao16 t748.length co16] 84 (0, 0)) zae6 hb); have n5_ := Aside0.mk (below_step zae4 hb); clear HO747; clear HO750; clear BK743; clear BK744; clear BK751; clear HB; have HO747 := n0_; have HO750 := n1_; have BK743 := n2_; have BK744 := n3_; have BK751 := n4_; have HB := n5_; clear n0_ n1_ n2_ n3_ n4_ n5_; (try clear hb); (try clear hb2); (try clear hk); (try clear hi); (try clear hna_); (try clear hnb_)) | (go_at_call 60; (with_reducible refine (impl_graph_unlike.calls k gb751 a0_0 a0_1 A0_2 c0_2 l0_2 a1_0 a1_1 Ao15 co15 t745 Ao16 co16 t748 t755 _ ?side1 ?side2 ?side3 ?side4 ?side5 ?side6 ?side7 A8.out).mono ?_); (case side1 => exact zae6); (case side2 => exact zae5); (case side3 => exact HC0_2.out); (case side4 => exact zae10); (case side5 => exact (Kd.R_reads' HO747.out).2.1); (case side6 => exact zae9); (case side7 => exact (Kd.S_reads' HO750.out).2.1); rintro e w18 ⟨v756, rfl, ho0, hb⟩; have n0_ := Aside0.mk (Kd.R_below zae13 hb); have n1_ := Aside0.mk (Kd.S_elder' zae14 (Kd.S_base ho0) hb); have n2_ := Aside0.mk (Kd.S_lower (Kd.S_new' (Kd.S_new' ho0 (Kd.R_lt zae13)) (Kd.S_lt zae14)) (below_size zae4)); have n3_ := Aside0.mk (blk_below (g := gb743) (o := .cells #[.int .i64 a0_0, .int .i64 a0_1, .slice A0_2 l0_2.length c0_2] 30 (0, 0)) zae2 hb); have n4_ := Aside0.mk (blk_below (g := gb744) (o := .cells #[.int .i64 a1_0, .int .i64 a1_1] 32 (0, 0)) zae3 hb); have n5_ := Aside0.mk (blk_below (g := gb751) (o := .cells #[.int .i64 a0_0, .int .i64 a0_1, .slice A0_2 l0_2.length c0_2, .int .i64 a1_0, .int .i64 a1_1, .slice Ao15 t745.length co15, .slice Ao16 t748.length co16] 84 (0, 0)) zae6 hb); have n6_ := Aside0.mk (below_step zae4 hb); clear HO747; clear HO750; clear BK743; clear BK744; clear BK751; clear HB; have HO747 := n0_; have HO750 := n1_; have HO757 := n2_; have BK743 := n3_; have BK744 := n4_; have BK751 := n5_; have HB := n6_; clear n0_ n1_ n2_ n3_ n4_ n5_ n6_; (try clear hb); (try clear hb2); (try clear hk); (try clear hi); (try clear ho0); (try clear hna_); (try clear hnb_); obtain ⟨Ao19, co19, eo19⟩ := Kd.S_slice HO757.out; subst eo19))))); all_goals (refine wpQuiet_nil ?_; intro _ hw2_; obtain ⟨nq, hw3_⟩ := hw2_; subst hw3_))); try go_wp2_with (first | ((with_reducible refine gate_dst (N := 3) rfl ?_); refine box_event ?hg (N := 3) ?hd (cs := #[.int .i64 a0_0, .int .i64 a0_1, .slice A0_2 l0_2.length c0_2]) (t := 30) ?hr ?_; (case hd => rfl); (case hg => rfl); (case hr => first | (go_simp; done) | (go_simp; rfl)); intro gb743 hg w9 hbox hb; have n0_ := Aside0.mk (below_step zae12 hb); have n1_ := Aside0.mk (hbox); have n2_ := Aside0.mk ((zae29 : w.heap.size ≤ gb743)); have n3_ := Aside0.mk ((zae29 : w.heap.size ≤ gb743)); clear HB; have HB := n0_; have BK743 := n1_; have GW743 := n2_; have GE743 := n3_; clear n0_ n1_ n2_ n3_; clear hb hbox hg) | ((with_reducible refine gate_dst (N := 4) rfl ?_); refine box_event ?hg (N := 4) ?hd (cs := #[.int .i64 a1_0, .int .i64 a1_1]) (t := 32) ?hr ?_; (case hd => rfl); (case hg => rfl); (case hr => first | (go_simp; done) | (go_simp; rfl)); intro gb744 hg w10 hbox hb; have n0_ := Aside0.mk (blk_below (g := gb743) (o := .cells #[.int .i64 a0_0, .int .i64 a0_1, .slice A0_2 l0_2.length c0_2] 30 (0, 0)) zae2 hb); have n1_ := Aside0.mk (below_step zae7 hb); have n2_ := Aside0.mk (hbox); have n3_ := Aside0.mk ((zae30 : w.heap.size ≤ gb744)); have n4_ := Aside0.mk ((zae30 : w.heap.size ≤ gb744)); have n5_ := Aside0.mk ((zae26 : gb743 ≠ gb744)); have n6_ := Aside0.mk ((zae27 : gb744 ≠ gb743)); clear BK743; clear HB; have BK743 := n0_; have HB := n1_; have BK744 := n2_; have GW744 := n3_; have GE744 := n4_; have NB743_744 := n5_; have NB744_743 := n6_; clear n0_ n1_ n2_ n3_ n4_ n5_ n6_; clear hb hbox hg; have hnb11 := NB743_744.out; have hnc11 := NB744_743.out; have hcz12_0 : w10.cell? ⟨gb743, 0, none⟩ = some (.int .i64 a0_0) := (blk_cell BK743.out 0).trans rfl; have hcz12_1 : w10.cell? ⟨gb743, 1, none⟩ = some (.int .i64 a0_1) := (blk_cell BK743.out 1).trans rfl; have hcz12_2 : w10.cell? ⟨gb743, 2, none⟩ = some (.slice A0_2 l0_2.length c0_2) := (blk_cell BK743.out 2).trans rfl; have hfz12_0 := blk_frozen BK743.out 0; have hfz12_1 := blk_frozen BK743.out 1; have hfz12_2 := blk_frozen BK743.out 2; have hcz13_0 : w10.cell? ⟨gb744, 0, none⟩ = some (.int .i64 a1_0) := (blk_cell BK744.out 0).trans rfl; have hcz13_1 : w10.cell? ⟨gb744, 1, none⟩ = some (.int .i64 a1_1) := (blk_cell BK744.out 1).trans rfl; have hfz13_0 := blk_frozen BK744.out 0; have hfz13_1 := blk_frozen BK744.out 1) | (go_at_call 58; (with_reducible refine (impl_graphOf.calls k a0_0 a0_1 _ _ l0_2 a1_0 a1_1 t745 t748 true _ ?side1 ?side2 A4.out).mono ?_); (case side1 => exact zae5); (case side2 => exact HC0_2.out); rintro e w14 ⟨v746, v749, pv752, rfl, hgp, ho0, ho1, hb⟩; obtain ⟨gb751, rfl, hbox, hge⟩ := hgp.1 rfl; have n0_ := Aside0.mk (Kd.R_lower ho0 (below_size zae1)); have n1_ := Aside0.mk (Kd.S_lower ho1 (below_size zae1)); have n2_ := Aside0.mk (blk_below (g := gb743) (o := .cells #[.int .i64 a0_0, .int .i64 a0_1, .slice A0_2 l0_2.length c0_2] 30 (0, 0)) zae2 hb); have n3_ := Aside0.mk (blk_below (g := gb744) (o := .cells #[.int .i64 a1_0, .int .i64 a1_1] 32 (0, 0)) zae3 hb); have n4_ := Aside0.mk (hbox); have n5_ := Aside0.mk ((Nat.le_trans zae28 hge : w.heap.size ≤ gb751)); have n6_ := Aside0.mk ((Nat.le_trans zae28 hge : w.heap.size ≤ gb751)); have n7_ := Aside0.mk ((Nat.ne_of_lt (Nat.lt_of_lt_of_le (blk_lt (g := gb743) (o := .cells #[.int .i64 a0_0, .int .i64 a0_1, .slice A0_2 l0_2.length c0_2] 30 (0, 0)) zae2) hge) : gb743 ≠ gb751)); have n8_ := Aside0.mk ((Nat.ne_of_gt (Nat.lt_of_lt_of_le (blk_lt (g := gb743) (o := .cells #[.int .i64 a0_0, .int .i64 a0_1, .slice A0_2 l0_2.length c0_2] 30 (0, 0)) zae2) hge) : gb751 ≠ gb743)); have n9_ := Aside0.mk ((Nat.ne_of_lt (Nat.lt_of_lt_of_le (blk_lt (g := gb744) (o := .cells #[.int .i64 a1_0, .int .i64 a1_1] 32 (0, 0)) zae3) hge) : gb744 ≠ gb751)); have n10_ := Aside0.mk ((Nat.ne_of_gt (Nat.lt_of_lt_of_le (blk_lt (g := gb744) (o := .cells #[.int .i64 a1_0, .int .i64 a1_1] 32 (0, 0)) zae3) hge) : gb751 ≠ gb744)); have n11_ := Aside0.mk (below_step zae1 hb); clear BK743; clear BK744; clear HB; have HO747 := n0_; have HO750 := n1_; have BK743 := n2_; have BK744 := n3_; have BK751 := n4_; have GW751 := n5_; have GE751 := n6_; have NB743_751 := n7_; have NB751_743 := n8_; have NB744_751 := n9_; have NB751_744 := n10_; have HB := n11_; clear n0_ n1_ n2_ n3_ n4_ n5_ n6_ n7_ n8_ n9_ n10_ n11_; (try clear hb); (try clear hb2); (try clear hk); (try clear hi); (try clear ho0); (try clear ho1); (try clear hgp); (try clear hbox); (try clear hge); (try clear hna_); (try clear hnb_); obtain ⟨Ao15, co15, eo15⟩ := Kd.R_slice HO747.out; subst eo15; obtain ⟨Ao16, co16, eo16⟩ := Kd.S_slice HO750.out; subst eo16) | (go_at_call 59; (with_reducible refine (impl_graph_isPainting.calls k gb751 a0_0 a0_1 A0_2 c0_2 l0_2 a1_0 a1_1 Ao15 co15 t745 Ao16 co16 t748 _ _ l2 true _ ?side1 ?side2 ?side3 ?side4 ?side5 ?side6 ?side7 ?side8 ?side9 A6.out).mono ?_); (case side1 => exact zae6); (case side2 => exact zae5); (case side3 => exact HC0_2.out); (case side4 => exact zae10); (case side5 => exact (Kd.R_reads' HO747.out).2.1); (case side6 => exact zae9); (case side7 => exact (Kd.S_reads' HO750.out).2.1); (case side8 => exact zae15); (case side9 => exact HC2.out); rintro e w17 ⟨rfl, hb⟩; have n0_ := Aside0.mk (Kd.R_below zae13 hb); have n1_ := Aside0.mk (Kd.S_below zae14 hb); have n2_ := Aside0.mk (blk_below (g := gb743) (o := .cells #[.int .i64 a0_0, .int .i64 a0_1, .slice A0_2 l0_2.length c0_2] 30 (0, 0)) zae2 hb); have n3_ := Aside0.mk (blk_below (g := gb744) (o := .cells #[.int .i64 a1_0, .int .i64 a1_1] 32 (0, 0)) zae3 hb); have n4_ := Aside0.mk (blk_below (g := gb751) (o := .cells #[.int .i64 a0_0, .int .i64 a0_1, .slice A0_2 l0_2.length c0_2, .int .i64 a1_0, .int .i64 a1_1, .slice Ao15 t745.length co15, .slice Ao16 t748.length co16] 84 (0, 0)) zae6 hb); have n5_ := Aside0.mk (below_step zae4 hb); clear HO747; clear HO750; clear BK743; clear BK744; clear BK751; clear HB; have HO747 := n0_; have HO750 := n1_; have BK743 := n2_; have BK744 := n3_; have BK751 := n4_; have HB := n5_; clear n0_ n1_ n2_ n3_ n4_ n5_; (try clear hb); (try clear hb2); (try clear hk); (try clear hi); (try clear hna_); (try clear hnb_)) | (go_at_call 60; (with_reducible refine (impl_graph_unlike.calls k gb751 a0_0 a0_1 A0_2 c0_2 l0_2 a1_0 a1_1 Ao15 co15 t745 Ao16 co16 t748 t755 _ ?side1 ?side2 ?side3 ?side4 ?side5 ?side6 ?side7 A8.out).mono ?_); (case side1 => exact zae6); (case side2 => exact zae5); (case side3 => exact HC0_2.out); (case side4 => exact zae10); (case side5 => exact (Kd.R_reads' HO747.out).2.1); (case side6 => exact zae9); (case side7 => exact (Kd.S_reads' HO750.out).2.1); rintro e w18 ⟨v756, rfl, ho0, hb⟩; have n0_ := Aside0.mk (Kd.R_below zae13 hb); have n1_ := Aside0.mk (Kd.S_elder' zae14 (Kd.S_base ho0) hb); have n2_ := Aside0.mk (Kd.S_lower (Kd.S_new' (Kd.S_new' ho0 (Kd.R_lt zae13)) (Kd.S_lt zae14)) (below_size zae4)); have n3_ := Aside0.mk (blk_below (g := gb743) (o := .cells #[.int .i64 a0_0, .int .i64 a0_1, .slice A0_2 l0_2.length c0_2] 30 (0, 0)) zae2 hb); have n4_ := Aside0.mk (blk_below (g := gb744) (o := .cells #[.int .i64 a1_0, .int .i64 a1_1] 32 (0, 0)) zae3 hb); have n5_ := Aside0.mk (blk_below (g := gb751) (o := .cells #[.int .i64 a0_0, .int .i64 a0_1, .slice A0_2 l0_2.length c0_2, .int .i64 a1_0, .int .i64 a1_1, .slice Ao15 t745.length co15, .slice Ao16 t748.length co16] 84 (0, 0)) zae6 hb); have n6_ := Aside0.mk (below_step zae4 hb); clear HO747; clear HO750; clear BK743; clear BK744; clear BK751; clear HB; have HO747 := n0_; have HO750 := n1_; have HO757 := n2_; have BK743 := n3_; have BK744 := n4_; have BK751 := n5_; have HB := n6_; clear n0_ n1_ n2_ n3_ n4_ n5_ n6_; (try clear hb); (try clear hb2); (try clear hk); (try clear hi); (try clear ho0); (try clear hna_); (try clear hnb_); obtain ⟨Ao19, co19, eo19⟩ := Kd.S_slice HO757.out; subst eo19)))
 go_loopg [29] k (fun kq v29 w' => ∃ (x29_1 : Int), v29 = .int .i64 x29_1 ∧ Aside0 (impl_IsFarPainting.l0 kq l2 t755 (t755.length : Int) x29_1 = some (r1, r2)) ∧ Aside0 (kq ≤ k) ∧ Aside0 (Kd.S (Kd.slice 3 (Kd.int .i64)) 22 w' w.heap.size (fun k_ => some k_ ≠ ((.slice Ao15 t745.length co15) : Value).ownBlock ∧ some k_ ≠ ((.slice Ao16 t748.length co16) : Value).ownBlock) (.slice Ao19 t755.length co19) t755) ∧ Aside0 (Kd.R (Kd.int .i64) 3 w' w.heap.size (fun _ => True) (.slice Ao15 t745.length co15) t745) ∧ Aside0 (Kd.S (Kd.slice 3 (Kd.int .i64)) 22 w' w.heap.size (fun k_ => some k_ ≠ ((.slice Ao19 t755.length co19) : Value).ownBlock ∧ some k_ ≠ ((.slice Ao15 t745.length co15) : Value).ownBlock) (.slice Ao16 t748.length co16) t748) ∧ Aside0 (w'.heap[gb743]? = some (.cells #[.int .i64 a0_0, .int .i64 a0_1, (.slice A0_2 l0_2.length c0_2)] 30 (0, 0))) ∧ Aside0 (w'.heap[gb744]? = some (.cells #[.int .i64 a1_0, .int .i64 a1_1] 32 (0, 0))) ∧ Aside0 (w'.heap[gb751]? = some (.cells #[.int .i64 a0_0, .int .i64 a0_1, (.slice A0_2 l0_2.length c0_2), .int .i64 a1_0, .int .i64 a1_1, (.slice Ao15 t745.length co15), (.slice Ao16 t748.length co16)] 84 (0, 0))) ∧ Aside0 (Below w.heap.size w w'))
 case atStart => exact ⟨(0), zae19, H', ⟨Nat.le_refl _⟩, ⟨by (with_reducible repeat (first | apply Kd.S_alloc | apply Kd.S_drewN | apply Kd.S_drew)); exact Kd.S_mono HO757.out (fun _ hk => ⟨hk.1.2, hk.2⟩)⟩, ⟨zae13⟩, ⟨by (with_reducible repeat (first | apply Kd.S_alloc | apply Kd.S_drewN | apply Kd.S_drew)); exact Kd.S_mono HO750.out (fun _ hk => ⟨hk.2, hk.1⟩)⟩, ⟨zae2⟩, ⟨zae3⟩, ⟨zae6⟩, ⟨zae4⟩⟩
 case round =>
  clear H'
  try clear c1; try clear c2; try clear p2; try clear c5; try clear c7; try clear c11; try clear hcz12_0; try clear hcz12_1; try clear hcz12_2; try clear hcz13_0; try clear hcz13_1; try clear hfz12_0; try clear hfz12_1; try clear hfz12_2; try clear hfz13_0; try clear hfz13_1
  obtain ⟨x29_1, rfl, HA, HK1, HO_27, HO_752005, HO_752006, BK743, BK744, BK751, HB⟩ := hrel
  cases gk with
  | zero => exact absurd HA.out (by simp [impl_IsFarPainting.l0])
  | succ k1 =>
   have H := HA.out
   clear HA
   simp only [impl_IsFarPainting.l0] at H
   by_cases c20 : x29_1 < (t755.length : Int)
   rotate_left
   ·rw [if_neg c20] at H
    have c20b0 : decide (x29_1 < (t755.length : Int)) = false := decide_eq_false c20
    clear c20
    simp only [Option.some.injEq, Prod.mk.injEq] at H
    obtain ⟨rfl, rfl⟩ := H
    go_wp2
    repeat ((first | go_quiet (fail) | (refine wp_region_quiet_lit (by kernel_rfl) (by kernel_rfl) ?_; (repeat (any_goals (first | go_big_quiet_step (fail) | quiet_step (fail)))); all_goals (refine wpQuiet_nil ?_; intro _ hw2_; obtain ⟨nq, hw3_⟩ := hw2_; subst hw3_))); try go_wp2)
    go_ret2
    exact ⟨zae20, zae4⟩
   rw [if_pos c20] at H
   have c20b0 : decide (x29_1 < (t755.length : Int)) = true := decide_eq_true c20
   clear c20
   by_cases c21 : 0 ≤ x29_1
   rotate_left
   ·rw [if_neg c21] at H
    exact absurd H (by simp)
   rw [if_pos c21] at H
   have c21b0 : decide (0 ≤ x29_1) = true := decide_eq_true c21
   clear c21
   by_cases c22 : x29_1 < (t755.length : Int)
   rotate_left
   ·rw [if_neg c22] at H
    exact absurd H (by simp)
   rw [if_pos c22] at H
   have c22b0 : decide (x29_1 < (t755.length : Int)) = true := decide_eq_true c22
   clear c22
   have H' := Aside0.mk H
   clear H
   have p758 : 0 ≤ (x29_1 : Int) := of_decide_eq_true zae8
   have q758 : x29_1 < (t755.length : Int) := of_decide_eq_true zae8
   obtain ⟨ad758, A758_0, c758_0, e758, hx758_0, hl758_0, hi758_0⟩ := at_L1 (Kd.S_reads' HO_27.out).2.2 x29_1 p758 q758
   cases e758
   obtain ⟨ce758, hce758, hMe758, hcc758⟩ := Kd.S_get HO_27.out [] x29_1 p758 (by first | exact q758 | exact of_decide_eq_true zae8 | (have e_ := (Kd.S_reads' HO_27.out).1; omega))
   obtain ⟨ve758_0, rfl, ge758_0⟩ := hMe758
   have hv758_0 := hcc758 0 _ rfl
   rw [Nat.add_zero, show ((Kd.slice 3 (Kd.int .i64))).sz = 1 from rfl, Nat.mul_one] at hv758_0
   replace hv758_0 := Option.some.inj (hv758_0.symm.trans hx758_0)
   rw [hv758_0] at ge758_0
   have HL758_0 := Aside0.mk (show Kd.R (Kd.int .i64) 3 _ _ _ _ (rd_L1 t755 x29_1) from ge758_0)
   clear hv758_0 ge758_0
   clear hcc758 hce758
   have HR758_0 := Aside0.mk hi758_0
   have HC758_0 := Aside0.mk hl758_0
   clear hi758_0 hl758_0
   replace p758 := eq_true p758
   replace q758 := eq_true q758
   go_wp2
   repeat ((first | go_quiet (fail) | (refine wp_region_quiet_lit (by kernel_rfl) (by kernel_rfl) ?_; (repeat (any_goals (first | go_big_quiet_step (fail) | quiet_step (fail)))); all_goals (refine wpQuiet_nil ?_; intro _ hw2_; obtain ⟨nq, hw3_⟩ := hw2_; subst hw3_))); try go_wp2)
   go_loopg [36] k1 (fun kq v36 w' => ∃ (x36_2 : Int), v36 = .int .i64 x36_2 ∧ Aside0 (impl_IsFarPainting.l1 kq l2 x29_1 t755 (t755.length : Int) x29_1 (rd_L1 t755 x29_1) ((rd_L1 t755 x29_1).length : Int) x36_2 = some (r1, r2)) ∧ Aside0 (kq ≤ k1) ∧ Aside0 (Kd.S (Kd.slice 3 (Kd.int .i64)) 22 w' w.heap.size (fun k_ => some k_ ≠ ((.slice Ao15 t745.length co15) : Value).ownBlock ∧ some k_ ≠ ((.slice Ao16 t748.length co16) : Value).ownBlock) (.slice (some ad758) t755.length co19) t755) ∧ Aside0 (Kd.R (Kd.int .i64) 3 w' w.heap.size (fun _ => True) (.slice Ao15 t745.length co15) t745) ∧ Aside0 (Kd.S (Kd.slice 3 (Kd.int .i64)) 22 w' w.heap.size (fun k_ => some k_ ≠ ((.slice (some ad758) t755.length co19) : Value).ownBlock ∧ some k_ ≠ ((.slice Ao15 t745.length co15) : Value).ownBlock) (.slice Ao16 t748.length co16) t748) ∧ Aside0 (w'.heap[gb743]? = some (.cells #[.int .i64 a0_0, .int .i64 a0_1, (.slice A0_2 l0_2.length c0_2)] 30 (0, 0))) ∧ Aside0 (w'.heap[gb744]? = some (.cells #[.int .i64 a1_0, .int .i64 a1_1] 32 (0, 0))) ∧ Aside0 (w'.heap[gb751]? = some (.cells #[.int .i64 a0_0, .int .i64 a0_1, (.slice A0_2 l0_2.length c0_2), .int .i64 a1_0, .int .i64 a1_1, (.slice Ao15 t745.length co15), (.slice Ao16 t748.length co16)] 84 (0, 0))) ∧ Aside0 (Kd.C (Kd.int .i64) w' A758_0 (rd_L1 t755 x29_1).length (rd_L1 t755 x29_1)) ∧ Aside0 (Below w.heap.size w w'))
   case atStart => exact ⟨(0), zae19, H', ⟨Nat.le_refl _⟩, ⟨zae23⟩, ⟨zae22⟩, ⟨zae21⟩, ⟨zae2⟩, ⟨zae3⟩, ⟨zae6⟩, ⟨zae24⟩, ⟨zae4⟩⟩
   case round =>
    clear H'
    try clear c1; try clear c2; try clear p2; try clear c5; try clear c7; try clear p7; try clear q7; try clear hx7; try clear c11; try clear c20; try clear c20b0; try clear c21; try clear c21b0; try clear c22; try clear c22b0; try clear hcz12_0; try clear hcz12_1; try clear hcz12_2; try clear hcz13_0; try clear hcz13_1; try clear hfz12_0; try clear hfz12_1; try clear hfz12_2; try clear hfz13_0; try clear hfz13_1; try clear hx758_0; try clear p2; try clear p758; try clear q758
    obtain ⟨x36_2, rfl, HA, HK2, HO_27, HO_752005, HO_752006, BK743, BK744, BK751, HR758_0, HB⟩ := hrel
    cases gk with
    | zero => exact absurd HA.out (by simp [impl_IsFarPainting.l1])
    | succ k2 =>
     have H := HA.out
     clear HA
     simp only [impl_IsFarPainting.l1] at H
     by_cases c23 : x36_2 < ((rd_L1 t755 x29_1).length : Int)
     rotate_left
     ·rw [if_neg c23] at H
      have c23b0 : decide (x36_2 < ((rd_L1 t755 x29_1).length : Int)) = false := decide_eq_false c23
      clear c23
      have H' := Aside0.mk H
      clear H
      go_wp2
      repeat ((first | go_quiet (fail) | (refine wp_region_quiet_lit (by kernel_rfl) (by kernel_rfl) ?_; (repeat (any_goals (first | go_big_quiet_step (fail) | quiet_step (fail)))); all_goals (refine wpQuiet_nil ?_; intro _ hw2_; obtain ⟨nq, hw3_⟩ := hw2_; subst hw3_))); try go_wp2)
      go_roundg k2
      case measure => have := HK1.out; have := HK2.out; omega
      case rel => exact ⟨(wrap64 (x29_1 + 1)), zae19, H', ⟨zae25⟩, ⟨zae23⟩, ⟨zae22⟩, ⟨zae21⟩, ⟨zae2⟩, ⟨zae3⟩, ⟨zae6⟩, ⟨zae4⟩⟩
     rw [if_pos c23] at H
     have c23b0 : decide (x36_2 < ((rd_L1 t755 x29_1).length : Int)) = true := decide_eq_true c23
     clear c23
     by_cases c24 : 0 ≤ x36_2
     rotate_left
     ·rw [if_neg c24] at H
      exact absurd H (by simp)
     rw [if_pos c24] at H
     have c24b0 : decide (0 ≤ x36_2) = true := decide_eq_true c24
     clear c24
     by_cases c25 : x36_2 < ((rd_L1 t755 x29_1).length : Int)
     rotate_left
     ·rw [if_neg c25] at H
      exact absurd H (by simp)
     rw [if_pos c25] at H
     have c25b0 : decide (x36_2 < ((rd_L1 t755 x29_1).length : Int)) = true := decide_eq_true c25
     clear c25
     by_cases c26 : 0 ≤ x29_1
     rotate_left
     ·rw [if_neg c26] at H
      exact absurd H (by simp)
     rw [if_pos c26] at H
     have c26b0 : decide (0 ≤ x29_1) = true := decide_eq_true c26
     clear c26
     by_cases c27 : x29_1 < (l2.length : Int)
     rotate_left
     ·rw [if_neg c27] at H
      exact absurd H (by simp)
     rw [if_pos c27] at H
     have c27b0 : decide (x29_1 < (l2.length : Int)) = true := decide_eq_true c27
     clear c27
     by_cases c28 : 0 ≤ (rd (rd_L1 t755 x29_1) x36_2)
     rotate_left
     ·rw [if_neg c28] at H
      exact absurd H (by simp)
     rw [if_pos c28] at H
     have c28b0 : decide (0 ≤ (rd (rd_L1 t755 x29_1) x36_2)) = true := decide_eq_true c28
     clear c28
     by_cases c29 : (rd (rd_L1 t755 x29_1) x36_2) < (l2.length : Int)
     rotate_left
     ·rw [if_neg c29] at H
      exact absurd H (by simp)
     rw [if_pos c29] at H
     have c29b0 : decide ((rd (rd_L1 t755 x29_1) x36_2) < (l2.length : Int)) = true := decide_eq_true c29
     clear c29
     by_cases c30 : (rd l2 x29_1) = (rd l2 (rd (rd_L1 t755 x29_1) x36_2))
     ·rw [if_pos c30] at H
      have c30b0 : ((rd l2 x29_1) == (rd l2 (rd (rd_L1 t755 x29_1) x36_2))) = true := beq_iff_eq.mpr c30
      have c30b1 : ((rd l2 x29_1) != (rd l2 (rd (rd_L1 t755 x29_1) x36_2))) = false := bne_eq_false_iff_eq.mpr c30
      clear c30
      simp only [Option.some.injEq, Prod.mk.injEq] at H
      obtain ⟨rfl, rfl⟩ := H
      have p759 : 0 ≤ (x36_2 : Int) := of_decide_eq_true zae8
      have q759 : x36_2 < ((rd_L1 t755 x29_1).length : Int) := of_decide_eq_true zae8
      obtain ⟨ad759, e759, hx759_0⟩ := Kd.at_int HR758_0.out x36_2 p759 q759
      cases e759
      (first | replace hx759_0 := (HB.out.cell (World.block_lt_of_cell? w _ hx759_0)).trans hx759_0 | skip)
      replace p759 := eq_true p759
      replace q759 := eq_true q759
      have p760 : 0 ≤ (x29_1 : Int) := of_decide_eq_true zae8
      have q760 : x29_1 < (l2.length : Int) := of_decide_eq_true zae8
      obtain ⟨ad760, e760, hx760_0⟩ := Kd.at_int HR2.out x29_1 p760 q760
      cases e760
      (first | replace hx760_0 := (HB.out.cell (World.block_lt_of_cell? w _ hx760_0)).trans hx760_0 | skip)
      replace p760 := eq_true p760
      replace q760 := eq_true q760
      have p761 : 0 ≤ ((rd (rd_L1 t755 x29_1) x36_2) : Int) := of_decide_eq_true zae8
      have q761 : (rd (rd_L1 t755 x29_1) x36_2) < (l2.length : Int) := of_decide_eq_true zae8
      obtain ⟨ad761, e761, hx761_0⟩ := Kd.at_int HR2.out (rd (rd_L1 t755 x29_1) x36_2) p761 q761
      obtain rfl : ad760 = ad761 := (by injection e761)
      (first | replace hx761_0 := (HB.out.cell (World.block_lt_of_cell? w _ hx761_0)).trans hx761_0 | skip)
      replace p761 := eq_true p761
      replace q761 := eq_true q761
      go_wp2
      repeat ((first | go_quiet (fail) | (refine wp_region_quiet_lit (by kernel_rfl) (by kernel_rfl) ?_; (repeat (any_goals (first | go_big_quiet_step (fail) | quiet_step (fail)))); all_goals (refine wpQuiet_nil ?_; intro _ hw2_; obtain ⟨nq, hw3_⟩ := hw2_; subst hw3_))); try go_wp2)
      go_ret2
      exact ⟨zae20, zae4⟩
     rw [if_neg c30] at H
     have c30b0 : ((rd l2 x29_1) == (rd l2 (rd (rd_L1 t755 x29_1) x36_2))) = false := beq_eq_false_iff_ne.mpr c30
     have c30b1 : ((rd l2 x29_1) != (rd l2 (rd (rd_L1 t755 x29_1) x36_2))) = true := bne_iff_ne.mpr c30
     have H' := Aside0.mk H
     clear H
     have p759 : 0 ≤ (x36_2 : Int) := of_decide_eq_true zae8
     have q759 : x36_2 < ((rd_L1 t755 x29_1).length : Int) := of_decide_eq_true zae8
     obtain ⟨ad759, e759, hx759_0⟩ := Kd.at_int HR758_0.out x36_2 p759 q759
     cases e759
     (first | replace hx759_0 := (HB.out.cell (World.block_lt_of_cell? w _ hx759_0)).trans hx759_0 | skip)
     replace p759 := eq_true p759
     replace q759 := eq_true q759
     have p760 : 0 ≤ (x29_1 : Int) := of_decide_eq_true zae8
     have q760 : x29_1 < (l2.length : Int) := of_decide_eq_true zae8
     obtain ⟨ad760, e760, hx760_0⟩ := Kd.at_int HR2.out x29_1 p760 q760
     cases e760
     (first | replace hx760_0 := (HB.out.cell (World.block_lt_of_cell? w _ hx760_0)).trans hx760_0 | skip)
     replace p760 := eq_true p760
     replace q760 := eq_true q760
     have p761 : 0 ≤ ((rd (rd_L1 t755 x29_1) x36_2) : Int) := of_decide_eq_true zae8
     have q761 : (rd (rd_L1 t755 x29_1) x36_2) < (l2.length : Int) := of_decide_eq_true zae8
     obtain ⟨ad761, e761, hx761_0⟩ := Kd.at_int HR2.out (rd (rd_L1 t755 x29_1) x36_2) p761 q761
     obtain rfl : ad760 = ad761 := (by injection e761)
     (first | replace hx761_0 := (HB.out.cell (World.block_lt_of_cell? w _ hx761_0)).trans hx761_0 | skip)
     replace p761 := eq_true p761
     replace q761 := eq_true q761
     go_wp2
     repeat ((first | go_quiet (fail) | (refine wp_region_quiet_lit (by kernel_rfl) (by kernel_rfl) ?_; (repeat (any_goals (first | go_big_quiet_step (fail) | quiet_step (fail)))); all_goals (refine wpQuiet_nil ?_; intro _ hw2_; obtain ⟨nq, hw3_⟩ := hw2_; subst hw3_))); try go_wp2)
     go_roundg k2
     case measure => have := HK1.out; have := HK2.out; omega
     case rel => exact ⟨(wrap64 (x36_2 + 1)), zae19, H', ⟨zae25⟩, ⟨zae23⟩, ⟨zae22⟩, ⟨zae21⟩, ⟨zae2⟩, ⟨zae3⟩, ⟨zae6⟩, ⟨zae24⟩, ⟨zae4⟩⟩

end Go.Proofs.Ytbecdckdbeoomaa.Q

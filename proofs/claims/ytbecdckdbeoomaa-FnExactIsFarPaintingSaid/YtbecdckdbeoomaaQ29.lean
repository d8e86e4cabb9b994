/- Written by a program of this session: functions of the translation as plain Lean functions, each with a proof that the call does what the plain function says; the conditions stand in each theorem. -/
import Derived.Test.YtbecdckdbeoomaaQ0
import Derived.Test.YtbecdckdbeoomaaQ28
namespace Go.Proofs.Ytbecdckdbeoomaa.Q
open Go.RowKit Go.Proofs.YtbecdckdbeoomaaW.PrintWords Go.Proofs.YtbecdckdbeoomaaW.PrintLast Go.Proofs.YtbecdckdbeoomaaW.PrintMore
attribute [local go_sem] max2_int min2_int max_two min_two max_three min_three max_four min_four   -- for this text's walks alone
set_option linter.unusedVariables false
set_option linter.unusedSimpArgs false

theorem zad1 {p : Prop} (h : p := by repeat (first | (with_reducible first | exact HB.out | apply below_alloc | apply pw_below_drewN | apply below_drew1 | refine below_set ?_ GE0.out) | exact HB.out)) : p := h
theorem zad2 {p : Prop} (h : p := by first | exact BK0.out | ((with_reducible repeat (first | refine blk_drewN ?_ _ | refine blk_drew ?_ | refine blk_alloc ?_ _)); exact BK0.out)) : p := h
theorem zad3 {p : Prop} (h : p := by repeat (first | exact HR0_2.out | (with_reducible refine Kd.C_alloc ?_ _) | (with_reducible refine Kd.C_drewN ?_ _) | (with_reducible refine Kd.C_drew ?_))) : p := h
theorem zad4 {p : Prop} (h : p := by repeat (first | exact HR1.out | (with_reducible refine Kd.C_alloc ?_ _) | (with_reducible refine Kd.C_drewN ?_ _) | (with_reducible refine Kd.C_drew ?_))) : p := h
theorem zad5 {p : Prop} (h : p := by first | (with_reducible assumption) | assumption) : p := h
theorem zad6 {p : Prop} (h : p := by repeat (first | exact (Kd.C_below HR0_6.out HB.out) | (with_reducible refine Kd.C_alloc ?_ _) | (with_reducible refine Kd.C_drewN ?_ _) | (with_reducible refine Kd.C_drew ?_))) : p := h
theorem zad7 {p : Prop} (h : p := by repeat (first | exact (Kd.C_below HR0_5.out HB.out) | (with_reducible refine Kd.C_alloc ?_ _) | (with_reducible refine Kd.C_drewN ?_ _) | (with_reducible refine Kd.C_drew ?_))) : p := h
theorem zad8 {p : Prop} (h : p := by repeat (first | exact (Kd.C_below HR0_2.out HB.out) | (with_reducible refine Kd.C_alloc ?_ _) | (with_reducible refine Kd.C_drewN ?_ _) | (with_reducible refine Kd.C_drew ?_))) : p := h
theorem zad9 {p : Prop} (h : p := by repeat (first | (with_reducible exact HR699_0.out) | (with_reducible refine Kd.C_alloc ?_ _) | (with_reducible refine Kd.C_drewN ?_ _) | (with_reducible refine Kd.C_drew ?_) | exact HR699_0.out)) : p := h
theorem zad10 {p : Prop} (h : p := by first | exact HO_3.out | ((with_reducible repeat (first | apply Kd.S_alloc | apply Kd.S_drewN | apply Kd.S_drew)); exact HO_3.out)) : p := h
theorem zad11 {p : Prop} (h : p := by first | rfl | (simp [errW_none, errW_some] <;> rfl) | (simp [*, errW_none, errW_some] <;> rfl)) : p := h
theorem zad12 {p : Prop} (h : p := by first | rfl | (simp; done) | (simp [*]; done)) : p := h
/-! ### impl_graph_pairs: function 94 -/
mutual
def impl_graph_pairs.l0 : Nat → List (List Int) → List Int → Int → Int → Int → Int → List Int → Int → Int → List Int → List (List Int) → Option ((List (List Int)))
 | 0, _, _, _, _, _, _, _, _, _, _, _ => none
 | k + 1, x3, x11, x12, x13, x1000, x1001, x1002, x1003, x1004, x1005, x1006 => if x13 < x12 then (if 0 ≤ x13 then (if x13 < (x11.length : Int) then (if 0 ≤ (rd x11 x13) then (if (rd x11 x13) < (x1006.length : Int) then (impl_graph_pairs.l1 k x3 (rd x11 x13) x11 x12 x13 (rd_L1 x1006 (rd x11 x13)) ((rd_L1 x1006 (rd x11 x13)).length : Int) 0 x1000 x1001 x1002 x1003 x1004 x1005 x1006) else (none)) else (none)) else (none)) else (none)) else (some x3)
def impl_graph_pairs.l1 : Nat → List (List Int) → Int → List Int → Int → Int → List Int → Int → Int → Int → Int → List Int → Int → Int → List Int → List (List Int) → Option ((List (List Int)))
 | 0, _, _, _, _, _, _, _, _, _, _, _, _, _, _, _ => none
 | k + 1, x3, x5, x11, x12, x13, x23, x24, x25, x1000, x1001, x1002, x1003, x1004, x1005, x1006 => if x25 < x24 then (if 0 ≤ x25 then (if x25 < (x23.length : Int) then (if x5 < (rd x23 x25) then (if x3.length < 5864062014805 then (impl_graph_pairs.l1 k (x3 ++ [(([x5, rd x23 x25] : List Int))]) x5 x11 x12 x13 x23 x24 (wrap64 (x25 + 1)) x1000 x1001 x1002 x1003 x1004 x1005 x1006) else (none)) else (impl_graph_pairs.l1 k x3 x5 x11 x12 x13 x23 x24 (wrap64 (x25 + 1)) x1000 x1001 x1002 x1003 x1004 x1005 x1006)) else (none)) else (none)) else (impl_graph_pairs.l0 k x3 x11 x12 (wrap64 (x13 + 1)) x1000 x1001 x1002 x1003 x1004 x1005 x1006)
end
def impl_graph_pairs.f (k : Nat) (a0_0 : Int) (a0_1 : Int) (l0_2 : List Int) (a0_3 : Int) (a0_4 : Int) (l0_5 : List Int) (l0_6 : List (List Int)) : Option ((List (List Int))) := impl_graph_pairs.l0 k ([] : List (List Int)) l0_5 (l0_5.length : Int) 0 a0_0 a0_1 l0_2 a0_3 a0_4 l0_5 l0_6
set_option maxHeartbeats 8000000 in
set_option maxRecDepth 100000 in
theorem impl_graph_pairs.calls (k : Nat) (gb0 : Nat) (a0_0 : Int) (a0_1 : Int) (A0_2 : Option Addr) (c0_2 : Nat) (l0_2 : List Int) (a0_3 : Int) (a0_4 : Int) (A0_5 : Option Addr) (c0_5 : Nat) (l0_5 : List Int) (A0_6 : Option Addr) (c0_6 : Nat) (l0_6 : List (List Int)) (r : List (List Int)) (w : World) (hg0 : w.heap[gb0]? = some (.cells #[.int .i64 a0_0, .int .i64 a0_1, .slice A0_2 l0_2.length c0_2, .int .i64 a0_3, .int .i64 a0_4, .slice A0_5 l0_5.length c0_5, .slice A0_6 l0_6.length c0_6] 84 (0, 0))) (hr0_2 : Kd.C (Kd.int .i64) w A0_2 l0_2.length l0_2) (hc0_2 : l0_2.length ≤ c0_2) (hr0_5 : Kd.C (Kd.int .i64) w A0_5 l0_5.length l0_5) (hc0_5 : l0_5.length ≤ c0_5) (hr0_6 : Kd.C (Kd.slice 3 (Kd.int .i64)) w A0_6 l0_6.length l0_6) (hc0_6 : l0_6.length ≤ c0_6) (h : impl_graph_pairs.f k a0_0 a0_1 l0_2 a0_3 a0_4 l0_5 l0_6 = some r) :
  Calls Try.prog 94 #[.pointer (some ⟨gb0, 0, none⟩)] w fun e w' => ∃ v0_ : Value, e = .returned (v0_) ∧ Kd.S (Kd.slice 3 (Kd.int .i64)) 22 w' w.heap.size (fun _ => True) v0_ r ∧ Below w.heap.size w w' := by
 have HR0_2 := Aside0.mk hr0_2
 have HC0_2 := Aside0.mk hc0_2
 clear hr0_2 hc0_2
 have HR0_5 := Aside0.mk hr0_5
 have HC0_5 := Aside0.mk hc0_5
 clear hr0_5 hc0_5
 have HR0_6 := Aside0.mk hr0_6
 have HC0_6 := Aside0.mk hc0_6
 clear hr0_6 hc0_6
 have BK0 := Aside0.mk hg0
 clear hg0
 have HB := Aside0.mk (Below.refl w.heap.size w)
 have H : (impl_graph_pairs.l0 k ([] : List (List Int)) l0_5 (l0_5.length : Int) 0 a0_0 a0_1 l0_2 a0_3 a0_4 l0_5 l0_6) = some r := h
 clear h
 have H' := Aside0.mk H
 clear H
 have hcz2_0 : w.cell? ⟨gb0, 0, none⟩ = some (.int .i64 a0_0) := (blk_cell BK0.out 0).trans rfl
 have hcz2_1 : w.cell? ⟨gb0, 1, none⟩ = some (.int .i64 a0_1) := (blk_cell BK0.out 1).trans rfl
 have hcz2_2 : w.cell? ⟨gb0, 2, none⟩ = some (.slice A0_2 l0_2.length c0_2) := (blk_cell BK0.out 2).trans rfl
 have hcz2_3 : w.cell? ⟨gb0, 3, none⟩ = some (.int .i64 a0_3) := (blk_cell BK0.out 3).trans rfl
 have hcz2_4 : w.cell? ⟨gb0, 4, none⟩ = some (.int .i64 a0_4) := (blk_cell BK0.out 4).trans rfl
 have hcz2_5 : w.cell? ⟨gb0, 5, none⟩ = some (.slice A0_5 l0_5.length c0_5) := (blk_cell BK0.out 5).trans rfl
 have hcz2_6 : w.cell? ⟨gb0, 6, none⟩ = some (.slice A0_6 l0_6.length c0_6) := (blk_cell BK0.out 6).trans rfl
 have hfz2_0 := blk_frozen BK0.out 0
 have hfz2_1 := blk_frozen BK0.out 1
 have hfz2_2 := blk_frozen BK0.out 2
 have hfz2_3 := blk_frozen BK0.out 3
 have hfz2_4 := blk_frozen BK0.out 4
 have hfz2_5 := blk_frozen BK0.out 5
 have hfz2_6 := blk_frozen BK0.out 6
 go_enter Try.func94, Try.ntmps94
 go_wp2
 go_loopg [3, 13] k (fun kq v3 v13 w' => ∃ (x3_1 : List (List Int)) (x13_1 : Int), v13 = .int .i64 x13_1 ∧ Aside0 (impl_graph_pairs.l0 kq x3_1 l0_5 (l0_5.length : Int) x13_1 a0_0 a0_1 l0_2 a0_3 a0_4 l0_5 l0_6 = some r) ∧ Aside0 (kq ≤ k) ∧ Aside0 (Kd.S (Kd.slice 3 (Kd.int .i64)) 22 w' w.heap.size (fun _ => True) v3 x3_1) ∧ Aside0 (w'.heap[gb0]? = some (.cells #[.int .i64 a0_0, .int .i64 a0_1, (.slice A0_2 l0_2.length c0_2), .int .i64 a0_3, .int .i64 a0_4, (.slice A0_5 l0_5.length c0_5), (.slice A0_6 l0_6.length c0_6)] 84 (0, 0))) ∧ Aside0 (Below w.heap.size w w'))
 case atStart => exact ⟨(([] : List (List Int))), (0), zad12, H', ⟨Nat.le_refl _⟩, ⟨by first | exact Kd.S_nil _ _ _ _ _ | exact Kd.N_nil _ _ _ _ _ | exact Kd.V_nil _ _ _ _ _ | exact Kd.Q_nil _ _ _ _ _ | exact Kd.R_nil _ _ _ _ _⟩, ⟨zad2⟩, ⟨zad1⟩⟩
 case round =>
  clear H'
  try clear p2; try clear hcz2_0; try clear hcz2_1; try clear hcz2_2; try clear hcz2_3; try clear hcz2_4; try clear hcz2_5; try clear hcz2_6; try clear hfz2_0; try clear hfz2_1; try clear hfz2_2; try clear hfz2_3; try clear hfz2_4; try clear hfz2_5; try clear hfz2_6
  obtain ⟨x3_1, x13_1, rfl, HA, HK1, HO_3, BK0, HB⟩ := hrel
  cases gk with
  | zero => exact absurd HA.out (by simp [impl_graph_pairs.l0])
  | succ k1 =>
   have H := HA.out
   clear HA
   simp only [impl_graph_pairs.l0] at H
   by_cases c3 : x13_1 < (l0_5.length : Int)
   rotate_left
   ·rw [if_neg c3] at H
    have c3b0 : decide (x13_1 < (l0_5.length : Int)) = false := decide_eq_false c3
    clear c3
    obtain rfl := Option.some.inj H
    go_wp2
    go_ret
    exact ⟨_, zad11, zad10, zad1⟩
   rw [if_pos c3] at H
   have c3b0 : decide (x13_1 < (l0_5.length : Int)) = true := decide_eq_true c3
   clear c3
   by_cases c4 : 0 ≤ x13_1
   rotate_left
   ·rw [if_neg c4] at H
    exact absurd H (by simp)
   rw [if_pos c4] at H
   have c4b0 : decide (0 ≤ x13_1) = true := decide_eq_true c4
   clear c4
   by_cases c5 : x13_1 < (l0_5.length : Int)
   rotate_left
   ·rw [if_neg c5] at H
    exact absurd H (by simp)
   rw [if_pos c5] at H
   have c5b0 : decide (x13_1 < (l0_5.length : Int)) = true := decide_eq_true c5
   clear c5
   by_cases c6 : 0 ≤ (rd l0_5 x13_1)
   rotate_left
   ·rw [if_neg c6] at H
    exact absurd H (by simp)
   rw [if_pos c6] at H
   have c6b0 : decide (0 ≤ (rd l0_5 x13_1)) = true := decide_eq_true c6
   clear c6
   by_cases c7 : (rd l0_5 x13_1) < (l0_6.length : Int)
   rotate_left
   ·rw [if_neg c7] at H
    exact absurd H (by simp)
   rw [if_pos c7] at H
   have c7b0 : decide ((rd l0_5 x13_1) < (l0_6.length : Int)) = true := decide_eq_true c7
   clear c7
   have H' := Aside0.mk H
   clear H
   have p686 : 0 ≤ (x13_1 : Int) := of_decide_eq_true zad5
   have q686 : x13_1 < (l0_5.length : Int) := of_decide_eq_true zad5
   obtain ⟨ad686, e686, hx686_0⟩ := Kd.at_int HR0_5.out x13_1 p686 q686
   cases e686
   (first | replace hx686_0 := (HB.out.cell (World.block_lt_of_cell? w _ hx686_0)).trans hx686_0 | skip)
   replace p686 := eq_true p686
   replace q686 := eq_true q686
   have hcz8_0 : wr.cell? ⟨gb0, 0, none⟩ = some (.int .i64 a0_0) := (blk_cell BK0.out 0).trans rfl
   have hcz8_1 : wr.cell? ⟨gb0, 1, none⟩ = some (.int .i64 a0_1) := (blk_cell BK0.out 1).trans rfl
   have hcz8_2 : wr.cell? ⟨gb0, 2, none⟩ = some (.slice A0_2 l0_2.length c0_2) := (blk_cell BK0.out 2).trans rfl
   have hcz8_3 : wr.cell? ⟨gb0, 3, none⟩ = some (.int .i64 a0_3) := (blk_cell BK0.out 3).trans rfl
   have hcz8_4 : wr.cell? ⟨gb0, 4, none⟩ = some (.int .i64 a0_4) := (blk_cell BK0.out 4).trans rfl
   have hcz8_5 : wr.cell? ⟨gb0, 5, none⟩ = some (.slice (some ad686) l0_5.length c0_5) := (blk_cell BK0.out 5).trans rfl
   have hcz8_6 : wr.cell? ⟨gb0, 6, none⟩ = some (.slice A0_6 l0_6.length c0_6) := (blk_cell BK0.out 6).trans rfl
   have hfz8_0 := blk_frozen BK0.out 0
   have hfz8_1 := blk_frozen BK0.out 1
   have hfz8_2 := blk_frozen BK0.out 2
   have hfz8_3 := blk_frozen BK0.out 3
   have hfz8_4 := blk_frozen BK0.out 4
   have hfz8_5 := blk_frozen BK0.out 5
   have hfz8_6 := blk_frozen BK0.out 6
   have p687 : 0 ≤ ((rd l0_5 x13_1) : Int) := of_decide_eq_true zad5
   have q687 : (rd l0_5 x13_1) < (l0_6.length : Int) := of_decide_eq_true zad5
   obtain ⟨ad687, A687_0, c687_0, e687, hx687_0, hl687_0, hi687_0⟩ := at_L1 HR0_6.out (rd l0_5 x13_1) p687 q687
   cases e687
   (first | replace hx687_0 := (HB.out.cell (World.block_lt_of_cell? w _ hx687_0)).trans hx687_0 | skip)
   have HR687_0 := Aside0.mk hi687_0
   have HC687_0 := Aside0.mk hl687_0
   clear hi687_0 hl687_0
   replace p687 := eq_true p687
   replace q687 := eq_true q687
   go_wp2
   go_loopg [3, 25] k1 (fun kq v3 v25 w' => ∃ (x3_2 : List (List Int)) (x25_2 : Int), v25 = .int .i64 x25_2 ∧ Aside0 (impl_graph_pairs.l1 kq x3_2 (rd l0_5 x13_1) l0_5 (l0_5.length : Int) x13_1 (rd_L1 l0_6 (rd l0_5 x13_1)) ((rd_L1 l0_6 (rd l0_5 x13_1)).length : Int) x25_2 a0_0 a0_1 l0_2 a0_3 a0_4 l0_5 l0_6 = some r) ∧ Aside0 (kq ≤ k1) ∧ Aside0 (Kd.S (Kd.slice 3 (Kd.int .i64)) 22 w' w.heap.size (fun _ => True) v3 x3_2) ∧ Aside0 (w'.heap[gb0]? = some (.cells #[.int .i64 a0_0, .int .i64 a0_1, (.slice A0_2 l0_2.length c0_2), .int .i64 a0_3, .int .i64 a0_4, (.slice (some ad686) l0_5.length c0_5), (.slice (some ad687) l0_6.length c0_6)] 84 (0, 0))) ∧ Aside0 (Below w.heap.size w w'))
   case atStart => exact ⟨(x3_1), (0), zad12, H', ⟨Nat.le_refl _⟩, ⟨zad10⟩, ⟨zad2⟩, ⟨zad1⟩⟩
   case round =>
    clear H'
    try clear p2; try clear c3; try clear c3b0; try clear c4; try clear c4b0; try clear c5; try clear c5b0; try clear c6; try clear c6b0; try clear p6; try clear q6; try clear hx6; try clear c7; try clear c7b0; try clear hcz2_0; try clear hcz2_1; try clear hcz2_2; try clear hcz2_3; try clear hcz2_4; try clear hcz2_5; try clear hcz2_6; try clear hcz8_0; try clear hcz8_1; try clear hcz8_2; try clear hcz8_3; try clear hcz8_4; try clear hcz8_5; try clear hcz8_6; try clear hfz2_0; try clear hfz2_1; try clear hfz2_2; try clear hfz2_3; try clear hfz2_4; try clear hfz2_5; try clear hfz2_6; try clear hfz8_0
    try clear hfz8_1; try clear hfz8_2; try clear hfz8_3; try clear hfz8_4; try clear hfz8_5; try clear hfz8_6; try clear hx686_0; try clear hx687_0; try clear p2; try clear p686; try clear p687; try clear q686; try clear q687
    obtain ⟨x3_2, x25_2, rfl, HA, HK2, HO_3, BK0, HB⟩ := hrel
    cases gk with
    | zero => exact absurd HA.out (by simp [impl_graph_pairs.l1])
    | succ k2 =>
     have H := HA.out
     clear HA
     simp only [impl_graph_pairs.l1] at H
     by_cases c9 : x25_2 < ((rd_L1 l0_6 (rd l0_5 x13_1)).length : Int)
     rotate_left
     ·rw [if_neg c9] at H
      have c9b0 : decide (x25_2 < ((rd_L1 l0_6 (rd l0_5 x13_1)).length : Int)) = false := decide_eq_false c9
      clear c9
      have H' := Aside0.mk H
      clear H
      go_wp2
      go_roundg k2
      case measure => have := HK1.out; have := HK2.out; omega
      case rel => exact ⟨(x3_2), (wrap64 (x13_1 + 1)), zad12, H', ⟨by have := HK1.out; have := HK2.out; omega⟩, ⟨zad10⟩, ⟨zad2⟩, ⟨zad1⟩⟩
     rw [if_pos c9] at H
     have c9b0 : decide (x25_2 < ((rd_L1 l0_6 (rd l0_5 x13_1)).length : Int)) = true := decide_eq_true c9
     clear c9
     by_cases c10 : 0 ≤ x25_2
     rotate_left
     ·rw [if_neg c10] at H
      exact absurd H (by simp)
     rw [if_pos c10] at H
     have c10b0 : decide (0 ≤ x25_2) = true := decide_eq_true c10
     clear c10
     by_cases c11 : x25_2 < ((rd_L1 l0_6 (rd l0_5 x13_1)).length : Int)
     rotate_left
     ·rw [if_neg c11] at H
      exact absurd H (by simp)
     rw [if_pos c11] at H
     have c11b0 : decide (x25_2 < ((rd_L1 l0_6 (rd l0_5 x13_1)).length : Int)) = true := decide_eq_true c11
     clear c11
     by_cases c12 : (rd l0_5 x13_1) < (rd (rd_L1 l0_6 (rd l0_5 x13_1)) x25_2)
     rotate_left
     ·rw [if_neg c12] at H
      have c12b0 : decide ((rd l0_5 x13_1) < (rd (rd_L1 l0_6 (rd l0_5 x13_1)) x25_2)) = false := decide_eq_false c12
      clear c12
      have H' := Aside0.mk H
      clear H
      have p688 : 0 ≤ (x25_2 : Int) := of_decide_eq_true zad5
      have q688 : x25_2 < ((rd_L1 l0_6 (rd l0_5 x13_1)).length : Int) := of_decide_eq_true zad5
      obtain ⟨ad688, e688, hx688_0⟩ := Kd.at_int HR687_0.out x25_2 p688 q688
      cases e688
      (first | replace hx688_0 := (HB.out.cell (World.block_lt_of_cell? w _ hx688_0)).trans hx688_0 | skip)
      replace p688 := eq_true p688
      replace q688 := eq_true q688
      go_wp2
      go_roundg k2
      case measure => have := HK1.out; have := HK2.out; omega
      case rel => exact ⟨(x3_2), (wrap64 (x25_2 + 1)), zad12, H', ⟨by have := HK1.out; have := HK2.out; omega⟩, ⟨zad10⟩, ⟨zad2⟩, ⟨zad1⟩⟩
     rw [if_pos c12] at H
     have c12b0 : decide ((rd l0_5 x13_1) < (rd (rd_L1 l0_6 (rd l0_5 x13_1)) x25_2)) = true := decide_eq_true c12
     clear c12
     obtain ⟨y689, hy689⟩ : ∃ y_ : List Int, y_ = (([(rd l0_5 x13_1), rd (rd_L1 l0_6 (rd l0_5 x13_1)) x25_2] : List Int)) := ⟨_, rfl⟩
     replace H : (if x3_2.length < 5864062014805 then (impl_graph_pairs.l1 k2 (x3_2 ++ [y689]) (rd l0_5 x13_1) l0_5 (l0_5.length : Int) x13_1 (rd_L1 l0_6 (rd l0_5 x13_1)) ((rd_L1 l0_6 (rd l0_5 x13_1)).length : Int) (wrap64 (x25_2 + 1)) a0_0 a0_1 l0_2 a0_3 a0_4 l0_5 l0_6) else (none)) = some r := by first | (rw [hy689]; with_reducible exact H) | (have H2_ := (Option.bind_some _ _).symm.trans H; rw [hy689]; with_reducible exact H2_) | (have H2_ := (Option.bind_some _ _).symm.trans H; with_reducible exact H2_) | with_reducible exact H | (rw [hy689]; exact H) | exact H
     have Ny689 := Aside0.mk hy689
     clear hy689
     by_cases c13 : x3_2.length < 5864062014805
     rotate_left
     ·rw [if_neg c13] at H
      exact absurd H (by simp)
     rw [if_pos c13] at H
     have LMc13 := Aside0.mk c13
     clear c13
     obtain ⟨y692, hy692⟩ : ∃ y_ : List (List Int), y_ = (x3_2 ++ [y689]) := ⟨_, rfl⟩
     replace H : (impl_graph_pairs.l1 k2 y692 (rd l0_5 x13_1) l0_5 (l0_5.length : Int) x13_1 (rd_L1 l0_6 (rd l0_5 x13_1)) ((rd_L1 l0_6 (rd l0_5 x13_1)).length : Int) (wrap64 (x25_2 + 1)) a0_0 a0_1 l0_2 a0_3 a0_4 l0_5 l0_6) = some r := by first | (rw [hy692]; with_reducible exact H) | (have H2_ := (Option.bind_some _ _).symm.trans H; rw [hy692]; with_reducible exact H2_) | (have H2_ := (Option.bind_some _ _).symm.trans H; with_reducible exact H2_) | with_reducible exact H | (rw [hy692]; exact H) | exact H
     have Ny692 := Aside0.mk hy692
     clear hy692
     have H' := Aside0.mk H
     clear H
     have p688 : 0 ≤ (x25_2 : Int) := of_decide_eq_true zad5
     have q688 : x25_2 < ((rd_L1 l0_6 (rd l0_5 x13_1)).length : Int) := of_decide_eq_true zad5
     obtain ⟨ad688, e688, hx688_0⟩ := Kd.at_int HR687_0.out x25_2 p688 q688
     cases e688
     (first | replace hx688_0 := (HB.out.cell (World.block_lt_of_cell? w _ hx688_0)).trans hx688_0 | skip)
     replace p688 := eq_true p688
     replace q688 := eq_true q688
     go_wp2_with (first | ((with_reducible refine gate_dst (N := 35) rfl ?_); refine Kd.R_lit (Kd.int .i64) _ 3 ?hg (N := 35) ?hd (xs := ([(rd l0_5 x13_1), rd (rd_L1 l0_6 (rd l0_5 x13_1)) x25_2] : List Int)) (inner := [.int .i64 (rd l0_5 x13_1), .int .i64 (rd (rd_L1 l0_6 (rd l0_5 x13_1)) x25_2)]) (ok := fun _ => True) (okp := fun _ => True) ?hr ?hp (fun _ hk => hk) trivial (Below.refl _ _) (Nat.le_refl _) (by simp) ?_; (case hd => rfl); (case hg => rfl); (case hr => first | (go_simp; done) | (go_simp; rfl)); (case hp => exact (Reps.one (show Kd.M (Kd.int .i64) _ _ _ (rd l0_5 x13_1) [.int .i64 (rd l0_5 x13_1)] from rfl) (Reps.one (show Kd.M (Kd.int .i64) _ _ _ (rd (rd_L1 l0_6 (rd l0_5 x13_1)) x25_2) [.int .i64 (rd (rd_L1 l0_6 (rd l0_5 x13_1)) x25_2)] from rfl) (Reps.none _ _)))); intro v690 w14 ho15 hb hg_ hnew_; clear hg_ hnew_; (first | rw [← Ny689.out] at ho15 | (simp only [Int.reduceToNat] at ho15; rw [← Ny689.out] at ho15)); have n0_ := Aside0.mk (Kd.S_elder' zad10 (Kd.R_base ho15) hb); have n1_ := Aside0.mk (Kd.R_lower ho15 (below_size zad1)); have n2_ := Aside0.mk (blk_below (g := gb0) (o := .cells #[.int .i64 a0_0, .int .i64 a0_1, .slice A0_2 l0_2.length c0_2, .int .i64 a0_3, .int .i64 a0_4, .slice (some ad686) l0_5.length c0_5, .slice (some ad687) l0_6.length c0_6] 84 (0, 0)) zad2 hb); have n3_ := Aside0.mk (below_step zad1 hb); clear HO_3; clear BK0; clear HB; have HO_3 := n0_; have HO691 := n1_; have BK0 := n2_; have HB := n3_; clear n0_ n1_ n2_ n3_; clear hb ho15; obtain ⟨Ao17, co17, eo17⟩ := Kd.R_slice HO691.out; subst eo17) | ((with_reducible refine gate_builtin (b := .append) (xs := #[.tmp 32, .tmp 36]) rfl ?_); at_builtin; refine Kd.S_append (Kd.slice 3 (Kd.int .i64)) (w0 := w) w.heap.size rfl (.tmp 32) (.tmp 36) 53 22 (.slice none 0 0) 24 rfl Try.underlying53 info22 rfl (by decide) (by omega) u3 x3_2 y689 [.slice Ao17 y689.length co17] (fun _ => True) (fun k_ => some k_ = (.slice Ao17 y689.length co17 : Value).ownBlock) rfl rfl ?aP (fun k_ hk_ => ((Kd.R_mono (ok' := fun k_ => ((fun _ => True)) k_ ∧ some k_ ≠ (u3 : Value).ownBlock) (Kd.R_apart' (HO691.out) (Kd.S_typed HO_3.out) (by decide)) (fun k_ hk => ⟨trivial, hk.2⟩))).1 k_ hk_.symm) ?aF ?aO ?aB ?aS ?aL ?_; (case aP => exact Kd.M_row (Kd.R_mono (Kd.R_tight rfl (Kd.R_mono (ok' := fun k_ => ((fun _ => True)) k_ ∧ some k_ ≠ (u3 : Value).ownBlock) (Kd.R_apart' (HO691.out) (Kd.S_typed HO_3.out) (by decide)) (fun k_ hk => ⟨trivial, hk.2⟩))) (fun _ h_ => h_))); (case aB => exact zad1); (case aF => exact (fun _ _ => trivial)); (case aO => exact (by (with_reducible repeat (first | apply Kd.S_alloc | apply Kd.S_drewN | apply Kd.S_drew)); exact Kd.S_mono HO_3.out (fun k_ hk => ⟨trivial, fun e_ => hk.2 e_⟩))); (case aS => exact (below_size zad1)); (case aL => have := LMc13.out; omega); intro v693 w16 ho hb hg hat; rw [← Ny692.out] at ho; have n0_ := Aside0.mk (blk_grown (g := gb0) (o := .cells #[.int .i64 a0_0, .int .i64 a0_1, .slice A0_2 l0_2.length c0_2, .int .i64 a0_3, .int .i64 a0_4, .slice (some ad686) l0_5.length c0_5, .slice (some ad687) l0_6.length c0_6] 84 (0, 0)) zad2 hg (Kd.S_ne HO_3.out BK0.out (by decide))); have n1_ := Aside0.mk (hb); have n2_ := Aside0.mk (ho); clear BK0; clear HB; clear HO_3; clear HO691; have BK0 := n0_; have HB := n1_; have HO694 := n2_; clear n0_ n1_ n2_; clear ho hb hg hat))
     go_roundg k2
     case measure => have := HK1.out; have := HK2.out; omega
     case rel => exact ⟨(y692), (wrap64 (x25_2 + 1)), zad12, H', ⟨by have := HK1.out; have := HK2.out; omega⟩, ⟨by first | exact HO694.out | ((with_reducible repeat (first | apply Kd.S_alloc | apply Kd.S_drewN | apply Kd.S_drew)); exact HO694.out)⟩, ⟨zad2⟩, ⟨zad1⟩⟩

/-! ### impl_graph_isPainting: function 59 -/
def impl_graph_isPainting.l0 : Nat → List Int → List (List Int) → Int → Int → Option (Bool)
 | 0, _, _, _, _ => none
 | k + 1, x1, x15, x16, x17 => if x17 < x16 then (if 0 ≤ x17 then (if x17 < (x15.length : Int) then (if 0 < ((rd_L1 x15 x17).length : Int) then (if 0 ≤ (rd (rd_L1 x15 x17) 0) then (if (rd (rd_L1 x15 x17) 0) < (x1.length : Int) then (if 1 < ((rd_L1 x15 x17).length : Int) then (if 0 ≤ (rd (rd_L1 x15 x17) 1) then (if (rd (rd_L1 x15 x17) 1) < (x1.length : Int) then (if (rd x1 (rd (rd_L1 x15 x17) 0)) = (rd x1 (rd (rd_L1 x15 x17) 1)) then (some false) else (impl_graph_isPainting.l0 k x1 x15 x16 (wrap64 (x17 + 1)))) else (none)) else (none)) else (none)) else (none)) else (none)) else (none)) else (none)) else (none)) else (some true)
def impl_graph_isPainting.f (k : Nat) (a0_0 : Int) (a0_1 : Int) (l0_2 : List Int) (a0_3 : Int) (a0_4 : Int) (l0_5 : List Int) (l0_6 : List (List Int)) (l1 : List Int) : Option (Bool) := (impl_Board_coloured.f k a0_0 a0_1 l0_2 l1).bind fun t695 => (if t695 = true then ((impl_graph_pairs.f k a0_0 a0_1 l0_2 a0_3 a0_4 l0_5 l0_6).bind fun t696 => (impl_graph_isPainting.l0 k l1 t696 (t696.length : Int) 0)) else (some false))
set_option maxHeartbeats 8000000 in
set_option maxRecDepth 100000 in
theorem impl_graph_isPainting.calls (k : Nat) (gb0 : Nat) (a0_0 : Int) (a0_1 : Int) (A0_2 : Option Addr) (c0_2 : Nat) (l0_2 : List Int) (a0_3 : Int) (a0_4 : Int) (A0_5 : Option Addr) (c0_5 : Nat) (l0_5 : List Int) (A0_6 : Option Addr) (c0_6 : Nat) (l0_6 : List (List Int)) (A1 : Option Addr) (c1 : Nat) (l1 : List Int) (r : Bool) (w : World) (hg0 : w.heap[gb0]? = some (.cells #[.int .i64 a0_0, .int .i64 a0_1, .slice A0_2 l0_2.length c0_2, .int .i64 a0_3, .int .i64 a0_4, .slice A0_5 l0_5.length c0_5, .slice A0_6 l0_6.length c0_6] 84 (0, 0))) (hr0_2 : Kd.C (Kd.int .i64) w A0_2 l0_2.length l0_2) (hc0_2 : l0_2.length ≤ c0_2) (hr0_5 : Kd.C (Kd.int .i64) w A0_5 l0_5.length l0_5) (hc0_5 : l0_5.length ≤ c0_5) (hr0_6 : Kd.C (Kd.slice 3 (Kd.int .i64)) w A0_6 l0_6.length l0_6) (hc0_6 : l0_6.length ≤ c0_6) (hr1 : Kd.C (Kd.int .i64) w A1 l1.length l1) (hc1 : l1.length ≤ c1) (h : impl_graph_isPainting.f k a0_0 a0_1 l0_2 a0_3 a0_4 l0_5 l0_6 l1 = some r) :
  Calls Try.prog 59 #[.pointer (some ⟨gb0, 0, none⟩), .slice A1 l1.length c1] w fun e w' => e = .returned (.bool r) ∧ Below w.heap.size w w' := by
 have hu30 := Try.underlying30
 have HR0_2 := Aside0.mk hr0_2
 have HC0_2 := Aside0.mk hc0_2
 clear hr0_2 hc0_2
 have HR0_5 := Aside0.mk hr0_5
 have HC0_5 := Aside0.mk hc0_5
 clear hr0_5 hc0_5
 have HR0_6 := Aside0.mk hr0_6
 have HC0_6 := Aside0.mk hc0_6
 clear hr0_6 hc0_6
 have HR1 := Aside0.mk hr1
 have HC1 := Aside0.mk hc1
 clear hr1 hc1
 have BK0 := Aside0.mk hg0
 clear hg0
 have HB := Aside0.mk (Below.refl w.heap.size w)
 have H : ((impl_Board_coloured.f k a0_0 a0_1 l0_2 l1).bind fun t695 => (if t695 = true then ((impl_graph_pairs.f k a0_0 a0_1 l0_2 a0_3 a0_4 l0_5 l0_6).bind fun t696 => (impl_graph_isPainting.l0 k l1 t696 (t696.length : Int) 0)) else (some false))) = some r := h
 clear h
 replace H := Option.bind_eq_some_iff.mp H
 obtain ⟨t695, A30, H⟩ := H
 replace H : (if t695 = true then ((impl_graph_pairs.f k a0_0 a0_1 l0_2 a0_3 a0_4 l0_5 l0_6).bind fun t696 => (impl_graph_isPainting.l0 k l1 t696 (t696.length : Int) 0)) else (some false)) = some r := H
 have A3 := Aside0.mk A30
 clear A30
 by_cases c4 : t695 = true
 rotate_left
 ·replace c4 := Bool.eq_false_iff.mpr c4
  subst c4
  have H1 : (some false) = some r := by rw [if_neg (show ¬ (false = true) by decide)] at H; exact H
  clear H
  have H := H1
  clear H1
  obtain rfl := Option.some.inj H
  have hcz20_0 : w.cell? ⟨gb0, 0, none⟩ = some (.int .i64 a0_0) := (blk_cell BK0.out 0).trans rfl
  have hcz20_1 : w.cell? ⟨gb0, 1, none⟩ = some (.int .i64 a0_1) := (blk_cell BK0.out 1).trans rfl
  have hcz20_2 : w.cell? ⟨gb0, 2, none⟩ = some (.slice A0_2 l0_2.length c0_2) := (blk_cell BK0.out 2).trans rfl
  have hcz20_3 : w.cell? ⟨gb0, 3, none⟩ = some (.int .i64 a0_3) := (blk_cell BK0.out 3).trans rfl
  have hcz20_4 : w.cell? ⟨gb0, 4, none⟩ = some (.int .i64 a0_4) := (blk_cell BK0.out 4).trans rfl
  have hcz20_5 : w.cell? ⟨gb0, 5, none⟩ = some (.slice A0_5 l0_5.length c0_5) := (blk_cell BK0.out 5).trans rfl
  have hcz20_6 : w.cell? ⟨gb0, 6, none⟩ = some (.slice A0_6 l0_6.length c0_6) := (blk_cell BK0.out 6).trans rfl
  have hfz20_0 := blk_frozen BK0.out 0
  have hfz20_1 := blk_frozen BK0.out 1
  have hfz20_2 := blk_frozen BK0.out 2
  have hfz20_3 := blk_frozen BK0.out 3
  have hfz20_4 := blk_frozen BK0.out 4
  have hfz20_5 := blk_frozen BK0.out 5
  have hfz20_6 := blk_frozen BK0.out 6
  go_enter Try.func59, Try.ntmps59
  go_wp2_with (first | (go_at_call 93; (with_reducible refine (impl_Board_coloured.calls k a0_0 a0_1 _ _ l0_2 _ _ l1 false _ ?side1 ?side2 ?side3 ?side4 A3.out).mono ?_); (case side1 => exact zad3); (case side2 => exact HC0_2.out); (case side3 => exact zad4); (case side4 => exact HC1.out); rintro e w21 ⟨rfl, hb⟩; have n0_ := Aside0.mk (blk_below (g := gb0) (o := .cells #[.int .i64 a0_0, .int .i64 a0_1, .slice A0_2 l0_2.length c0_2, .int .i64 a0_3, .int .i64 a0_4, .slice A0_5 l0_5.length c0_5, .slice A0_6 l0_6.length c0_6] 84 (0, 0)) zad2 hb); have n1_ := Aside0.mk (below_step zad1 hb); clear BK0; clear HB; have BK0 := n0_; have HB := n1_; clear n0_ n1_; (try clear hb); (try clear hb2); (try clear hk); (try clear hi); (try clear hna_); (try clear hnb_)))
  repeat ((first | go_quiet (first | (go_at_call 93; (with_reducible refine (impl_Board_coloured.calls k a0_0 a0_1 _ _ l0_2 _ _ l1 false _ ?side1 ?side2 ?side3 ?side4 A3.out).mono ?_); (case side1 => exact zad3); (case side2 => exact HC0_2.out); (case side3 => exact zad4); (case side4 => exact HC1.out); rintro e w21 ⟨rfl, hb⟩; have n0_ := Aside0.mk (blk_below (g := gb0) (o := .cells #[.int .i64 a0_0, .int .i64 a0_1, .slice A0_2 l0_2.length c0_2, .int .i64 a0_3, .int .i64 a0_4, .slice A0_5 l0_5.length c0_5, .slice A0_6 l0_6.length c0_6] 84 (0, 0)) zad2 hb); have n1_ := Aside0.mk (below_step zad1 hb); clear BK0; clear HB; have BK0 := n0_; have HB := n1_; clear n0_ n1_; (try clear hb); (try clear hb2); (try clear hk); (try clear hi); (try clear hna_); (try clear hnb_))) | (refine wp_region_quiet_lit (by kernel_rfl) (by kernel_rfl) ?_; (repeat (any_goals (first | go_big_quiet_step (first | (go_at_call 93; (with_reducible refine (impl_Board_coloured.calls k a0_0 a0_1 _ _ l0_2 _ _ l1 false _ ?side1 ?side2 ?side3 ?side4 A3.out).mono ?_); (case side1 => exact zad3); (case side2 => exact HC0_2.out); (case side3 => exact zad4); (case side4 => exact HC1.out); rintro e w21 ⟨rfl, hb⟩; have n0_ := Aside0.mk (blk_below (g := gb0) (o := .cells #[.int .i64 a0_0, .int .i64 a0_1, .slice A0_2 l0_2.length c0_2, .int .i64 a0_3, .int .i64 a0_4, .slice A0_5 l0_5.length c0_5, .slice A0_6 l0_6.length c0_6] 84 (0, 0)) zad2 hb); have n1_ := Aside0.mk (below_step zad1 hb); clear BK0; clear HB; have BK0 := n0_; have HB := n1_; clear n0_ n1_; (try clear hb); (try clear hb2); (try clear hk); (try clear hi); (try clear hna_); (try clear hnb_))) | quiet_step (first | (go_at_call 93; (with_reducible refine (impl_Board_coloured.calls k a0_0 a0_1 _ _ l0_2 _ _ l1 false _ ?side1 ?side2 ?side3 ?side4 A3.out).mono ?_); (case side1 => exact zad3); (case side2 => exact HC0_2.out); (case side3 => exact zad4); (case side4 => exact HC1.out); rintro e w21 ⟨rfl, hb⟩; have n0_ := Aside0.mk (blk_below (g := gb0) (o := .cells #[.int .i64 a0_0, .int .i64 a0_1, .slice A0_2 l0_2.length c0_2, .int .i64 a0_3, .int .i64 a0_4, .slice A0_5 l0_5.length c0_5, .slice A0_6 l0_6.length c0_6] 84 (0, 0)) zad2 hb); have n1_ := Aside0.mk (below_step zad1 hb); clear BK0; clear HB; have BK0 := n0_; have HB := n1_; clear n0_ n1_; (try clear hb); (try clear hb2); (try clear hk); (try clear hi); (try clear hna_); (try clear hnb_)))))); all_goals (refine wpQuiet_nil ?_; intro _ hw2_; obtain ⟨nq, hw3_⟩ := hw2_; subst hw3_))); try go_wp2_with (first | (go_at_call 93; (with_reducible refine (impl_Board_coloured.calls k a0_0 a0_1 _ _ l0_2 _ _ l1 false _ ?side1 ?side2 ?side3 ?side4 A3.out).mono ?_); (case side1 => exact zad3); (case side2 => exact HC0_2.out); (case side3 => exact zad4); (case side4 => exact HC1.out); rintro e w21 ⟨rfl, hb⟩; have n0_ := Aside0.mk (blk_below (g := gb0) (o := .cells #[.int .i64 a0_0, .int .i64 a0_1, .slice A0_2 l0_2.length c0_2, .int .i64 a0_3, .int .i64 a0_4, .slice A0_5 l0_5.length c0_5, .slice A0_6 l0_6.length c0_6] 84 (0, 0)) zad2 hb); have n1_ := Aside0.mk (below_step zad1 hb); clear BK0; clear HB; have BK0 := n0_; have HB := n1_; clear n0_ n1_; (try clear hb); (try clear hb2); (try clear hk); (try clear hi); (try clear hna_); (try clear hnb_))))
  go_ret
  exact ⟨zad11, zad1⟩
 subst c4
 have H1 : ((impl_graph_pairs.f k a0_0 a0_1 l0_2 a0_3 a0_4 l0_5 l0_6).bind fun t696 => (impl_graph_isPainting.l0 k l1 t696 (t696.length : Int) 0)) = some r := by rw [if_pos rfl] at H; exact H
 clear H
 have H := H1
 clear H1
 replace H := Option.bind_eq_some_iff.mp H
 obtain ⟨t696, A50, H⟩ := H
 replace H : (impl_graph_isPainting.l0 k l1 t696 (t696.length : Int) 0) = some r := H
 have A5 := Aside0.mk A50
 clear A50
 have H' := Aside0.mk H
 clear H
 have hcz6_0 : w.cell? ⟨gb0, 0, none⟩ = some (.int .i64 a0_0) := (blk_cell BK0.out 0).trans rfl
 have hcz6_1 : w.cell? ⟨gb0, 1, none⟩ = some (.int .i64 a0_1) := (blk_cell BK0.out 1).trans rfl
 have hcz6_2 : w.cell? ⟨gb0, 2, none⟩ = some (.slice A0_2 l0_2.length c0_2) := (blk_cell BK0.out 2).trans rfl
 have hcz6_3 : w.cell? ⟨gb0, 3, none⟩ = some (.int .i64 a0_3) := (blk_cell BK0.out 3).trans rfl
 have hcz6_4 : w.cell? ⟨gb0, 4, none⟩ = some (.int .i64 a0_4) := (blk_cell BK0.out 4).trans rfl
 have hcz6_5 : w.cell? ⟨gb0, 5, none⟩ = some (.slice A0_5 l0_5.length c0_5) := (blk_cell BK0.out 5).trans rfl
 have hcz6_6 : w.cell? ⟨gb0, 6, none⟩ = some (.slice A0_6 l0_6.length c0_6) := (blk_cell BK0.out 6).trans rfl
 have hfz6_0 := blk_frozen BK0.out 0
 have hfz6_1 := blk_frozen BK0.out 1
 have hfz6_2 := blk_frozen BK0.out 2
 have hfz6_3 := blk_frozen BK0.out 3
 have hfz6_4 := blk_frozen BK0.out 4
 have hfz6_5 := blk_frozen BK0.out 5
 have hfz6_6 := blk_frozen BK0.out 6
 go_enter Try.func59, Try.ntmps59
 go_wp2_with (first | (go_at_call 93; (with_reducible refine (impl_Board_coloured.calls k a0_0 a0_1 _ _ l0_2 _ _ l1 true _ ?side1 ?side2 ?side3 ?side4 A3.out).mono ?_); (case side1 => exact zad3); (case side2 => exact HC0_2.out); (case side3 => exact zad4); (case side4 => exact HC1.out); rintro e w7 ⟨rfl, hb⟩; have n0_ := Aside0.mk (blk_below (g := gb0) (o := .cells #[.int .i64 a0_0, .int .i64 a0_1, .slice A0_2 l0_2.length c0_2, .int .i64 a0_3, .int .i64 a0_4, .slice A0_5 l0_5.length c0_5, .slice A0_6 l0_6.length c0_6] 84 (0, 0)) zad2 hb); have n1_ := Aside0.mk (below_step zad1 hb); clear BK0; clear HB; have BK0 := n0_; have HB := n1_; clear n0_ n1_; (try clear hb); (try clear hb2); (try clear hk); (try clear hi); (try clear hna_); (try clear hnb_)) | (go_at_call 94; (with_reducible refine (impl_graph_pairs.calls k gb0 a0_0 a0_1 A0_2 c0_2 l0_2 a0_3 a0_4 A0_5 c0_5 l0_5 A0_6 c0_6 l0_6 t696 _ ?side1 ?side2 ?side3 ?side4 ?side5 ?side6 ?side7 A5.out).mono ?_); (case side1 => exact zad2); (case side2 => exact zad8); (case side3 => exact HC0_2.out); (case side4 => exact zad7); (case side5 => exact HC0_5.out); (case side6 => exact zad6); (case side7 => exact HC0_6.out); rintro e w8 ⟨v697, rfl, ho0, hb⟩; have n0_ := Aside0.mk (Kd.S_lower ho0 (below_size zad1)); have n1_ := Aside0.mk (blk_below (g := gb0) (o := .cells #[.int .i64 a0_0, .int .i64 a0_1, .slice A0_2 l0_2.length c0_2, .int .i64 a0_3, .int .i64 a0_4, .slice A0_5 l0_5.length c0_5, .slice A0_6 l0_6.length c0_6] 84 (0, 0)) zad2 hb); have n2_ := Aside0.mk (below_step zad1 hb); clear BK0; clear HB; have HO698 := n0_; have BK0 := n1_; have HB := n2_; clear n0_ n1_ n2_; (try clear hb); (try clear hb2); (try clear hk); (try clear hi); (try clear ho0); (try clear hna_); (try clear hnb_); obtain ⟨Ao9, co9, eo9⟩ := Kd.S_slice HO698.out; subst eo9))
 repeat ((first | go_quiet (first | (go_at_call 93; (with_reducible refine (impl_Board_coloured.calls k a0_0 a0_1 _ _ l0_2 _ _ l1 true _ ?side1 ?side2 ?side3 ?side4 A3.out).mono ?_); (case side1 => exact zad3); (case side2 => exact HC0_2.out); (case side3 => exact zad4); (case side4 => exact HC1.out); rintro e w7 ⟨rfl, hb⟩; have n0_ := Aside0.mk (blk_below (g := gb0) (o := .cells #[.int .i64 a0_0, .int .i64 a0_1, .slice A0_2 l0_2.length c0_2, .int .i64 a0_3, .int .i64 a0_4, .slice A0_5 l0_5.length c0_5, .slice A0_6 l0_6.length c0_6] 84 (0, 0)) zad2 hb); have n1_ := Aside0.mk (below_step zad1 hb); clear BK0; clear HB; have BK0 := n0_; have HB := n1_; clear n0_ n1_; (try clear hb); (try clear hb2); (try clear hk); (try clear hi); (try clear hna_); (try clear hnb_)) | (go_at_call 94; (with_reducible refine (impl_graph_pairs.calls k gb0 a0_0 a0_1 A0_2 c0_2 l0_2 a0_3 a0_4 A0_5 c0_5 l0_5 A0_6 c0_6 l0_6 t696 _ ?side1 ?side2 ?side3 ?side4 ?side5 ?side6 ?side7 A5.out).mono ?_); (case side1 => exact zad2); (case side2 => exact zad8); (case side3 => exact HC0_2.out); (case side4 => exact zad7); (case side5 => exact HC0_5.out); (case side6 => exact zad6); (case side7 => exact HC0_6.out); rintro e w8 ⟨v697, rfl, ho0, hb⟩; have n0_ := Aside0.mk (Kd.S_lower ho0 (below_size zad1)); have n1_ := Aside0.mk (blk_below (g := gb0) (o := .cells #[.int .i64 a0_0, .int .i64 a0_1, .slice A0_2 l0_2.length c0_2, .int .i64 a0_3, .int .i64 a0_4, .slice A0_5 l0_5.length c0_5, .slice A0_6 l0_6.length c0_6] 84 (0, 0)) zad2 hb); have n2_ := Aside0.mk (below_step zad1 hb); clear BK0; clear HB; have HO698 := n0_; have BK0 := n1_; have HB := n2_; clear n0_ n1_ n2_; (try clear hb); (try clear hb2); (try clear hk); (try clear hi); (try clear ho0); (try clear hna_); (try clear hnb_); obtain ⟨Ao9, co9, eo9⟩ := Kd.S_slice HO698.out; subst eo9)) | (refine wp_region_quiet_lit (by kernel_rfl) (by kernel_rfl) ?_; (repeat (any_goals (first | go_big_quiet_step (first | (go_at_call 93; (with_reducible refine (impl_Board_coloured.calls k a0_0 a0_1 _ _ l0_2 _ _ l1 true _ ?side1 ?side2 ?side3 ?side4 A3.out).mono ?_); (case side1 => exact zad3); (case side2 => exact HC0_2.out); (case side3 => exact zad4); (case side4 => exact HC1.out); rintro e w7 ⟨rfl, hb⟩; have n0_ := Aside0.mk (blk_below (g := gb0) (o := .cells #[.int .i64 a0_0, .int .i64 a0_1, .slice A0_2 l0_2.length c0_2, .int .i64 a0_3, .int .i64 a0_4, .slice A0_5 l0_5.length c0_5, .slice A0_6 l0_6.length c0_6] 84 (0, 0)) zad2 hb); have n1_ := Aside0.mk (below_step zad1 hb); clear BK0; clear HB; have BK0 := n0_; have HB := n1_; clear n0_ n1_; (try clear hb); (try clear hb2); (try clear hk); (try clear hi); (try clear hna_); (try clear hnb_)) | (go_at_call 94; (with_reducible refine (impl_graph_pairs.calls k gb0 a0_0 a0_1 A0_2 c0_2 l0_2 a0_3 a0_4 A0_5 c0_5 l0_5 A0_6 c0_6 l0_6 t696 _ ?side1 ?side2 ?side3 ?side4 ?side5 ?side6 ?side7 A5.out).mono ?_); (case side1 => exact zad2); (case side2 => exact zad8); (case side3 => exact HC0_2.out); (case side4 => exact zad7); (case side5 => exact HC0_5.out); (case side6 => exact zad6); (case side7 => exact HC0_6.out); rintro e w8 ⟨v697, rfl, ho0, hb⟩; have n0_ := Aside0.mk (Kd.S_lower ho0 (below_size zad1)); have n1_ := Aside0.mk (blk_below (g := gb0) (o := .cells #[.int .i64 a0_0, .int .i64 a0_1, .slice A0_2 l0_2.length c0_2, .int .i64 a0_3, .int .i64 a0_4, .slice A0_5 l0_5.length c0_5, .slice A0_6 l0_6.length c0_6] 84 (0, 0)) zad2 hb); have n2_ := Aside0.mk (below_step zad1 hb); clear BK0; clear HB; have HO698 := n0_; have BK0 := n1_; have HB := n2_; clear n0_ n1_ n2_; (try clear hb); (try clear hb2); (try clear hk); (try clear hi); (try clear ho0); (try clear hna_); (try clear hnb_); obtain ⟨Ao9, co9, eo9⟩ := Kd.S_slice HO698.out; subst eo9)) | quiet_step (first | (go_at_call 93; (with_reducible refine (impl_Board_coloured.calls k a0_0 a0_1 _ _ l0_2 _ _ l1 true _ ?side1 ?side2 ?side3 ?side4 A3.out).mono ?_); (case side1 => exact zad3); (case side2 => exact HC0_2.out); (case side3 => exact zad4); (case side4 => exact HC1.out); rintro e w7 ⟨rfl, hb⟩; have n0_ := Aside0.mk (blk_below (g := gb0) (o := .cells #[.int .i64 a0_0, .int .i64 a0_1, .slice A0_2 l0_2.length c0_2, .int .i64 a0_3, .int .i64 a0_4, .slice A0_5 l0_5.length c0_5, .slice A0_6 l0_6.length c0_6] 84 (0, 0)) zad2 hb); have n1_ := Aside0.mk (below_step zad1 hb); clear BK0; clear HB; have BK0 := n0_; have HB := n1_; clear n0_ n1_; (try clear hb); (try clear hb2); (try clear hk); (try clear hi); (try clear hna_); (try clear hnb_)) | (go_at_call 94; (with_reducible refine (impl_graph_pairs.calls k gb0 a0_0 a0_1 A0_2 c0_2 l0_2 a0_3 a0_4 A0_5 c0_5 l0_5 A0_6 c0_6 l0_6 t696 _ ?side1 ?side2 ?side3 ?side4 ?side5 ?side6 ?side7 A5.out).mono ?_); (case side1 => exact zad2); (case side2 => exact zad8); (case side3 => exact HC0_2.out); (case side4 => exact zad7); (case side5 => exact HC0_5.out); (case side6 => exact zad6); (case side7 => exact HC0_6.out); rintro e w8 ⟨v697, rfl, ho0, hb⟩; have n0_ := Aside0.mk (Kd.S_lower ho0 (below_size zad1)); have n1_ := Aside0.mk (blk_below (g := gb0) (o := .cells #[.int .i64 a0_0, .int .i64 a0_1, .slice A0_2 l0_2.length c0_2, .int .i64 a0_3, .int .i64 a0_4, .slice A0_5 l0_5.length c0_5, .slice A0_6 l0_6.length c0_6] 84 (0, 0)) zad2 hb); have n2_ := Aside0.mk (below_step zad1 hb); clear BK0; clear HB; have HO698 := n0_; have BK0 := n1_; have HB := n2_; clear n0_ n1_ n2_; (try clear hb); (try clear hb2); (try clear hk); (try clear hi); (try clear ho0); (try clear hna_); (try clear hnb_); obtain ⟨Ao9, co9, eo9⟩ := Kd.S_slice HO698.out; subst eo9))))); all_goals (refine wpQuiet_nil ?_; intro _ hw2_; obtain ⟨nq, hw3_⟩ := hw2_; subst hw3_))); try go_wp2_with (first | (go_at_call 93; (with_reducible refine (impl_Board_coloured.calls k a0_0 a0_1 _ _ l0_2 _ _ l1 true _ ?side1 ?side2 ?side3 ?side4 A3.out).mono ?_); (case side1 => exact zad3); (case side2 => exact HC0_2.out); (case side3 => exact zad4); (case side4 => exact HC1.out); rintro e w7 ⟨rfl, hb⟩; have n0_ := Aside0.mk (blk_below (g := gb0) (o := .cells #[.int .i64 a0_0, .int .i64 a0_1, .slice A0_2 l0_2.length c0_2, .int .i64 a0_3, .int .i64 a0_4, .slice A0_5 l0_5.length c0_5, .slice A0_6 l0_6.length c0_6] 84 (0, 0)) zad2 hb); have n1_ := Aside0.mk (below_step zad1 hb); clear BK0; clear HB; have BK0 := n0_; have HB := n1_; clear n0_ n1_; (try clear hb); (try clear hb2); (try clear hk); (try clear hi); (try clear hna_); (try clear hnb_)) | (go_at_call 94; (with_reducible refine (impl_graph_pairs.calls k gb0 a0_0 a0_1 A0_2 c0_2 l0_2 a0_3 a0_4 A0_5 c0_5 l0_5 A0_6 c0_6 l0_6 t696 _ ?side1 ?side2 ?side3 ?side4 ?side5 ?side6 ?side7 A5.out).mono ?_); (case side1 => exact zad2); (case side2 => exact zad8); (case side3 => exact HC0_2.out); (case side4 => exact zad7); (case side5 => exact HC0_5.out); (case side6 => exact zad6); (case side7 => exact HC0_6.out); rintro e w8 ⟨v697, rfl, ho0, hb⟩; have n0_ := Aside0.mk (Kd.S_lower ho0 (below_size zad1)); have n1_ := Aside0.mk (blk_below (g := gb0) (o := .cells #[.int .i64 a0_0, .int .i64 a0_1, .slice A0_2 l0_2.length c0_2, .int .i64 a0_3, .int .i64 a0_4, .slice A0_5 l0_5.length c0_5, .slice A0_6 l0_6.length c0_6] 84 (0, 0)) zad2 hb); have n2_ := Aside0.mk (below_step zad1 hb); clear BK0; clear HB; have HO698 := n0_; have BK0 := n1_; have HB := n2_; clear n0_ n1_ n2_; (try clear hb); (try clear hb2); (try clear hk); (try clear hi); (try clear ho0); (try clear hna_); (try clear hnb_); obtain ⟨Ao9, co9, eo9⟩ := Kd.S_slice HO698.out; subst eo9)))
 go_loopg [17] k (fun kq v17 w' => ∃ (x17_1 : Int), v17 = .int .i64 x17_1 ∧ Aside0 (impl_graph_isPainting.l0 kq l1 t696 (t696.length : Int) x17_1 = some r) ∧ Aside0 (kq ≤ k) ∧ Aside0 (Kd.S (Kd.slice 3 (Kd.int .i64)) 22 w' w.heap.size (fun _ => True) (.slice Ao9 t696.length co9) t696) ∧ Aside0 (w'.heap[gb0]? = some (.cells #[.int .i64 a0_0, .int .i64 a0_1, (.slice A0_2 l0_2.length c0_2), .int .i64 a0_3, .int .i64 a0_4, (.slice A0_5 l0_5.length c0_5), (.slice A0_6 l0_6.length c0_6)] 84 (0, 0))) ∧ Aside0 (Below w.heap.size w w'))
 case atStart => exact ⟨(0), zad12, H', ⟨Nat.le_refl _⟩, ⟨by first | exact HO698.out | ((with_reducible repeat (first | apply Kd.S_alloc | apply Kd.S_drewN | apply Kd.S_drew)); exact HO698.out)⟩, ⟨zad2⟩, ⟨zad1⟩⟩
 case round =>
  clear H'
  try clear c1; try clear p2; try clear c4; try clear c5; try clear hcz6_0; try clear hcz6_1; try clear hcz6_2; try clear hcz6_3; try clear hcz6_4; try clear hcz6_5; try clear hcz6_6; try clear hfz6_0; try clear hfz6_1; try clear hfz6_2; try clear hfz6_3; try clear hfz6_4; try clear hfz6_5; try clear hfz6_6
  obtain ⟨x17_1, rfl, HA, HK1, HO_15, BK0, HB⟩ := hrel
  cases gk with
  | zero => exact absurd HA.out (by simp [impl_graph_isPainting.l0])
  | succ k1 =>
   have H := HA.out
   clear HA
   simp only [impl_graph_isPainting.l0] at H
   by_cases c10 : x17_1 < (t696.length : Int)
   rotate_left
   ·rw [if_neg c10] at H
    have c10b0 : decide (x17_1 < (t696.length : Int)) = false := decide_eq_false c10
    clear c10
    obtain rfl := Option.some.inj H
    go_wp2
    repeat ((first | go_quiet (fail) | (refine wp_region_quiet_lit (by kernel_rfl) (by kernel_rfl) ?_; (repeat (any_goals (first | go_big_quiet_step (fail) | quiet_step (fail)))); all_goals (refine wpQuiet_nil ?_; intro _ hw2_; obtain ⟨nq, hw3_⟩ := hw2_; subst hw3_))); try go_wp2)
    go_ret
    exact ⟨zad11, zad1⟩
   rw [if_pos c10] at H
   have c10b0 : decide (x17_1 < (t696.length : Int)) = true := decide_eq_true c10
   clear c10
   by_cases c11 : 0 ≤ x17_1
   rotate_left
   ·rw [if_neg c11] at H
    exact absurd H (by simp)
   rw [if_pos c11] at H
   have c11b0 : decide (0 ≤ x17_1) = true := decide_eq_true c11
   clear c11
   by_cases c12 : x17_1 < (t696.length : Int)
   rotate_left
   ·rw [if_neg c12] at H
    exact absurd H (by simp)
   rw [if_pos c12] at H
   have c12b0 : decide (x17_1 < (t696.length : Int)) = true := decide_eq_true c12
   clear c12
   by_cases c13 : 0 < ((rd_L1 t696 x17_1).length : Int)
   rotate_left
   ·rw [if_neg c13] at H
    exact absurd H (by simp)
   rw [if_pos c13] at H
   have c13b0 : decide (0 < ((rd_L1 t696 x17_1).length : Int)) = true := decide_eq_true c13
   have c13b1 : decide (0 < (rd_L1 t696 x17_1).length) = true := decide_eq_true (by omega)
   clear c13
   by_cases c14 : 0 ≤ (rd (rd_L1 t696 x17_1) 0)
   rotate_left
   ·rw [if_neg c14] at H
    exact absurd H (by simp)
   rw [if_pos c14] at H
   have c14b0 : decide (0 ≤ (rd (rd_L1 t696 x17_1) 0)) = true := decide_eq_true c14
   clear c14
   by_cases c15 : (rd (rd_L1 t696 x17_1) 0) < (l1.length : Int)
   rotate_left
   ·rw [if_neg c15] at H
    exact absurd H (by simp)
   rw [if_pos c15] at H
   have c15b0 : decide ((rd (rd_L1 t696 x17_1) 0) < (l1.length : Int)) = true := decide_eq_true c15
   clear c15
   by_cases c16 : 1 < ((rd_L1 t696 x17_1).length : Int)
   rotate_left
   ·rw [if_neg c16] at H
    exact absurd H (by simp)
   rw [if_pos c16] at H
   have c16b0 : decide (1 < ((rd_L1 t696 x17_1).length : Int)) = true := decide_eq_true c16
   have c16b1 : decide (1 < (rd_L1 t696 x17_1).length) = true := decide_eq_true (by omega)
   clear c16
   by_cases c17 : 0 ≤ (rd (rd_L1 t696 x17_1) 1)
   rotate_left
   ·rw [if_neg c17] at H
    exact absurd H (by simp)
   rw [if_pos c17] at H
   have c17b0 : decide (0 ≤ (rd (rd_L1 t696 x17_1) 1)) = true := decide_eq_true c17
   clear c17
   by_cases c18 : (rd (rd_L1 t696 x17_1) 1) < (l1.length : Int)
   rotate_left
   ·rw [if_neg c18] at H
    exact absurd H (by simp)
   rw [if_pos c18] at H
   have c18b0 : decide ((rd (rd_L1 t696 x17_1) 1) < (l1.length : Int)) = true := decide_eq_true c18
   clear c18
   by_cases c19 : (rd l1 (rd (rd_L1 t696 x17_1) 0)) = (rd l1 (rd (rd_L1 t696 x17_1) 1))
   ·rw [if_pos c19] at H
    have c19b0 : ((rd l1 (rd (rd_L1 t696 x17_1) 0)) == (rd l1 (rd (rd_L1 t696 x17_1) 1))) = true := beq_iff_eq.mpr c19
    have c19b1 : ((rd l1 (rd (rd_L1 t696 x17_1) 0)) != (rd l1 (rd (rd_L1 t696 x17_1) 1))) = false := bne_eq_false_iff_eq.mpr c19
    clear c19
    obtain rfl := Option.some.inj H
    have p699 : 0 ≤ (x17_1 : Int) := of_decide_eq_true zad5
    have q699 : x17_1 < (t696.length : Int) := of_decide_eq_true zad5
    obtain ⟨ad699, A699_0, c699_0, e699, hx699_0, hl699_0, hi699_0⟩ := at_L1 (Kd.S_reads' HO_15.out).2.2 x17_1 p699 q699
    cases e699
    obtain ⟨ce699, hce699, hMe699, hcc699⟩ := Kd.S_get HO_15.out [] x17_1 p699 (by first | exact q699 | exact of_decide_eq_true zad5 | (have e_ := (Kd.S_reads' HO_15.out).1; omega))
    obtain ⟨ve699_0, rfl, ge699_0⟩ := hMe699
    have hv699_0 := hcc699 0 _ rfl
    rw [Nat.add_zero, show ((Kd.slice 3 (Kd.int .i64))).sz = 1 from rfl, Nat.mul_one] at hv699_0
    replace hv699_0 := Option.some.inj (hv699_0.symm.trans hx699_0)
    rw [hv699_0] at ge699_0
    have HL699_0 := Aside0.mk (show Kd.R (Kd.int .i64) 3 _ _ _ _ (rd_L1 t696 x17_1) from ge699_0)
    clear hv699_0 ge699_0
    clear hcc699 hce699
    have HR699_0 := Aside0.mk hi699_0
    have HC699_0 := Aside0.mk hl699_0
    clear hi699_0 hl699_0
    replace p699 := eq_true p699
    replace q699 := eq_true q699
    have p700 : 0 ≤ (0 : Int) := (by omega)
    have q700 : 0 < ((rd_L1 t696 x17_1).length : Int) := of_decide_eq_true zad5
    obtain ⟨ad700, e700, hx700_0⟩ := Kd.at_int zad9 0 p700 q700
    cases e700
    have qi700 : (0 < (rd_L1 t696 x17_1).length) = True := eq_true (by omega)
    (try rw [show ((0 : Int)).toNat = 0 from rfl] at hx700_0)
    (try rw [Addr.add_zero'] at hx700_0)
    replace p700 := eq_true p700
    replace q700 := eq_true q700
    have p701 : 0 ≤ ((rd (rd_L1 t696 x17_1) 0) : Int) := of_decide_eq_true zad5
    have q701 : (rd (rd_L1 t696 x17_1) 0) < (l1.length : Int) := of_decide_eq_true zad5
    obtain ⟨ad701, e701, hx701_0⟩ := Kd.at_int HR1.out (rd (rd_L1 t696 x17_1) 0) p701 q701
    cases e701
    (first | replace hx701_0 := (HB.out.cell (World.block_lt_of_cell? w _ hx701_0)).trans hx701_0 | skip)
    replace p701 := eq_true p701
    replace q701 := eq_true q701
    have p702 : 0 ≤ (1 : Int) := (by omega)
    have q702 : 1 < ((rd_L1 t696 x17_1).length : Int) := of_decide_eq_true zad5
    obtain ⟨ad702, e702, hx702_0⟩ := Kd.at_int zad9 1 p702 q702
    obtain rfl : ad700 = ad702 := (by injection e702)
    (try simp only [show (1 : Int).toNat = 1 from rfl, Nat.reduceMul, Nat.reduceEqDiff, Go.Addr.add, ↓reduceIte] at hx702_0)
    have qi702 : (1 < (rd_L1 t696 x17_1).length) = True := eq_true (by omega)
    (try rw [show ((1 : Int)).toNat = 1 from rfl] at hx702_0)
    replace p702 := eq_true p702
    replace q702 := eq_true q702
    have p703 : 0 ≤ ((rd (rd_L1 t696 x17_1) 1) : Int) := of_decide_eq_true zad5
    have q703 : (rd (rd_L1 t696 x17_1) 1) < (l1.length : Int) := of_decide_eq_true zad5
    obtain ⟨ad703, e703, hx703_0⟩ := Kd.at_int HR1.out (rd (rd_L1 t696 x17_1) 1) p703 q703
    obtain rfl : ad701 = ad703 := (by injection e703)
    (first | replace hx703_0 := (HB.out.cell (World.block_lt_of_cell? w _ hx703_0)).trans hx703_0 | skip)
    replace p703 := eq_true p703
    replace q703 := eq_true q703
    go_wp2
    repeat ((first | go_quiet (fail) | (refine wp_region_quiet_lit (by kernel_rfl) (by kernel_rfl) ?_; (repeat (any_goals (first | go_big_quiet_step (fail) | quiet_step (fail)))); all_goals (refine wpQuiet_nil ?_; intro _ hw2_; obtain ⟨nq, hw3_⟩ := hw2_; subst hw3_))); try go_wp2)
    go_ret
    exact ⟨zad11, zad1⟩
   rw [if_neg c19] at H
   have c19b0 : ((rd l1 (rd (rd_L1 t696 x17_1) 0)) == (rd l1 (rd (rd_L1 t696 x17_1) 1))) = false := beq_eq_false_iff_ne.mpr c19
   have c19b1 : ((rd l1 (rd (rd_L1 t696 x17_1) 0)) != (rd l1 (rd (rd_L1 t696 x17_1) 1))) = true := bne_iff_ne.mpr c19
   have H' := Aside0.mk H
   clear H
   have p699 : 0 ≤ (x17_1 : Int) := of_decide_eq_true zad5
   have q699 : x17_1 < (t696.length : Int) := of_decide_eq_true zad5
   obtain ⟨ad699, A699_0, c699_0, e699, hx699_0, hl699_0, hi699_0⟩ := at_L1 (Kd.S_reads' HO_15.out).2.2 x17_1 p699 q699
   cases e699
   obtain ⟨ce699, hce699, hMe699, hcc699⟩ := Kd.S_get HO_15.out [] x17_1 p699 (by first | exact q699 | exact of_decide_eq_true zad5 | (have e_ := (Kd.S_reads' HO_15.out).1; omega))
   obtain ⟨ve699_0, rfl, ge699_0⟩ := hMe699
   have hv699_0 := hcc699 0 _ rfl
   rw [Nat.add_zero, show ((Kd.slice 3 (Kd.int .i64))).sz = 1 from rfl, Nat.mul_one] at hv699_0
   replace hv699_0 := Option.some.inj (hv699_0.symm.trans hx699_0)
   rw [hv699_0] at ge699_0
   have HL699_0 := Aside0.mk (show Kd.R (Kd.int .i64) 3 _ _ _ _ (rd_L1 t696 x17_1) from ge699_0)
   clear hv699_0 ge699_0
   clear hcc699 hce699
   have HR699_0 := Aside0.mk hi699_0
   have HC699_0 := Aside0.mk hl699_0
   clear hi699_0 hl699_0
   replace p699 := eq_true p699
   replace q699 := eq_true q699
   have p700 : 0 ≤ (0 : Int) := (by omega)
   have q700 : 0 < ((rd_L1 t696 x17_1).length : Int) := of_decide_eq_true zad5
   obtain ⟨ad700, e700, hx700_0⟩ := Kd.at_int zad9 0 p700 q700
   cases e700
   have qi700 : (0 < (rd_L1 t696 x17_1).length) = True := eq_true (by omega)
   (try rw [show ((0 : Int)).toNat = 0 from rfl] at hx700_0)
   (try rw [Addr.add_zero'] at hx700_0)
   replace p700 := eq_true p700
   replace q700 := eq_true q700
   have p701 : 0 ≤ ((rd (rd_L1 t696 x17_1) 0) : Int) := of_decide_eq_true zad5
   have q701 : (rd (rd_L1 t696 x17_1) 0) < (l1.length : Int) := of_decide_eq_true zad5
   obtain ⟨ad701, e701, hx701_0⟩ := Kd.at_int HR1.out (rd (rd_L1 t696 x17_1) 0) p701 q701
   cases e701
   (first | replace hx701_0 := (HB.out.cell (World.block_lt_of_cell? w _ hx701_0)).trans hx701_0 | skip)
   replace p701 := eq_true p701
   replace q701 := eq_true q701
   have p702 : 0 ≤ (1 : Int) := (by omega)
   have q702 : 1 < ((rd_L1 t696 x17_1).length : Int) := of_decide_eq_true zad5
   obtain ⟨ad702, e702, hx702_0⟩ := Kd.at_int zad9 1 p702 q702
   obtain rfl : ad700 = ad702 := (by injection e702)
   (try simp only [show (1 : Int).toNat = 1 from rfl, Nat.reduceMul, Nat.reduceEqDiff, Go.Addr.add, ↓reduceIte] at hx702_0)
   have qi702 : (1 < (rd_L1 t696 x17_1).length) = True := eq_true (by omega)
   (try rw [show ((1 : Int)).toNat = 1 from rfl] at hx702_0)
   replace p702 := eq_true p702
   replace q702 := eq_true q702
   have p703 : 0 ≤ ((rd (rd_L1 t696 x17_1) 1) : Int) := of_decide_eq_true zad5
   have q703 : (rd (rd_L1 t696 x17_1) 1) < (l1.length : Int) := of_decide_eq_true zad5
   obtain ⟨ad703, e703, hx703_0⟩ := Kd.at_int HR1.out (rd (rd_L1 t696 x17_1) 1) p703 q703
   obtain rfl : ad701 = ad703 := (by injection e703)
   (first | replace hx703_0 := (HB.out.cell (World.block_lt_of_cell? w _ hx703_0)).trans hx703_0 | skip)
   replace p703 := eq_true p703
   replace q703 := eq_true q703
   go_wp2
   repeat ((first | go_quiet (fail) | (refine wp_region_quiet_lit (by kernel_rfl) (by kernel_rfl) ?_; (repeat (any_goals (first | go_big_quiet_step (fail) | quiet_step (fail)))); all_goals (refine wpQuiet_nil ?_; intro _ hw2_; obtain ⟨nq, hw3_⟩ := hw2_; subst hw3_))); try go_wp2)
   go_roundg k1
   case measure => have := HK1.out; omega
   case rel => exact ⟨(wrap64 (x17_1 + 1)), zad12, H', ⟨by have := HK1.out; omega⟩, ⟨by first | exact HO_15.out | ((with_reducible repeat (first | apply Kd.S_alloc | apply Kd.S_drewN | apply Kd.S_drew)); exact HO_15.out)⟩, ⟨zad2⟩, ⟨zad1⟩⟩

end Go.Proofs.Ytbecdckdbeoomaa.Q

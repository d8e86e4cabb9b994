/- Written by a program of this session: functions of the translation as plain Lean functions, each with a proof that the call does what the plain function says; the conditions stand in each theorem. -/
import Derived.Test.YtjeongckkfkehaaQ0
import Derived.Test.YtjeongckkfkehaaQ17
import Derived.Test.YtjeongckkfkehaaQ24
namespace Go.Proofs.Ytjeongckkfkehaa.Q
open Go.RowKit Go.Proofs.YtjeongckkfkehaaW.PrintWords Go.Proofs.YtjeongckkfkehaaW.PrintLast Go.Proofs.YtjeongckkfkehaaW.PrintMore
attribute [local go_sem] max2_int min2_int max_two min_two max_three min_three max_four min_four   -- for this text's walks alone
set_option linter.unusedVariables false
set_option linter.unusedSimpArgs false

theorem zaa1 {p : Prop} (h : p := by repeat (first | (with_reducible first | exact HB.out | apply below_alloc | apply pw_below_drewN | apply below_drew1 | refine below_set ?_ GE661.out | refine below_set ?_ GE662.out) | exact HB.out)) : p := h
theorem zaa2 {p : Prop} (h : p := by (with_reducible repeat (first | refine blk_drewN ?_ _ | refine blk_drew ?_ | refine blk_alloc ?_ _)); exact BK661.out) : p := h
theorem zaa3 {p : Prop} (h : p := by repeat (first | (with_reducible first | exact HB.out | apply below_alloc | apply pw_below_drewN | apply below_drew1 | refine below_set ?_ GE0.out) | exact HB.out)) : p := h
theorem zaa4 {p : Prop} (h : p := by repeat (first | (with_reducible first | exact HB.out | apply below_alloc | apply pw_below_drewN | apply below_drew1 | refine below_set ?_ GE661.out | refine below_set ?_ GE662.out | refine below_set ?_ GE669.out) | exact HB.out)) : p := h
theorem zaa5 {p : Prop} (h : p := by repeat (first | (with_reducible first | exact HB.out | apply below_alloc | apply pw_below_drewN | apply below_drew1 | refine below_set ?_ GE661.out) | exact HB.out)) : p := h
theorem zaa6 {p : Prop} (h : p := by first | (with_reducible assumption) | assumption) : p := h
theorem zaa7 {p : Prop} (h : p := by repeat (first | (with_reducible first | exact HB.out | apply below_alloc | apply pw_below_drewN | apply below_drew1) | exact HB.out)) : p := h
theorem zaa8 {p : Prop} (h : p := by (with_reducible repeat (first | refine blk_drewN ?_ _ | refine blk_drew ?_ | refine blk_alloc ?_ _)); exact BK662.out) : p := h
theorem zaa9 {p : Prop} (h : p := by (with_reducible repeat (first | refine blk_drewN ?_ _ | refine blk_drew ?_ | refine blk_alloc ?_ _)); exact BK0.out) : p := h
theorem zaa10 {p : Prop} (h : p := by repeat (first | exact (Kd.C_below HR0_2.out HB.out) | (with_reducible refine Kd.C_alloc ?_ _) | (with_reducible refine Kd.C_drewN ?_ _) | (with_reducible refine Kd.C_drew ?_))) : p := h
theorem zaa11 {p : Prop} (h : p := by (try simp only [List.map_toArray, List.map_cons, List.map_nil]); first | done | rfl | (simp only [List.length_drop, List.length_take]; rfl)) : p := h
theorem zaa12 {p : Prop} (h : p := by (with_reducible repeat (first | refine blk_drewN ?_ _ | refine blk_drew ?_ | refine blk_alloc ?_ _)); exact BK669.out) : p := h
theorem zaa13 {p : Prop} (h : p := by (with_reducible repeat (first | apply Kd.R_alloc | apply Kd.R_drewN | apply Kd.R_drew)); exact HO665.out) : p := h
theorem zaa14 {p : Prop} (h : p := by repeat (first | exact (Kd.S_reads' HO668.out).2.2 | (with_reducible refine Kd.C_alloc ?_ _) | (with_reducible refine Kd.C_drewN ?_ _) | (with_reducible refine Kd.C_drew ?_))) : p := h
theorem zaa15 {p : Prop} (h : p := by repeat (first | exact (Kd.R_reads' HO665.out).2.2 | (with_reducible refine Kd.C_alloc ?_ _) | (with_reducible refine Kd.C_drewN ?_ _) | (with_reducible refine Kd.C_drew ?_))) : p := h
theorem zaa16 {p : Prop} (h : p := by first | rfl | (simp [errW_none, errW_some] <;> rfl) | (simp [*, errW_none, errW_some] <;> rfl)) : p := h
theorem zaa17 {p : Prop} (h : p := by first | rfl | (simp; done) | (simp [*]; done)) : p := h
theorem zaa18 {p : Prop} (h : p := by (with_reducible repeat (first | apply Kd.S_alloc | apply Kd.S_drewN | apply Kd.S_drew)); exact HO668.out) : p := h
theorem zaa19 {p : Prop} (h : p := by (with_reducible repeat (first | apply Kd.R_alloc | apply Kd.R_drewN | apply Kd.R_drew)); exact HO_10.out) : p := h
theorem zaa20 {p : Prop} (h : p := by rw [hg]; exact Nat.ne_of_lt (blk_lt (g := gb661) (o := .cells #[.int .i64 a0_0, .int .i64 a0_1, .slice A0_2 l0_2.length c0_2] 30 (0, 0)) zaa2)) : p := h
theorem zaa21 {p : Prop} (h : p := by rw [hg]; exact Nat.ne_of_gt (blk_lt (g := gb661) (o := .cells #[.int .i64 a0_0, .int .i64 a0_1, .slice A0_2 l0_2.length c0_2] 30 (0, 0)) zaa2)) : p := h
theorem zaa22 {p : Prop} (h : p := by rw [hg]; exact (below_size zaa7)) : p := h
theorem zaa23 {p : Prop} (h : p := by rw [hg]; exact (below_size zaa5)) : p := h
/-! ### impl_graph_ways: function 67 -/
mutual
def impl_graph_ways.l0 : Nat → Int → List Int → Int → Int → Int → Int → List Int → Int → Int → List Int → List (List Int) → Option (Int)
 | 0, _, _, _, _, _, _, _, _, _, _, _ => none
 | k + 1, x2, x9, x24, x25, x1000, x1001, x1002, x1003, x1004, x1005, x1006 => if x25 < x24 then (if 0 ≤ (x9.length : Int) then (if ((x9.length : Int) : Int).toNat ≤ 35184372088832 then (impl_graph_ways.l1 k x2 (List.replicate ((x9.length : Int) : Int).toNat 0) x24 x25 x9 (x9.length : Int) 0 x1000 x1001 x1002 x1003 x1004 x1005 x1006) else (none)) else (none)) else (if 0 ≤ x2 then (if x2 < (x9.length : Int) then (some (rd x9 x2)) else (none)) else (none))
def impl_graph_ways.l1 : Nat → Int → List Int → Int → Int → List Int → Int → Int → Int → Int → List Int → Int → Int → List Int → List (List Int) → Option (Int)
 | 0, _, _, _, _, _, _, _, _, _, _, _, _, _, _ => none
 | k + 1, x2, x10, x24, x25, x30, x31, x32, x1000, x1001, x1002, x1003, x1004, x1005, x1006 => if x32 < x31 then (if 0 ≤ x32 then (if x32 < (x30.length : Int) then (if x32 < (x1006.length : Int) then (impl_graph_ways.l2 k x2 x10 (rd x30 x32) x24 x25 x30 x31 x32 (rd_L1 x1006 x32) ((rd_L1 x1006 x32).length : Int) 0 x1000 x1001 x1002 x1003 x1004 x1005 x1006) else (none)) else (none)) else (none)) else (impl_graph_ways.l0 k x2 x10 x24 (wrap64 (x25 + 1)) x1000 x1001 x1002 x1003 x1004 x1005 x1006)
def impl_graph_ways.l2 : Nat → Int → List Int → Int → Int → Int → List Int → Int → Int → List Int → Int → Int → Int → Int → List Int → Int → Int → List Int → List (List Int) → Option (Int)
 | 0, _, _, _, _, _, _, _, _, _, _, _, _, _, _, _, _, _, _ => none
 | k + 1, x2, x10, x12, x24, x25, x30, x31, x32, x43, x44, x45, x1000, x1001, x1002, x1003, x1004, x1005, x1006 => if x45 < x44 then (if 0 ≤ x45 then (if x45 < (x43.length : Int) then (if 0 ≤ (rd x43 x45) then (if (rd x43 x45) < (x10.length : Int) then (impl_graph_ways.l2 k x2 (x10.set ((rd x43 x45) : Int).toNat (wrap64 ((rd x10 (rd x43 x45)) + x12))) x12 x24 x25 x30 x31 x32 x43 x44 (wrap64 (x45 + 1)) x1000 x1001 x1002 x1003 x1004 x1005 x1006) else (none)) else (none)) else (none)) else (none)) else (impl_graph_ways.l1 k x2 x10 x24 x25 x30 x31 (wrap64 (x32 + 1)) x1000 x1001 x1002 x1003 x1004 x1005 x1006)
end
def impl_graph_ways.f (k : Nat) (a0_0 : Int) (a0_1 : Int) (l0_2 : List Int) (a0_3 : Int) (a0_4 : Int) (l0_5 : List Int) (l0_6 : List (List Int)) (a1 : Int) (a2 : Int) (a3 : Int) : Option (Int) := if 0 ≤ (l0_6.length : Int) then (if ((l0_6.length : Int) : Int).toNat ≤ 35184372088832 then ((some (List.replicate ((l0_6.length : Int) : Int).toNat 0 : List Int)).bind fun y648 => (if 0 ≤ a1 then (if a1 < (y648.length : Int) then (impl_graph_ways.l0 k a2 (y648.set (a1 : Int).toNat 1) a3 0 a0_0 a0_1 l0_2 a0_3 a0_4 l0_5 l0_6) else (none)) else (none))) else (none)) else (none)
set_option maxHeartbeats 8000000 in
set_option maxRecDepth 100000 in
theorem impl_graph_ways.calls (k : Nat) (gb0 : Nat) (a0_0 : Int) (a0_1 : Int) (A0_2 : Option Addr) (c0_2 : Nat) (l0_2 : List Int) (a0_3 : Int) (a0_4 : Int) (A0_5 : Option Addr) (c0_5 : Nat) (l0_5 : List Int) (A0_6 : Option Addr) (c0_6 : Nat) (l0_6 : List (List Int)) (a1 : Int) (a2 : Int) (a3 : Int) (r : Int) (w : World) (hg0 : w.heap[gb0]? = some (.cells #[.int .i64 a0_0, .int .i64 a0_1, .slice A0_2 l0_2.length c0_2, .int .i64 a0_3, .int .i64 a0_4, .slice A0_5 l0_5.length c0_5, .slice A0_6 l0_6.length c0_6] 82 (0, 0))) (hr0_2 : Kd.C (Kd.int .i64) w A0_2 l0_2.length l0_2) (hc0_2 : l0_2.length ≤ c0_2) (hr0_5 : Kd.C (Kd.int .i64) w A0_5 l0_5.length l0_5) (hc0_5 : l0_5.length ≤ c0_5) (hr0_6 : Kd.C (Kd.slice 3 (Kd.int .i64)) w A0_6 l0_6.length l0_6) (hc0_6 : l0_6.length ≤ c0_6) (h : impl_graph_ways.f k a0_0 a0_1 l0_2 a0_3 a0_4 l0_5 l0_6 a1 a2 a3 = some r) :
  Calls Try.prog 67 #[.pointer (some ⟨gb0, 0, none⟩), .int .i64 a1, .int .i64 a2, .int .i64 a3] w fun e w' => e = .returned (.int .i64 r) ∧ Below w.heap.size w w' := by
 have HR0_2 := Aside0.mk hr0_2
 have HC0_2 := Aside0.mk hc0_2
 clear hr0_2 hc0_2
 have HR0_5 := Aside0.mk hr0_5
 have HC0_5 := Aside0.mk hc0_5
 clear hr0_5 hc0_5
 have HR0_6 := Aside0.mk hr0_6
 have HC0_6 := Aside0.mk hc0_6
 clear hr0_6 hc0_6
 have BK0 := Aside0.mk hg0
 clear hg0
 have HB := Aside0.mk (Below.refl w.heap.size w)
 have H : (if 0 ≤ (l0_6.length : Int) then (if ((l0_6.length : Int) : Int).toNat ≤ 35184372088832 then ((some (List.replicate ((l0_6.length : Int) : Int).toNat 0 : List Int)).bind fun y648 => (if 0 ≤ a1 then (if a1 < (y648.length : Int) then (impl_graph_ways.l0 k a2 (y648.set (a1 : Int).toNat 1) a3 0 a0_0 a0_1 l0_2 a0_3 a0_4 l0_5 l0_6) else (none)) else (none))) else (none)) else (none)) = some r := h
 clear h
 by_cases c5 : 0 ≤ (l0_6.length : Int)
 rotate_left
 ·rw [if_neg c5] at H
  exact absurd H (by simp)
 rw [if_pos c5] at H
 have c5b0 := eq_true c5
 have c5b1 : decide (0 ≤ (l0_6.length : Int)) = true := decide_eq_true c5
 clear c5
 by_cases c6 : ((l0_6.length : Int) : Int).toNat ≤ 35184372088832
 rotate_left
 ·rw [if_neg c6] at H
  exact absurd H (by simp)
 rw [if_pos c6] at H
 have c6b0 := eq_true c6
 have c6b1 : decide (((l0_6.length : Int) : Int).toNat ≤ 35184372088832) = true := decide_eq_true c6
 clear c6
 obtain ⟨y648, hy648⟩ : ∃ y_ : List Int, y_ = (List.replicate ((l0_6.length : Int) : Int).toNat 0) := ⟨_, rfl⟩
 replace H : (if 0 ≤ a1 then (if a1 < (y648.length : Int) then (impl_graph_ways.l0 k a2 (y648.set (a1 : Int).toNat 1) a3 0 a0_0 a0_1 l0_2 a0_3 a0_4 l0_5 l0_6) else (none)) else (none)) = some r := by first | (rw [hy648]; with_reducible exact H) | (have H2_ := (Option.bind_some _ _).symm.trans H; rw [hy648]; with_reducible exact H2_) | (have H2_ := (Option.bind_some _ _).symm.trans H; with_reducible exact H2_) | with_reducible exact H | (rw [hy648]; exact H) | exact H
 have Ny648 := Aside0.mk hy648
 clear hy648
 by_cases c7 : 0 ≤ a1
 rotate_left
 ·rw [if_neg c7] at H
  exact absurd H (by simp)
 rw [if_pos c7] at H
 have c7b0 : decide (0 ≤ a1) = true := decide_eq_true c7
 clear c7
 by_cases c8 : a1 < (y648.length : Int)
 rotate_left
 ·rw [if_neg c8] at H
  exact absurd H (by simp)
 rw [if_pos c8] at H
 have c8b0 : decide (a1 < (y648.length : Int)) = true := decide_eq_true c8
 clear c8
 obtain ⟨y651, hy651⟩ : ∃ y_ : List Int, y_ = (y648.set (a1 : Int).toNat 1) := ⟨_, rfl⟩
 replace H : (impl_graph_ways.l0 k a2 y651 a3 0 a0_0 a0_1 l0_2 a0_3 a0_4 l0_5 l0_6) = some r := by first | (rw [hy651]; with_reducible exact H) | (have H2_ := (Option.bind_some _ _).symm.trans H; rw [hy651]; with_reducible exact H2_) | (have H2_ := (Option.bind_some _ _).symm.trans H; with_reducible exact H2_) | with_reducible exact H | (rw [hy651]; exact H) | exact H
 have Ny651 := Aside0.mk hy651
 clear hy651
 have H' := Aside0.mk H
 clear H
 have hcz10_0 : w.cell? ⟨gb0, 0, none⟩ = some (.int .i64 a0_0) := (blk_cell BK0.out 0).trans rfl
 have hcz10_1 : w.cell? ⟨gb0, 1, none⟩ = some (.int .i64 a0_1) := (blk_cell BK0.out 1).trans rfl
 have hcz10_2 : w.cell? ⟨gb0, 2, none⟩ = some (.slice A0_2 l0_2.length c0_2) := (blk_cell BK0.out 2).trans rfl
 have hcz10_3 : w.cell? ⟨gb0, 3, none⟩ = some (.int .i64 a0_3) := (blk_cell BK0.out 3).trans rfl
 have hcz10_4 : w.cell? ⟨gb0, 4, none⟩ = some (.int .i64 a0_4) := (blk_cell BK0.out 4).trans rfl
 have hcz10_5 : w.cell? ⟨gb0, 5, none⟩ = some (.slice A0_5 l0_5.length c0_5) := (blk_cell BK0.out 5).trans rfl
 have hcz10_6 : w.cell? ⟨gb0, 6, none⟩ = some (.slice A0_6 l0_6.length c0_6) := (blk_cell BK0.out 6).trans rfl
 have hfz10_0 := blk_frozen BK0.out 0
 have hfz10_1 := blk_frozen BK0.out 1
 have hfz10_2 := blk_frozen BK0.out 2
 have hfz10_3 := blk_frozen BK0.out 3
 have hfz10_4 := blk_frozen BK0.out 4
 have hfz10_5 := blk_frozen BK0.out 5
 have hfz10_6 := blk_frozen BK0.out 6
 go_enter Try.func67, Try.ntmps67
 go_wp2_with (first | ((with_reducible refine gate_dst (N := 20) rfl ?_); refine Kd.R_make (Kd.int .i64) _ 3 rfl (N := 20) rfl 22 _ _ rfl (l0_6.length : Int) rfl rfl Try.underlying22 (.int .i64 0) 8 info3 rfl (by decide) (by omega) 0 (ok := fun _ => True) (okp := fun _ => True) rfl (fun _ hk => hk) trivial (of_decide_eq_true zaa6) (Nat.le_trans (Nat.mul_le_mul_right _ (of_decide_eq_true zaa6 : (l0_6.length : Int).toNat ≤ 35184372088832)) (by omega)) (Below.refl _ _) (Nat.le_refl _) ?_; intro v649 w11 ho12 hb hg_ hnew_; clear hg_ hnew_; (first | rw [← Ny648.out] at ho12 | (simp only [Int.reduceToNat] at ho12; rw [← Ny648.out] at ho12)); have n0_ := Aside0.mk (Kd.R_lower ho12 (below_size zaa3)); have n1_ := Aside0.mk (blk_below (g := gb0) (o := .cells #[.int .i64 a0_0, .int .i64 a0_1, .slice A0_2 l0_2.length c0_2, .int .i64 a0_3, .int .i64 a0_4, .slice A0_5 l0_5.length c0_5, .slice A0_6 l0_6.length c0_6] 82 (0, 0)) zaa9 hb); have n2_ := Aside0.mk (below_step zaa3 hb); clear BK0; clear HB; have HO650 := n0_; have BK0 := n1_; have HB := n2_; clear n0_ n1_ n2_; clear hb ho12; have p9 : 0 ≤ (a1 : Int) := of_decide_eq_true zaa6; have q9 : (a1 : Int) < ((y648.length : Int) : Int) := of_decide_eq_true zaa6; obtain ⟨go9, co9, eo9, gb9, gl9, cl9, HG9⟩ := Kd.R_form HO650.out (by omega); (first | cases eo9 | (injection eo9 with ea_ en_ ec_; (first | subst ea_ | (injection ea_ with ea_; subst ea_)); subst ec_; clear en_)); have GB9 := Aside0.mk gb9; have GG9 := Aside0.mk HG9; clear gb9 gl9 HG9; obtain ⟨hx9_0, hf9_0⟩ := Kd.R_celln 0 HO650.out (a1 : Int) p9 q9; replace p9 := eq_true p9; replace q9 := eq_true q9; obtain ⟨hy13_, hz13_⟩ := Kd.R_celln 0 HO650.out (a1 : Int) (of_decide_eq_true zaa6) (of_decide_eq_true zaa6); have HP13 := Kd.R_putg HO650.out (a1 : Int) 1) | ((with_reducible refine gate_store (t := 3) (p := 23) rfl ?_); refine store_event (t := 3) (p := 23) (v := ?vo_w14) (w1 := (w11.setCell ⟨go9, (a1 : Int).toNat, none⟩ (.int .i64 1))) ?hg ?ho ?hn ?hr ?_; (case ho => rfl); (case hg => rfl); (case hn => rfl); (case hr => first | (go_simp; done) | (go_simp; rfl)); intro w14 hw; have hg : w11.grownBy w14 (some go9) := (by rw [hw]; exact HP13.2); have hp_ : Kd.R (Kd.int .i64) 3 w14 w.heap.size (fun _ => True) (.slice (some ⟨go9, 0, none⟩) y648.length co9) y651 := (by rw [hw, Ny651.out]; exact HP13.1); clear HP13; have n0_ := Aside0.mk (blk_grown (g := gb0) (o := .cells #[.int .i64 a0_0, .int .i64 a0_1, .slice A0_2 l0_2.length c0_2, .int .i64 a0_3, .int .i64 a0_4, .slice A0_5 l0_5.length c0_5, .slice A0_6 l0_6.length c0_6] 82 (0, 0)) zaa9 hg (Kd.R_ne HO650.out BK0.out (by decide))); have n1_ := Aside0.mk (hp_); have n2_ := Aside0.mk ((by rw [hw]; exact below_set (HB.out) GB9.out : Below w.heap.size w w14)); clear BK0; clear HO650; clear HB; have BK0 := n0_; have HO650 := n1_; have HB := n2_; clear n0_ n1_ n2_; clear hg hw hp_))
 go_loopg [9, 25] k (fun kq v9 v25 w' => ∃ (x9_1 : List Int) (x25_1 : Int), v25 = .int .i64 x25_1 ∧ Aside0 (impl_graph_ways.l0 kq a2 x9_1 a3 x25_1 a0_0 a0_1 l0_2 a0_3 a0_4 l0_5 l0_6 = some r) ∧ Aside0 (kq ≤ k) ∧ Aside0 (Kd.R (Kd.int .i64) 3 w' w.heap.size (fun _ => True) v9 x9_1) ∧ Aside0 (w'.heap[gb0]? = some (.cells #[.int .i64 a0_0, .int .i64 a0_1, (.slice A0_2 l0_2.length c0_2), .int .i64 a0_3, .int .i64 a0_4, (.slice A0_5 l0_5.length c0_5), (.slice A0_6 l0_6.length c0_6)] 82 (0, 0))) ∧ Aside0 (Below w.heap.size w w'))
 case atStart => exact ⟨(y651), (0), zaa17, H', ⟨Nat.le_refl _⟩, ⟨by (with_reducible repeat (first | apply Kd.R_alloc | apply Kd.R_drewN | apply Kd.R_drew)); exact HO650.out⟩, ⟨zaa9⟩, ⟨zaa3⟩⟩
 case round =>
  clear H'
  try clear p2; try clear c5; try clear c5b0; try clear c5b1; try clear c6; try clear c6b0; try clear c6b1; try clear c7; try clear c7b0; try clear c8; try clear c8b0; try clear p9; try clear q9; try clear hx9; try clear hf9; try clear hcz10_0; try clear hcz10_1; try clear hcz10_2; try clear hcz10_3; try clear hcz10_4; try clear hcz10_5; try clear hcz10_6; try clear hfz10_0; try clear hfz10_1; try clear hfz10_2; try clear hfz10_3; try clear hfz10_4; try clear hfz10_5; try clear hfz10_6; try clear hx9_0; try clear p9; try clear q9
  obtain ⟨x9_1, x25_1, rfl, HA, HK1, HO_9, BK0, HB⟩ := hrel
  cases gk with
  | zero => exact absurd HA.out (by simp [impl_graph_ways.l0])
  | succ k1 =>
   have H := HA.out
   clear HA
   simp only [impl_graph_ways.l0] at H
   by_cases c15 : x25_1 < a3
   rotate_left
   ·rw [if_neg c15] at H
    have c15b0 : decide (x25_1 < a3) = false := decide_eq_false c15
    clear c15
    by_cases c35 : 0 ≤ a2
    rotate_left
    ·rw [if_neg c35] at H
     exact absurd H (by simp)
    rw [if_pos c35] at H
    have c35b0 : decide (0 ≤ a2) = true := decide_eq_true c35
    clear c35
    by_cases c36 : a2 < (x9_1.length : Int)
    rotate_left
    ·rw [if_neg c36] at H
     exact absurd H (by simp)
    rw [if_pos c36] at H
    have c36b0 : decide (a2 < (x9_1.length : Int)) = true := decide_eq_true c36
    clear c36
    obtain rfl := Option.some.inj H
    obtain ⟨Ao37, co37, eo37⟩ := Kd.R_slice HO_9.out
    subst eo37
    have p652 : 0 ≤ (a2 : Int) := of_decide_eq_true zaa6
    have q652 : a2 < (x9_1.length : Int) := of_decide_eq_true zaa6
    obtain ⟨ad652, e652, hx652_0⟩ := Kd.at_int (Kd.R_reads' HO_9.out).2.2 a2 p652 q652
    cases e652
    replace p652 := eq_true p652
    replace q652 := eq_true q652
    go_wp2
    go_ret
    exact ⟨zaa16, zaa3⟩
   rw [if_pos c15] at H
   have c15b0 : decide (x25_1 < a3) = true := decide_eq_true c15
   clear c15
   by_cases c16 : 0 ≤ (x9_1.length : Int)
   rotate_left
   ·rw [if_neg c16] at H
    exact absurd H (by simp)
   rw [if_pos c16] at H
   have c16b0 := eq_true c16
   have c16b1 : decide (0 ≤ (x9_1.length : Int)) = true := decide_eq_true c16
   clear c16
   by_cases c17 : ((x9_1.length : Int) : Int).toNat ≤ 35184372088832
   rotate_left
   ·rw [if_neg c17] at H
    exact absurd H (by simp)
   rw [if_pos c17] at H
   have c17b0 := eq_true c17
   have c17b1 : decide (((x9_1.length : Int) : Int).toNat ≤ 35184372088832) = true := decide_eq_true c17
   clear c17
   obtain ⟨y653, hy653⟩ : ∃ y_ : List Int, y_ = (List.replicate ((x9_1.length : Int) : Int).toNat 0) := ⟨_, rfl⟩
   replace H : (impl_graph_ways.l1 k1 a2 y653 a3 x25_1 x9_1 (x9_1.length : Int) 0 a0_0 a0_1 l0_2 a0_3 a0_4 l0_5 l0_6) = some r := by first | (rw [hy653]; with_reducible exact H) | (have H2_ := (Option.bind_some _ _).symm.trans H; rw [hy653]; with_reducible exact H2_) | (have H2_ := (Option.bind_some _ _).symm.trans H; with_reducible exact H2_) | with_reducible exact H | (rw [hy653]; exact H) | exact H
   have Ny653 := Aside0.mk hy653
   clear hy653
   have H' := Aside0.mk H
   clear H
   obtain ⟨Ao18, co18, eo18⟩ := Kd.R_slice HO_9.out
   subst eo18
   go_wp2_with (first | ((with_reducible refine gate_dst (N := 29) rfl ?_); refine Kd.R_make (Kd.int .i64) _ 3 rfl (N := 29) rfl 22 _ _ rfl (x9_1.length : Int) rfl rfl Try.underlying22 (.int .i64 0) 8 info3 rfl (by decide) (by omega) 0 (ok := fun _ => True) (okp := fun _ => True) rfl (fun _ hk => hk) trivial (of_decide_eq_true zaa6) (Nat.le_trans (Nat.mul_le_mul_right _ (of_decide_eq_true zaa6 : (x9_1.length : Int).toNat ≤ 35184372088832)) (by omega)) (Below.refl _ _) (Nat.le_refl _) ?_; intro v654 w19 ho20 hb hg_ hnew_; clear hg_ hnew_; (first | rw [← Ny653.out] at ho20 | (simp only [Int.reduceToNat] at ho20; rw [← Ny653.out] at ho20)); have n0_ := Aside0.mk (Kd.R_elder' (by (with_reducible repeat (first | apply Kd.R_alloc | apply Kd.R_drewN | apply Kd.R_drew)); exact HO_9.out) (Kd.R_base ho20) hb); have n1_ := Aside0.mk (Kd.R_lower (Kd.R_new' ho20 (Kd.R_lt (by (with_reducible repeat (first | apply Kd.R_alloc | apply Kd.R_drewN | apply Kd.R_drew)); exact HO_9.out))) (below_size zaa3)); have n2_ := Aside0.mk (blk_below (g := gb0) (o := .cells #[.int .i64 a0_0, .int .i64 a0_1, .slice A0_2 l0_2.length c0_2, .int .i64 a0_3, .int .i64 a0_4, .slice A0_5 l0_5.length c0_5, .slice A0_6 l0_6.length c0_6] 82 (0, 0)) zaa9 hb); have n3_ := Aside0.mk (below_step zaa3 hb); clear HO_9; clear BK0; clear HB; have HO_9 := n0_; have HO655 := n1_; have BK0 := n2_; have HB := n3_; clear n0_ n1_ n2_ n3_; clear hb ho20))
   go_loopg [32] k1 (fun kq v32 w' => ∃ (x10_2 : List Int) (x32_2 : Int), v32 = .int .i64 x32_2 ∧ Aside0 (impl_graph_ways.l1 kq a2 x10_2 a3 x25_1 x9_1 (x9_1.length : Int) x32_2 a0_0 a0_1 l0_2 a0_3 a0_4 l0_5 l0_6 = some r) ∧ Aside0 (kq ≤ k1) ∧ Aside0 (Kd.R (Kd.int .i64) 3 w' w.heap.size (fun k_ => some k_ ≠ ((.slice Ao18 x9_1.length co18) : Value).ownBlock) v654 x10_2) ∧ Aside0 (Kd.R (Kd.int .i64) 3 w' w.heap.size (fun k_ => some k_ ≠ (v654 : Value).ownBlock) (.slice Ao18 x9_1.length co18) x9_1) ∧ Aside0 (w'.heap[gb0]? = some (.cells #[.int .i64 a0_0, .int .i64 a0_1, (.slice A0_2 l0_2.length c0_2), .int .i64 a0_3, .int .i64 a0_4, (.slice A0_5 l0_5.length c0_5), (.slice A0_6 l0_6.length c0_6)] 82 (0, 0))) ∧ Aside0 (Below w.heap.size w w'))
   case atStart => exact ⟨(y653), (0), zaa17, H', ⟨Nat.le_refl _⟩, ⟨by (with_reducible repeat (first | apply Kd.R_alloc | apply Kd.R_drewN | apply Kd.R_drew)); exact Kd.R_mono HO655.out (fun _ hk => hk.2)⟩, ⟨by (with_reducible repeat (first | apply Kd.R_alloc | apply Kd.R_drewN | apply Kd.R_drew)); exact Kd.R_mono HO_9.out (fun _ hk => hk.2)⟩, ⟨zaa9⟩, ⟨zaa3⟩⟩
   case round =>
    clear H'
    try clear c1; try clear p2; try clear c5; try clear c5b0; try clear c5b1; try clear c6; try clear c6b0; try clear c6b1; try clear c7; try clear c7b0; try clear c8; try clear c8b0; try clear p9; try clear q9; try clear hx9; try clear hf9; try clear c15; try clear c15b0; try clear c16; try clear c16b0; try clear c16b1; try clear c17; try clear c17b0; try clear c17b1; try clear hcz10_0; try clear hcz10_1; try clear hcz10_2; try clear hcz10_3; try clear hcz10_4; try clear hcz10_5; try clear hcz10_6; try clear hfz10_0; try clear hfz10_1; try clear hfz10_2; try clear hfz10_3; try clear hfz10_4; try clear hfz10_5
    try clear hfz10_6; try clear hx9_0; try clear p2; try clear p9; try clear q9
    obtain ⟨x10_2, x32_2, rfl, HA, HK2, HO_10, HO_30, BK0, HB⟩ := hrel
    cases gk with
    | zero => exact absurd HA.out (by simp [impl_graph_ways.l1])
    | succ k2 =>
     have H := HA.out
     clear HA
     simp only [impl_graph_ways.l1] at H
     by_cases c21 : x32_2 < (x9_1.length : Int)
     rotate_left
     ·rw [if_neg c21] at H
      have c21b0 : decide (x32_2 < (x9_1.length : Int)) = false := decide_eq_false c21
      clear c21
      have H' := Aside0.mk H
      clear H
      go_wp2
      go_roundg k2
      case measure => have := HK1.out; have := HK2.out; omega
      case rel => exact ⟨(x10_2), (wrap64 (x25_1 + 1)), zaa17, H', ⟨by have := HK1.out; have := HK2.out; omega⟩, ⟨by (with_reducible repeat (first | apply Kd.R_alloc | apply Kd.R_drewN | apply Kd.R_drew)); exact Kd.R_mono HO_10.out (fun _ hk => trivial)⟩, ⟨zaa9⟩, ⟨zaa3⟩⟩
     rw [if_pos c21] at H
     have c21b0 : decide (x32_2 < (x9_1.length : Int)) = true := decide_eq_true c21
     clear c21
     by_cases c22 : 0 ≤ x32_2
     rotate_left
     ·rw [if_neg c22] at H
      exact absurd H (by simp)
     rw [if_pos c22] at H
     have c22b0 : decide (0 ≤ x32_2) = true := decide_eq_true c22
     clear c22
     by_cases c23 : x32_2 < (x9_1.length : Int)
     rotate_left
     ·rw [if_neg c23] at H
      exact absurd H (by simp)
     rw [if_pos c23] at H
     have c23b0 : decide (x32_2 < (x9_1.length : Int)) = true := decide_eq_true c23
     clear c23
     by_cases c24 : x32_2 < (l0_6.length : Int)
     rotate_left
     ·rw [if_neg c24] at H
      exact absurd H (by simp)
     rw [if_pos c24] at H
     have c24b0 : decide (x32_2 < (l0_6.length : Int)) = true := decide_eq_true c24
     clear c24
     have H' := Aside0.mk H
     clear H
     have p656 : 0 ≤ (x32_2 : Int) := of_decide_eq_true zaa6
     have q656 : x32_2 < (x9_1.length : Int) := of_decide_eq_true zaa6
     obtain ⟨ad656, e656, hx656_0⟩ := Kd.at_int (Kd.R_reads' HO_30.out).2.2 x32_2 p656 q656
     cases e656
     replace p656 := eq_true p656
     replace q656 := eq_true q656
     have hcz25_0 : wr.cell? ⟨gb0, 0, none⟩ = some (.int .i64 a0_0) := (blk_cell BK0.out 0).trans rfl
     have hcz25_1 : wr.cell? ⟨gb0, 1, none⟩ = some (.int .i64 a0_1) := (blk_cell BK0.out 1).trans rfl
     have hcz25_2 : wr.cell? ⟨gb0, 2, none⟩ = some (.slice A0_2 l0_2.length c0_2) := (blk_cell BK0.out 2).trans rfl
     have hcz25_3 : wr.cell? ⟨gb0, 3, none⟩ = some (.int .i64 a0_3) := (blk_cell BK0.out 3).trans rfl
     have hcz25_4 : wr.cell? ⟨gb0, 4, none⟩ = some (.int .i64 a0_4) := (blk_cell BK0.out 4).trans rfl
     have hcz25_5 : wr.cell? ⟨gb0, 5, none⟩ = some (.slice A0_5 l0_5.length c0_5) := (blk_cell BK0.out 5).trans rfl
     have hcz25_6 : wr.cell? ⟨gb0, 6, none⟩ = some (.slice A0_6 l0_6.length c0_6) := (blk_cell BK0.out 6).trans rfl
     have hfz25_0 := blk_frozen BK0.out 0
     have hfz25_1 := blk_frozen BK0.out 1
     have hfz25_2 := blk_frozen BK0.out 2
     have hfz25_3 := blk_frozen BK0.out 3
     have hfz25_4 := blk_frozen BK0.out 4
     have hfz25_5 := blk_frozen BK0.out 5
     have hfz25_6 := blk_frozen BK0.out 6
     have p657 : 0 ≤ (x32_2 : Int) := of_decide_eq_true zaa6
     have q657 : x32_2 < (l0_6.length : Int) := of_decide_eq_true zaa6
     obtain ⟨ad657, A657_0, c657_0, e657, hx657_0, hl657_0, hi657_0⟩ := at_L1 HR0_6.out x32_2 p657 q657
     cases e657
     (first | replace hx657_0 := (HB.out.cell (World.block_lt_of_cell? w _ hx657_0)).trans hx657_0 | skip)
     have HR657_0 := Aside0.mk hi657_0
     have HC657_0 := Aside0.mk hl657_0
     clear hi657_0 hl657_0
     replace p657 := eq_true p657
     replace q657 := eq_true q657
     go_wp2
     go_loopg [45] k2 (fun kq v45 w' => ∃ (x10_3 : List Int) (x45_3 : Int), v45 = .int .i64 x45_3 ∧ Aside0 (impl_graph_ways.l2 kq a2 x10_3 (rd x9_1 x32_2) a3 x25_1 x9_1 (x9_1.length : Int) x32_2 (rd_L1 l0_6 x32_2) ((rd_L1 l0_6 x32_2).length : Int) x45_3 a0_0 a0_1 l0_2 a0_3 a0_4 l0_5 l0_6 = some r) ∧ Aside0 (kq ≤ k2) ∧ Aside0 (Kd.R (Kd.int .i64) 3 w' w.heap.size (fun k_ => some k_ ≠ ((.slice (some ad656) x9_1.length co18) : Value).ownBlock) v654 x10_3) ∧ Aside0 (Kd.R (Kd.int .i64) 3 w' w.heap.size (fun k_ => some k_ ≠ (v654 : Value).ownBlock) (.slice (some ad656) x9_1.length co18) x9_1) ∧ Aside0 (w'.heap[gb0]? = some (.cells #[.int .i64 a0_0, .int .i64 a0_1, (.slice A0_2 l0_2.length c0_2), .int .i64 a0_3, .int .i64 a0_4, (.slice A0_5 l0_5.length c0_5), (.slice (some ad657) l0_6.length c0_6)] 82 (0, 0))) ∧ Aside0 (Below w.heap.size w w'))
     case atStart => exact ⟨(x10_2), (0), zaa17, H', ⟨Nat.le_refl _⟩, ⟨zaa19⟩, ⟨by (with_reducible repeat (first | apply Kd.R_alloc | apply Kd.R_drewN | apply Kd.R_drew)); exact HO_30.out⟩, ⟨zaa9⟩, ⟨zaa3⟩⟩
     case round =>
      clear H'
      try clear c1; try clear c2; try clear p2; try clear c5; try clear c5b0; try clear c5b1; try clear c6; try clear c6b0; try clear c6b1; try clear p6; try clear q6; try clear hx6; try clear c7; try clear c7b0; try clear c8; try clear c8b0; try clear p9; try clear q9; try clear hx9; try clear hf9; try clear c15; try clear c15b0; try clear c16; try clear c16b0; try clear c16b1; try clear c17; try clear c17b0; try clear c17b1; try clear c21; try clear c21b0; try clear c22; try clear c22b0; try clear c23; try clear c23b0; try clear c24; try clear c24b0; try clear hcz10_0; try clear hcz10_1; try clear hcz10_2
      try clear hcz10_3; try clear hcz10_4; try clear hcz10_5; try clear hcz10_6; try clear hcz25_0; try clear hcz25_1; try clear hcz25_2; try clear hcz25_3; try clear hcz25_4; try clear hcz25_5; try clear hcz25_6; try clear hfz10_0; try clear hfz10_1; try clear hfz10_2; try clear hfz10_3; try clear hfz10_4; try clear hfz10_5; try clear hfz10_6; try clear hfz25_0; try clear hfz25_1; try clear hfz25_2; try clear hfz25_3; try clear hfz25_4; try clear hfz25_5; try clear hfz25_6; try clear hx656_0; try clear hx657_0; try clear hx9_0; try clear p2; try clear p656; try clear p657; try clear p9; try clear q656
      try clear q657; try clear q9
      obtain ⟨x10_3, x45_3, rfl, HA, HK3, HO_10, HO_30, BK0, HB⟩ := hrel
      cases gk with
      | zero => exact absurd HA.out (by simp [impl_graph_ways.l2])
      | succ k3 =>
       have H := HA.out
       clear HA
       simp only [impl_graph_ways.l2] at H
       by_cases c26 : x45_3 < ((rd_L1 l0_6 x32_2).length : Int)
       rotate_left
       ·rw [if_neg c26] at H
        have c26b0 : decide (x45_3 < ((rd_L1 l0_6 x32_2).length : Int)) = false := decide_eq_false c26
        clear c26
        have H' := Aside0.mk H
        clear H
        go_wp2
        go_roundg k3
        case measure => have := HK1.out; have := HK2.out; have := HK3.out; omega
        case rel => exact ⟨(x10_3), (wrap64 (x32_2 + 1)), zaa17, H', ⟨by have := HK1.out; have := HK2.out; have := HK3.out; omega⟩, ⟨zaa19⟩, ⟨by (with_reducible repeat (first | apply Kd.R_alloc | apply Kd.R_drewN | apply Kd.R_drew)); exact HO_30.out⟩, ⟨zaa9⟩, ⟨zaa3⟩⟩
       rw [if_pos c26] at H
       have c26b0 : decide (x45_3 < ((rd_L1 l0_6 x32_2).length : Int)) = true := decide_eq_true c26
       clear c26
       by_cases c27 : 0 ≤ x45_3
       rotate_left
       ·rw [if_neg c27] at H
        exact absurd H (by simp)
       rw [if_pos c27] at H
       have c27b0 : decide (0 ≤ x45_3) = true := decide_eq_true c27
       clear c27
       by_cases c28 : x45_3 < ((rd_L1 l0_6 x32_2).length : Int)
       rotate_left
       ·rw [if_neg c28] at H
        exact absurd H (by simp)
       rw [if_pos c28] at H
       have c28b0 : decide (x45_3 < ((rd_L1 l0_6 x32_2).length : Int)) = true := decide_eq_true c28
       clear c28
       by_cases c29 : 0 ≤ (rd (rd_L1 l0_6 x32_2) x45_3)
       rotate_left
       ·rw [if_neg c29] at H
        exact absurd H (by simp)
       rw [if_pos c29] at H
       have c29b0 : decide (0 ≤ (rd (rd_L1 l0_6 x32_2) x45_3)) = true := decide_eq_true c29
       clear c29
       by_cases c30 : (rd (rd_L1 l0_6 x32_2) x45_3) < (x10_3.length : Int)
       rotate_left
       ·rw [if_neg c30] at H
        exact absurd H (by simp)
       rw [if_pos c30] at H
       have c30b0 : decide ((rd (rd_L1 l0_6 x32_2) x45_3) < (x10_3.length : Int)) = true := decide_eq_true c30
       clear c30
       obtain ⟨y660, hy660⟩ : ∃ y_ : List Int, y_ = (x10_3.set ((rd (rd_L1 l0_6 x32_2) x45_3) : Int).toNat (wrap64 ((rd x10_3 (rd (rd_L1 l0_6 x32_2) x45_3)) + (rd x9_1 x32_2)))) := ⟨_, rfl⟩
       replace H : (impl_graph_ways.l2 k3 a2 y660 (rd x9_1 x32_2) a3 x25_1 x9_1 (x9_1.length : Int) x32_2 (rd_L1 l0_6 x32_2) ((rd_L1 l0_6 x32_2).length : Int) (wrap64 (x45_3 + 1)) a0_0 a0_1 l0_2 a0_3 a0_4 l0_5 l0_6) = some r := by first | (rw [hy660]; with_reducible exact H) | (have H2_ := (Option.bind_some _ _).symm.trans H; rw [hy660]; with_reducible exact H2_) | (have H2_ := (Option.bind_some _ _).symm.trans H; with_reducible exact H2_) | with_reducible exact H | (rw [hy660]; exact H) | exact H
       have Ny660 := Aside0.mk hy660
       clear hy660
       have H' := Aside0.mk H
       clear H
       have p658 : 0 ≤ (x45_3 : Int) := of_decide_eq_true zaa6
       have q658 : x45_3 < ((rd_L1 l0_6 x32_2).length : Int) := of_decide_eq_true zaa6
       obtain ⟨ad658, e658, hx658_0⟩ := Kd.at_int HR657_0.out x45_3 p658 q658
       cases e658
       (first | replace hx658_0 := (HB.out.cell (World.block_lt_of_cell? w _ hx658_0)).trans hx658_0 | skip)
       replace p658 := eq_true p658
       replace q658 := eq_true q658
       obtain ⟨Ao32, co32, eo32⟩ := Kd.R_slice HO_10.out
       subst eo32
       have p659 : 0 ≤ ((rd (rd_L1 l0_6 x32_2) x45_3) : Int) := of_decide_eq_true zaa6
       have q659 : (rd (rd_L1 l0_6 x32_2) x45_3) < (x10_3.length : Int) := of_decide_eq_true zaa6
       obtain ⟨ad659, e659, hx659_0⟩ := Kd.at_int (Kd.R_reads' HO_10.out).2.2 (rd (rd_L1 l0_6 x32_2) x45_3) p659 q659
       cases e659
       replace p659 := eq_true p659
       replace q659 := eq_true q659
       have p31 : 0 ≤ ((rd (rd_L1 l0_6 x32_2) x45_3) : Int) := of_decide_eq_true zaa6
       have q31 : ((rd (rd_L1 l0_6 x32_2) x45_3) : Int) < ((x10_3.length : Int) : Int) := of_decide_eq_true zaa6
       obtain ⟨go31, co31, eo31, gb31, gl31, cl31, HG31⟩ := Kd.R_form HO_10.out (by omega)
       (first | cases eo31 | (injection eo31 with ea_ en_ ec_; (first | subst ea_ | (injection ea_ with ea_; subst ea_)); subst ec_; clear en_))
       have GB31 := Aside0.mk gb31
       have GG31 := Aside0.mk HG31
       clear gb31 gl31 HG31
       (try simp only [add_plain] at *)
       (first | simp only [add_plain] at hx659_0 | skip)
       obtain ⟨hx31_0, hf31_0⟩ := Kd.R_celln 0 HO_10.out ((rd (rd_L1 l0_6 x32_2) x45_3) : Int) p31 q31
       replace p31 := eq_true p31
       replace q31 := eq_true q31
       have HP33 := Kd.R_putg HO_10.out ((rd (rd_L1 l0_6 x32_2) x45_3) : Int) (wrap64 ((rd x10_3 (rd (rd_L1 l0_6 x32_2) x45_3)) + (rd x9_1 x32_2)))
       go_wp2_with (first | ((with_reducible refine gate_store (t := 3) (p := 55) rfl ?_); refine store_event (t := 3) (p := 55) (v := ?vo_w34) (w1 := (wr.setCell ⟨go31, ((rd (rd_L1 l0_6 x32_2) x45_3) : Int).toNat, none⟩ (.int .i64 (wrap64 ((rd x10_3 (rd (rd_L1 l0_6 x32_2) x45_3)) + (rd x9_1 x32_2)))))) ?hg ?ho ?hn ?hr ?_; (case ho => rfl); (case hg => rfl); (case hn => rfl); (case hr => first | (go_simp; done) | (go_simp; rfl)); intro w34 hw; have hg : wr.grownBy w34 (some go31) := (by rw [hw]; exact HP33.2); have hp_ : Kd.R (Kd.int .i64) 3 w34 w.heap.size (fun k_ => some k_ ≠ (.slice (some ad656) x9_1.length co18 : Value).ownBlock) (.slice (some ⟨go31, 0, none⟩) x10_3.length co32) y660 := (by rw [hw, Ny660.out]; exact HP33.1); clear HP33; have n0_ := Aside0.mk (hp_); have n1_ := Aside0.mk (Kd.R_after (v := (.slice (some ⟨go31, 0, none⟩) x10_3.length co32)) (v1 := (.slice (some ⟨go31, 0, none⟩) x10_3.length co32)) (ok := (fun _ => True)) (by (with_reducible repeat (first | apply Kd.R_alloc | apply Kd.R_drewN | apply Kd.R_drew)); exact Kd.R_mono HO_30.out (fun _ hk => ⟨trivial, hk⟩)) hg (.inl rfl)); have n2_ := Aside0.mk (blk_grown (g := gb0) (o := .cells #[.int .i64 a0_0, .int .i64 a0_1, .slice A0_2 l0_2.length c0_2, .int .i64 a0_3, .int .i64 a0_4, .slice A0_5 l0_5.length c0_5, .slice (some ad657) l0_6.length c0_6] 82 (0, 0)) zaa9 hg (Kd.R_ne HO_10.out BK0.out (by decide))); have n3_ := Aside0.mk ((by rw [hw]; exact below_set (HB.out) GB31.out : Below w.heap.size w w34)); clear HO_10; clear HO_30; clear BK0; clear HB; have HO_10 := n0_; have HO_30 := n1_; have BK0 := n2_; have HB := n3_; clear n0_ n1_ n2_ n3_; clear hg hw hp_))
       go_roundg k3
       case measure => have := HK1.out; have := HK2.out; have := HK3.out; omega
       case rel => exact ⟨(y660), (wrap64 (x45_3 + 1)), zaa17, H', ⟨by have := HK1.out; have := HK2.out; have := HK3.out; omega⟩, ⟨zaa19⟩, ⟨by (with_reducible repeat (first | apply Kd.R_alloc | apply Kd.R_drewN | apply Kd.R_drew)); exact Kd.R_mono HO_30.out (fun _ hk => hk.2)⟩, ⟨zaa9⟩, ⟨zaa3⟩⟩

/-! ### impl_CountRoutes: function 31 -/
def impl_CountRoutes.f (k : Nat) (a0_0 : Int) (a0_1 : Int) (l0_2 : List Int) (a1_0 : Int) (a1_1 : Int) (a2 : Int) (a3 : Int) : Option (Int × Bool) := (impl_two.f k a0_0 a0_1 l0_2 a1_0 a1_1 a2 a3).bind fun bt663 => (if bt663.2.2 = true then ((impl_graph_far.f k a0_0 a0_1 l0_2 a1_0 a1_1 bt663.1 bt663.2.1 a2).bind fun t672 => (if 0 ≤ a3 then (if a3 < (t672.length : Int) then (if (rd t672 a3) < 0 then (some (0, true)) else ((impl_graph_ways.f k a0_0 a0_1 l0_2 a1_0 a1_1 bt663.1 bt663.2.1 a2 a3 (rd t672 a3)).bind fun t676 => (some (t676, true)))) else (none)) else (none))) else (some (0, false)))
set_option maxHeartbeats 8000000 in
set_option maxRecDepth 100000 in
theorem impl_CountRoutes.calls (k : Nat) (a0_0 : Int) (a0_1 : Int) (A0_2 : Option Addr) (c0_2 : Nat) (l0_2 : List Int) (a1_0 : Int) (a1_1 : Int) (a2 : Int) (a3 : Int) (r1 : Int) (r2 : Bool) (w : World) (hr0_2 : Kd.C (Kd.int .i64) w A0_2 l0_2.length l0_2) (hc0_2 : l0_2.length ≤ c0_2) (h : impl_CountRoutes.f k a0_0 a0_1 l0_2 a1_0 a1_1 a2 a3 = some (r1, r2)) :
  Calls Try.prog 31 #[.agg #[.int .i64 a0_0, .int .i64 a0_1, .slice A0_2 l0_2.length c0_2], .agg #[.int .i64 a1_0, .int .i64 a1_1], .int .i64 a2, .int .i64 a3] w fun e w' => e = .returned (.tuple #[.int .i64 r1, .bool r2]) ∧ Below w.heap.size w w' := by
 have hu30 := Try.underlying30
 have hu32 := Try.underlying32
 have HR0_2 := Aside0.mk hr0_2
 have HC0_2 := Aside0.mk hc0_2
 clear hr0_2 hc0_2
 have HB := Aside0.mk (Below.refl w.heap.size w)
 have H : ((impl_two.f k a0_0 a0_1 l0_2 a1_0 a1_1 a2 a3).bind fun bt663 => (if bt663.2.2 = true then ((impl_graph_far.f k a0_0 a0_1 l0_2 a1_0 a1_1 bt663.1 bt663.2.1 a2).bind fun t672 => (if 0 ≤ a3 then (if a3 < (t672.length : Int) then (if (rd t672 a3) < 0 then (some (0, true)) else ((impl_graph_ways.f k a0_0 a0_1 l0_2 a1_0 a1_1 bt663.1 bt663.2.1 a2 a3 (rd t672 a3)).bind fun t676 => (some (t676, true)))) else (none)) else (none))) else (some (0, false)))) = some (r1, r2) := h
 clear h
 replace H := Option.bind_eq_some_iff.mp H
 obtain ⟨⟨t663, t666, t671⟩, A50, H⟩ := H
 replace H : (if t671 = true then ((impl_graph_far.f k a0_0 a0_1 l0_2 a1_0 a1_1 t663 t666 a2).bind fun t672 => (if 0 ≤ a3 then (if a3 < (t672.length : Int) then (if (rd t672 a3) < 0 then (some (0, true)) else ((impl_graph_ways.f k a0_0 a0_1 l0_2 a1_0 a1_1 t663 t666 a2 a3 (rd t672 a3)).bind fun t676 => (some (t676, true)))) else (none)) else (none))) else (some (0, false))) = some (r1, r2) := H
 have A5 := Aside0.mk A50
 clear A50
 by_cases c6 : t671 = true
 rotate_left
 ·replace c6 := Bool.eq_false_iff.mpr c6
  subst c6
  have H1 : (some (0, false)) = some (r1, r2) := by rw [if_neg (show ¬ (false = true) by decide)] at H; exact H
  clear H
  have H := H1
  clear H1
  simp only [Option.some.injEq, Prod.mk.injEq] at H
  obtain ⟨rfl, rfl⟩ := H
  go_enter Try.func31, Try.ntmps31
  go_wp2_with (first | ((with_reducible refine gate_dst (N := 4) rfl ?_); refine box_event ?hg (N := 4) ?hd (cs := #[.int .i64 a0_0, .int .i64 a0_1, .slice A0_2 l0_2.length c0_2]) (t := 30) ?hr ?_; (case hd => rfl); (case hg => rfl); (case hr => first | (go_simp; done) | (go_simp; rfl)); intro gb661 hg w33 hbox hb; have n0_ := Aside0.mk (below_step zaa7 hb); have n1_ := Aside0.mk (hbox); have n2_ := Aside0.mk ((zaa22 : w.heap.size ≤ gb661)); have n3_ := Aside0.mk ((zaa22 : w.heap.size ≤ gb661)); clear HB; have HB := n0_; have BK661 := n1_; have GW661 := n2_; have GE661 := n3_; clear n0_ n1_ n2_ n3_; clear hb hbox hg) | ((with_reducible refine gate_dst (N := 5) rfl ?_); refine box_event ?hg (N := 5) ?hd (cs := #[.int .i64 a1_0, .int .i64 a1_1]) (t := 32) ?hr ?_; (case hd => rfl); (case hg => rfl); (case hr => first | (go_simp; done) | (go_simp; rfl)); intro gb662 hg w34 hbox hb; have n0_ := Aside0.mk (blk_below (g := gb661) (o := .cells #[.int .i64 a0_0, .int .i64 a0_1, .slice A0_2 l0_2.length c0_2] 30 (0, 0)) zaa2 hb); have n1_ := Aside0.mk (below_step zaa5 hb); have n2_ := Aside0.mk (hbox); have n3_ := Aside0.mk ((zaa23 : w.heap.size ≤ gb662)); have n4_ := Aside0.mk ((zaa23 : w.heap.size ≤ gb662)); have n5_ := Aside0.mk ((zaa20 : gb661 ≠ gb662)); have n6_ := Aside0.mk ((zaa21 : gb662 ≠ gb661)); clear BK661; clear HB; have BK661 := n0_; have HB := n1_; have BK662 := n2_; have GW662 := n3_; have GE662 := n4_; have NB661_662 := n5_; have NB662_661 := n6_; clear n0_ n1_ n2_ n3_ n4_ n5_ n6_; clear hb hbox hg; have hnb35 := NB661_662.out; have hnc35 := NB662_661.out; have hcz36_0 : w34.cell? ⟨gb661, 0, none⟩ = some (.int .i64 a0_0) := (blk_cell BK661.out 0).trans rfl; have hcz36_1 : w34.cell? ⟨gb661, 1, none⟩ = some (.int .i64 a0_1) := (blk_cell BK661.out 1).trans rfl; have hcz36_2 : w34.cell? ⟨gb661, 2, none⟩ = some (.slice A0_2 l0_2.length c0_2) := (blk_cell BK661.out 2).trans rfl; have hfz36_0 := blk_frozen BK661.out 0; have hfz36_1 := blk_frozen BK661.out 1; have hfz36_2 := blk_frozen BK661.out 2; have hcz37_0 : w34.cell? ⟨gb662, 0, none⟩ = some (.int .i64 a1_0) := (blk_cell BK662.out 0).trans rfl; have hcz37_1 : w34.cell? ⟨gb662, 1, none⟩ = some (.int .i64 a1_1) := (blk_cell BK662.out 1).trans rfl; have hfz37_0 := blk_frozen BK662.out 0; have hfz37_1 := blk_frozen BK662.out 1) | ((with_reducible refine gate_callee (f := 58) rfl ?_); refine goesL_ (some 18) rfl rfl Try.func58 (by kernel_rfl) rfl #[.agg #[.int .i64 a0_0, .int .i64 a0_1, .slice A0_2 l0_2.length c0_2], .agg #[.int .i64 a1_0, .int .i64 a1_1], .int .i64 a2, .int .i64 a3] rfl zaa11 ?_; (with_reducible refine (impl_two.calls k a0_0 a0_1 _ _ l0_2 a1_0 a1_1 a2 a3 t663 t666 false _ ?side1 ?side2 A5.out).mono ?_); (case side1 => exact zaa10); (case side2 => exact HC0_2.out); rintro e w38 ⟨v664, v667, pv670, rfl, hgp, ho0, ho1, hb⟩; refine ⟨_, rfl, ?_⟩; obtain rfl := hgp.2 rfl; have n0_ := Aside0.mk (Kd.R_lower ho0 (below_size zaa1)); have n1_ := Aside0.mk (Kd.S_lower ho1 (below_size zaa1)); have n2_ := Aside0.mk (blk_below (g := gb661) (o := .cells #[.int .i64 a0_0, .int .i64 a0_1, .slice A0_2 l0_2.length c0_2] 30 (0, 0)) zaa2 hb); have n3_ := Aside0.mk (blk_below (g := gb662) (o := .cells #[.int .i64 a1_0, .int .i64 a1_1] 32 (0, 0)) zaa8 hb); have n4_ := Aside0.mk (below_step zaa1 hb); clear BK661; clear BK662; clear HB; have HO665 := n0_; have HO668 := n1_; have BK661 := n2_; have BK662 := n3_; have HB := n4_; clear n0_ n1_ n2_ n3_ n4_; (try clear hb); (try clear hb2); (try clear hk); (try clear hi); (try clear ho0); (try clear ho1); (try clear hgp); (try clear hbox); (try clear hge); (try clear hna_); (try clear hnb_)))
  go_ret2
  exact ⟨zaa16, zaa1⟩
 subst c6
 have H1 : ((impl_graph_far.f k a0_0 a0_1 l0_2 a1_0 a1_1 t663 t666 a2).bind fun t672 => (if 0 ≤ a3 then (if a3 < (t672.length : Int) then (if (rd t672 a3) < 0 then (some (0, true)) else ((impl_graph_ways.f k a0_0 a0_1 l0_2 a1_0 a1_1 t663 t666 a2 a3 (rd t672 a3)).bind fun t676 => (some (t676, true)))) else (none)) else (none))) = some (r1, r2) := by rw [if_pos rfl] at H; exact H
 clear H
 have H := H1
 clear H1
 replace H := Option.bind_eq_some_iff.mp H
 obtain ⟨t672, A70, H⟩ := H
 replace H : (if 0 ≤ a3 then (if a3 < (t672.length : Int) then (if (rd t672 a3) < 0 then (some (0, true)) else ((impl_graph_ways.f k a0_0 a0_1 l0_2 a1_0 a1_1 t663 t666 a2 a3 (rd t672 a3)).bind fun t676 => (some (t676, true)))) else (none)) else (none)) = some (r1, r2) := H
 have A7 := Aside0.mk A70
 clear A70
 by_cases c8 : 0 ≤ a3
 rotate_left
 ·rw [if_neg c8] at H
  exact absurd H (by simp)
 rw [if_pos c8] at H
 have c8b0 : decide (0 ≤ a3) = true := decide_eq_true c8
 clear c8
 by_cases c9 : a3 < (t672.length : Int)
 rotate_left
 ·rw [if_neg c9] at H
  exact absurd H (by simp)
 rw [if_pos c9] at H
 have c9b0 : decide (a3 < (t672.length : Int)) = true := decide_eq_true c9
 clear c9
 by_cases c10 : (rd t672 a3) < 0
 ·rw [if_pos c10] at H
  have c10b0 : decide ((rd t672 a3) < 0) = true := decide_eq_true c10
  clear c10
  simp only [Option.some.injEq, Prod.mk.injEq] at H
  obtain ⟨rfl, rfl⟩ := H
  go_enter Try.func31, Try.ntmps31
  go_wp2_with (first | ((with_reducible refine gate_dst (N := 4) rfl ?_); refine box_event ?hg (N := 4) ?hd (cs := #[.int .i64 a0_0, .int .i64 a0_1, .slice A0_2 l0_2.length c0_2]) (t := 30) ?hr ?_; (case hd => rfl); (case hg => rfl); (case hr => first | (go_simp; done) | (go_simp; rfl)); intro gb661 hg w11 hbox hb; have n0_ := Aside0.mk (below_step zaa7 hb); have n1_ := Aside0.mk (hbox); have n2_ := Aside0.mk ((zaa22 : w.heap.size ≤ gb661)); have n3_ := Aside0.mk ((zaa22 : w.heap.size ≤ gb661)); clear HB; have HB := n0_; have BK661 := n1_; have GW661 := n2_; have GE661 := n3_; clear n0_ n1_ n2_ n3_; clear hb hbox hg) | ((with_reducible refine gate_dst (N := 5) rfl ?_); refine box_event ?hg (N := 5) ?hd (cs := #[.int .i64 a1_0, .int .i64 a1_1]) (t := 32) ?hr ?_; (case hd => rfl); (case hg => rfl); (case hr => first | (go_simp; done) | (go_simp; rfl)); intro gb662 hg w12 hbox hb; have n0_ := Aside0.mk (blk_below (g := gb661) (o := .cells #[.int .i64 a0_0, .int .i64 a0_1, .slice A0_2 l0_2.length c0_2] 30 (0, 0)) zaa2 hb); have n1_ := Aside0.mk (below_step zaa5 hb); have n2_ := Aside0.mk (hbox); have n3_ := Aside0.mk ((zaa23 : w.heap.size ≤ gb662)); have n4_ := Aside0.mk ((zaa23 : w.heap.size ≤ gb662)); have n5_ := Aside0.mk ((zaa20 : gb661 ≠ gb662)); have n6_ := Aside0.mk ((zaa21 : gb662 ≠ gb661)); clear BK661; clear HB; have BK661 := n0_; have HB := n1_; have BK662 := n2_; have GW662 := n3_; have GE662 := n4_; have NB661_662 := n5_; have NB662_661 := n6_; clear n0_ n1_ n2_ n3_ n4_ n5_ n6_; clear hb hbox hg; have hnb13 := NB661_662.out; have hnc13 := NB662_661.out; have hcz14_0 : w12.cell? ⟨gb661, 0, none⟩ = some (.int .i64 a0_0) := (blk_cell BK661.out 0).trans rfl; have hcz14_1 : w12.cell? ⟨gb661, 1, none⟩ = some (.int .i64 a0_1) := (blk_cell BK661.out 1).trans rfl; have hcz14_2 : w12.cell? ⟨gb661, 2, none⟩ = some (.slice A0_2 l0_2.length c0_2) := (blk_cell BK661.out 2).trans rfl; have hfz14_0 := blk_frozen BK661.out 0; have hfz14_1 := blk_frozen BK661.out 1; have hfz14_2 := blk_frozen BK661.out 2; have hcz15_0 : w12.cell? ⟨gb662, 0, none⟩ = some (.int .i64 a1_0) := (blk_cell BK662.out 0).trans rfl; have hcz15_1 : w12.cell? ⟨gb662, 1, none⟩ = some (.int .i64 a1_1) := (blk_cell BK662.out 1).trans rfl; have hfz15_0 := blk_frozen BK662.out 0; have hfz15_1 := blk_frozen BK662.out 1) | ((with_reducible refine gate_callee (f := 58) rfl ?_); refine goesL_ (some 18) rfl rfl Try.func58 (by kernel_rfl) rfl #[.agg #[.int .i64 a0_0, .int .i64 a0_1, .slice A0_2 l0_2.length c0_2], .agg #[.int .i64 a1_0, .int .i64 a1_1], .int .i64 a2, .int .i64 a3] rfl zaa11 ?_; (with_reducible refine (impl_two.calls k a0_0 a0_1 _ _ l0_2 a1_0 a1_1 a2 a3 t663 t666 true _ ?side1 ?side2 A5.out).mono ?_); (case side1 => exact zaa10); (case side2 => exact HC0_2.out); rintro e w16 ⟨v664, v667, pv670, rfl, hgp, ho0, ho1, hb⟩; refine ⟨_, rfl, ?_⟩; obtain ⟨gb669, rfl, hbox, hge⟩ := hgp.1 rfl; have n0_ := Aside0.mk (Kd.R_lower ho0 (below_size zaa1)); have n1_ := Aside0.mk (Kd.S_lower ho1 (below_size zaa1)); have n2_ := Aside0.mk (blk_below (g := gb661) (o := .cells #[.int .i64 a0_0, .int .i64 a0_1, .slice A0_2 l0_2.length c0_2] 30 (0, 0)) zaa2 hb); have n3_ := Aside0.mk (blk_below (g := gb662) (o := .cells #[.int .i64 a1_0, .int .i64 a1_1] 32 (0, 0)) zaa8 hb); have n4_ := Aside0.mk (hbox); have n5_ := Aside0.mk ((Nat.le_trans (by exact (below_size zaa1)) hge : w.heap.size ≤ gb669)); have n6_ := Aside0.mk ((Nat.le_trans (by exact (below_size zaa1)) hge : w.heap.size ≤ gb669)); have n7_ := Aside0.mk ((Nat.ne_of_lt (Nat.lt_of_lt_of_le (blk_lt (g := gb661) (o := .cells #[.int .i64 a0_0, .int .i64 a0_1, .slice A0_2 l0_2.length c0_2] 30 (0, 0)) zaa2) hge) : gb661 ≠ gb669)); have n8_ := Aside0.mk ((Nat.ne_of_gt (Nat.lt_of_lt_of_le (blk_lt (g := gb661) (o := .cells #[.int .i64 a0_0, .int .i64 a0_1, .slice A0_2 l0_2.length c0_2] 30 (0, 0)) zaa2) hge) : gb669 ≠ gb661)); have n9_ := Aside0.mk ((Nat.ne_of_lt (Nat.lt_of_lt_of_le (blk_lt (g := gb662) (o := .cells #[.int .i64 a1_0, .int .i64 a1_1] 32 (0, 0)) zaa8) hge) : gb662 ≠ gb669)); have n10_ := Aside0.mk ((Nat.ne_of_gt (Nat.lt_of_lt_of_le (blk_lt (g := gb662) (o := .cells #[.int .i64 a1_0, .int .i64 a1_1] 32 (0, 0)) zaa8) hge) : gb669 ≠ gb662)); have n11_ := Aside0.mk (below_step zaa1 hb); clear BK661; clear BK662; clear HB; have HO665 := n0_; have HO668 := n1_; have BK661 := n2_; have BK662 := n3_; have BK669 := n4_; have GW669 := n5_; have GE669 := n6_; have NB661_669 := n7_; have NB669_661 := n8_; have NB662_669 := n9_; have NB669_662 := n10_; have HB := n11_; clear n0_ n1_ n2_ n3_ n4_ n5_ n6_ n7_ n8_ n9_ n10_ n11_; (try clear hb); (try clear hb2); (try clear hk); (try clear hi); (try clear ho0); (try clear ho1); (try clear hgp); (try clear hbox); (try clear hge); (try clear hna_); (try clear hnb_); obtain ⟨Ao17, co17, eo17⟩ := Kd.R_slice HO665.out; subst eo17; obtain ⟨Ao18, co18, eo18⟩ := Kd.S_slice HO668.out; subst eo18) | ((with_reducible refine gate_callee (f := 66) rfl ?_); refine goesL_ (some 25) rfl rfl Try.func66 (by kernel_rfl) rfl #[.pointer (some ⟨gb669, 0, none⟩), .int .i64 a2] rfl zaa11 ?_; (with_reducible refine (impl_graph_far.calls k gb669 a0_0 a0_1 A0_2 c0_2 l0_2 a1_0 a1_1 Ao17 co17 t663 Ao18 co18 t666 a2 t672 _ ?side1 ?side2 ?side3 ?side4 ?side5 ?side6 ?side7 A7.out).mono ?_); (case side1 => exact zaa12); (case side2 => exact zaa10); (case side3 => exact HC0_2.out); (case side4 => exact zaa15); (case side5 => exact (Kd.R_reads' HO665.out).2.1); (case side6 => exact zaa14); (case side7 => exact (Kd.S_reads' HO668.out).2.1); rintro e w19 ⟨v673, rfl, ho0, hb⟩; refine ⟨_, rfl, ?_⟩; have n0_ := Aside0.mk (Kd.R_elder' zaa13 (Kd.R_base ho0) hb); have n1_ := Aside0.mk (Kd.S_elder' zaa18 (Kd.R_base ho0) hb); have n2_ := Aside0.mk (Kd.R_lower (Kd.R_new' ho0 (Kd.R_lt zaa13)) (below_size zaa4)); have n3_ := Aside0.mk (blk_below (g := gb661) (o := .cells #[.int .i64 a0_0, .int .i64 a0_1, .slice A0_2 l0_2.length c0_2] 30 (0, 0)) zaa2 hb); have n4_ := Aside0.mk (blk_below (g := gb662) (o := .cells #[.int .i64 a1_0, .int .i64 a1_1] 32 (0, 0)) zaa8 hb); have n5_ := Aside0.mk (blk_below (g := gb669) (o := .cells #[.int .i64 a0_0, .int .i64 a0_1, .slice A0_2 l0_2.length c0_2, .int .i64 a1_0, .int .i64 a1_1, .slice Ao17 t663.length co17, .slice Ao18 t666.length co18] 82 (0, 0)) zaa12 hb); have n6_ := Aside0.mk (below_step zaa4 hb); clear HO665; clear HO668; clear BK661; clear BK662; clear BK669; clear HB; have HO665 := n0_; have HO668 := n1_; have HO674 := n2_; have BK661 := n3_; have BK662 := n4_; have BK669 := n5_; have HB := n6_; clear n0_ n1_ n2_ n3_ n4_ n5_ n6_; (try clear hb); (try clear hb2); (try clear hk); (try clear hi); (try clear ho0); (try clear hna_); (try clear hnb_); obtain ⟨Ao20, co20, eo20⟩ := Kd.R_slice HO674.out; subst eo20; have p675 : 0 ≤ (a3 : Int) := of_decide_eq_true zaa6; have q675 : a3 < (t672.length : Int) := of_decide_eq_true zaa6; obtain ⟨ad675, e675, hx675_0⟩ := Kd.at_int (Kd.R_reads' HO674.out).2.2 a3 p675 q675; cases e675; replace p675 := eq_true p675; replace q675 := eq_true q675))
  go_ret2
  exact ⟨zaa16, zaa4⟩
 rw [if_neg c10] at H
 have c10b0 : decide ((rd t672 a3) < 0) = false := decide_eq_false c10
 clear c10
 replace H := Option.bind_eq_some_iff.mp H
 obtain ⟨t676, A210, H⟩ := H
 replace H : (some (t676, true)) = some (r1, r2) := H
 have A21 := Aside0.mk A210
 clear A210
 simp only [Option.some.injEq, Prod.mk.injEq] at H
 obtain ⟨rfl, rfl⟩ := H
 go_enter Try.func31, Try.ntmps31
 go_wp2_with (first | ((with_reducible refine gate_dst (N := 4) rfl ?_); refine box_event ?hg (N := 4) ?hd (cs := #[.int .i64 a0_0, .int .i64 a0_1, .slice A0_2 l0_2.length c0_2]) (t := 30) ?hr ?_; (case hd => rfl); (case hg => rfl); (case hr => first | (go_simp; done) | (go_simp; rfl)); intro gb661 hg w22 hbox hb; have n0_ := Aside0.mk (below_step zaa7 hb); have n1_ := Aside0.mk (hbox); have n2_ := Aside0.mk ((zaa22 : w.heap.size ≤ gb661)); have n3_ := Aside0.mk ((zaa22 : w.heap.size ≤ gb661)); clear HB; have HB := n0_; have BK661 := n1_; have GW661 := n2_; have GE661 := n3_; clear n0_ n1_ n2_ n3_; clear hb hbox hg) | ((with_reducible refine gate_dst (N := 5) rfl ?_); refine box_event ?hg (N := 5) ?hd (cs := #[.int .i64 a1_0, .int .i64 a1_1]) (t := 32) ?hr ?_; (case hd => rfl); (case hg => rfl); (case hr => first | (go_simp; done) | (go_simp; rfl)); intro gb662 hg w23 hbox hb; have n0_ := Aside0.mk (blk_below (g := gb661) (o := .cells #[.int .i64 a0_0, .int .i64 a0_1, .slice A0_2 l0_2.length c0_2] 30 (0, 0)) zaa2 hb); have n1_ := Aside0.mk (below_step zaa5 hb); have n2_ := Aside0.mk (hbox); have n3_ := Aside0.mk ((zaa23 : w.heap.size ≤ gb662)); have n4_ := Aside0.mk ((zaa23 : w.heap.size ≤ gb662)); have n5_ := Aside0.mk ((zaa20 : gb661 ≠ gb662)); have n6_ := Aside0.mk ((zaa21 : gb662 ≠ gb661)); clear BK661; clear HB; have BK661 := n0_; have HB := n1_; have BK662 := n2_; have GW662 := n3_; have GE662 := n4_; have NB661_662 := n5_; have NB662_661 := n6_; clear n0_ n1_ n2_ n3_ n4_ n5_ n6_; clear hb hbox hg; have hnb24 := NB661_662.out; have hnc24 := NB662_661.out; have hcz25_0 : w23.cell? ⟨gb661, 0, none⟩ = some (.int .i64 a0_0) := (blk_cell BK661.out 0).trans rfl; have hcz25_1 : w23.cell? ⟨gb661, 1, none⟩ = some (.int .i64 a0_1) := (blk_cell BK661.out 1).trans rfl; have hcz25_2 : w23.cell? ⟨gb661, 2, none⟩ = some (.slice A0_2 l0_2.length c0_2) := (blk_cell BK661.out 2).trans rfl; have hfz25_0 := blk_frozen BK661.out 0; have hfz25_1 := blk_frozen BK661.out 1; have hfz25_2 := blk_frozen BK661.out 2; have hcz26_0 : w23.cell? ⟨gb662, 0, none⟩ = some (.int .i64 a1_0) := (blk_cell BK662.out 0).trans rfl; have hcz26_1 : w23.cell? ⟨gb662, 1, none⟩ = some (.int .i64 a1_1) := (blk_cell BK662.out 1).trans rfl; have hfz26_0 := blk_frozen BK662.out 0; have hfz26_1 := blk_frozen BK662.out 1) | ((with_reducible refine gate_callee (f := 58) rfl ?_); refine goesL_ (some 18) rfl rfl Try.func58 (by kernel_rfl) rfl #[.agg #[.int .i64 a0_0, .int .i64 a0_1, .slice A0_2 l0_2.length c0_2], .agg #[.int .i64 a1_0, .int .i64 a1_1], .int .i64 a2, .int .i64 a3] rfl zaa11 ?_; (with_reducible refine (impl_two.calls k a0_0 a0_1 _ _ l0_2 a1_0 a1_1 a2 a3 t663 t666 true _ ?side1 ?side2 A5.out).mono ?_); (case side1 => exact zaa10); (case side2 => exact HC0_2.out); rintro e w27 ⟨v664, v667, pv670, rfl, hgp, ho0, ho1, hb⟩; refine ⟨_, rfl, ?_⟩; obtain ⟨gb669, rfl, hbox, hge⟩ := hgp.1 rfl; have n0_ := Aside0.mk (Kd.R_lower ho0 (below_size zaa1)); have n1_ := Aside0.mk (Kd.S_lower ho1 (below_size zaa1)); have n2_ := Aside0.mk (blk_below (g := gb661) (o := .cells #[.int .i64 a0_0, .int .i64 a0_1, .slice A0_2 l0_2.length c0_2] 30 (0, 0)) zaa2 hb); have n3_ := Aside0.mk (blk_below (g := gb662) (o := .cells #[.int .i64 a1_0, .int .i64 a1_1] 32 (0, 0)) zaa8 hb); have n4_ := Aside0.mk (hbox); have n5_ := Aside0.mk ((Nat.le_trans (by exact (below_size zaa1)) hge : w.heap.size ≤ gb669)); have n6_ := Aside0.mk ((Nat.le_trans (by exact (below_size zaa1)) hge : w.heap.size ≤ gb669)); have n7_ := Aside0.mk ((Nat.ne_of_lt (Nat.lt_of_lt_of_le (blk_lt (g := gb661) (o := .cells #[.int .i64 a0_0, .int .i64 a0_1, .slice A0_2 l0_2.length c0_2] 30 (0, 0)) zaa2) hge) : gb661 ≠ gb669)); have n8_ := Aside0.mk ((Nat.ne_of_gt (Nat.lt_of_lt_of_le (blk_lt (g := gb661) (o := .cells #[.int .i64 a0_0, .int .i64 a0_1, .slice A0_2 l0_2.length c0_2] 30 (0, 0)) zaa2) hge) : gb669 ≠ gb661)); have n9_ := Aside0.mk ((Nat.ne_of_lt (Nat.lt_of_lt_of_le (blk_lt (g := gb662) (o := .cells #[.int .i64 a1_0, .int .i64 a1_1] 32 (0, 0)) zaa8) hge) : gb662 ≠ gb669)); have n10_ := Aside0.mk ((Nat.ne_of_gt (Nat.lt_of_lt_of_le (blk_lt (g := gb662) (o := .cells #[.int .i64 a1_0, .int .i64 a1_1] 32 (0, 0)) zaa8) hge) : gb669 ≠ gb662)); have n11_ := Aside0.mk (below_step zaa1 hb); clear BK661; clear BK662; clear HB; have HO665 := n0_; have HO668 := n1_; have BK661 := n2_; have BK662 := n3_; have BK669 := n4_; have GW669 := n5_; have GE669 := n6_; have NB661_669 := n7_; have NB669_661 := n8_; have NB662_669 := n9_; have NB669_662 := n10_; have HB := n11_; clear n0_ n1_ n2_ n3_ n4_ n5_ n6_ n7_ n8_ n9_ n10_ n11_; (try clear hb); (try clear hb2); (try clear hk); (try clear hi); (try clear ho0); (try clear ho1); (try clear hgp); (try clear hbox); (try clear hge); (try clear hna_); (try clear hnb_); obtain ⟨Ao28, co28, eo28⟩ := Kd.R_slice HO665.out; subst eo28; obtain ⟨Ao29, co29, eo29⟩ := Kd.S_slice HO668.out; subst eo29) | ((with_reducible refine gate_callee (f := 66) rfl ?_); refine goesL_ (some 25) rfl rfl Try.func66 (by kernel_rfl) rfl #[.pointer (some ⟨gb669, 0, none⟩), .int .i64 a2] rfl zaa11 ?_; (with_reducible refine (impl_graph_far.calls k gb669 a0_0 a0_1 A0_2 c0_2 l0_2 a1_0 a1_1 Ao28 co28 t663 Ao29 co29 t666 a2 t672 _ ?side1 ?side2 ?side3 ?side4 ?side5 ?side6 ?side7 A7.out).mono ?_); (case side1 => exact zaa12); (case side2 => exact zaa10); (case side3 => exact HC0_2.out); (case side4 => exact zaa15); (case side5 => exact (Kd.R_reads' HO665.out).2.1); (case side6 => exact zaa14); (case side7 => exact (Kd.S_reads' HO668.out).2.1); rintro e w30 ⟨v673, rfl, ho0, hb⟩; refine ⟨_, rfl, ?_⟩; have n0_ := Aside0.mk (Kd.R_elder' zaa13 (Kd.R_base ho0) hb); have n1_ := Aside0.mk (Kd.S_elder' zaa18 (Kd.R_base ho0) hb); have n2_ := Aside0.mk (Kd.R_lower (Kd.R_new' ho0 (Kd.R_lt zaa13)) (below_size zaa4)); have n3_ := Aside0.mk (blk_below (g := gb661) (o := .cells #[.int .i64 a0_0, .int .i64 a0_1, .slice A0_2 l0_2.length c0_2] 30 (0, 0)) zaa2 hb); have n4_ := Aside0.mk (blk_below (g := gb662) (o := .cells #[.int .i64 a1_0, .int .i64 a1_1] 32 (0, 0)) zaa8 hb); have n5_ := Aside0.mk (blk_below (g := gb669) (o := .cells #[.int .i64 a0_0, .int .i64 a0_1, .slice A0_2 l0_2.length c0_2, .int .i64 a1_0, .int .i64 a1_1, .slice Ao28 t663.length co28, .slice Ao29 t666.length co29] 82 (0, 0)) zaa12 hb); have n6_ := Aside0.mk (below_step zaa4 hb); clear HO665; clear HO668; clear BK661; clear BK662; clear BK669; clear HB; have HO665 := n0_; have HO668 := n1_; have HO674 := n2_; have BK661 := n3_; have BK662 := n4_; have BK669 := n5_; have HB := n6_; clear n0_ n1_ n2_ n3_ n4_ n5_ n6_; (try clear hb); (try clear hb2); (try clear hk); (try clear hi); (try clear ho0); (try clear hna_); (try clear hnb_); obtain ⟨Ao31, co31, eo31⟩ := Kd.R_slice HO674.out; subst eo31; have p675 : 0 ≤ (a3 : Int) := of_decide_eq_true zaa6; have q675 : a3 < (t672.length : Int) := of_decide_eq_true zaa6; obtain ⟨ad675, e675, hx675_0⟩ := Kd.at_int (Kd.R_reads' HO674.out).2.2 a3 p675 q675; cases e675; replace p675 := eq_true p675; replace q675 := eq_true q675) | ((with_reducible refine gate_callee (f := 67) rfl ?_); refine goesL_ (some 35) rfl rfl Try.func67 (by kernel_rfl) rfl #[.pointer (some ⟨gb669, 0, none⟩), .int .i64 a2, .int .i64 a3, .int .i64 (rd t672 a3)] rfl zaa11 ?_; (with_reducible refine (impl_graph_ways.calls k gb669 a0_0 a0_1 A0_2 c0_2 l0_2 a1_0 a1_1 Ao28 co28 t663 Ao29 co29 t666 a2 a3 (rd t672 a3) t676 _ ?side1 ?side2 ?side3 ?side4 ?side5 ?side6 ?side7 A21.out).mono ?_); (case side1 => exact zaa12); (case side2 => exact zaa10); (case side3 => exact HC0_2.out); (case side4 => exact zaa15); (case side5 => exact (Kd.R_reads' HO665.out).2.1); (case side6 => exact zaa14); (case side7 => exact (Kd.S_reads' HO668.out).2.1); rintro e w32 ⟨rfl, hb⟩; refine ⟨_, rfl, ?_⟩; have n0_ := Aside0.mk (Kd.R_below zaa13 hb); have n1_ := Aside0.mk (Kd.S_below zaa18 hb); have n2_ := Aside0.mk (Kd.R_below (by (with_reducible repeat (first | apply Kd.R_alloc | apply Kd.R_drewN | apply Kd.R_drew)); exact HO674.out) hb); have n3_ := Aside0.mk (blk_below (g := gb661) (o := .cells #[.int .i64 a0_0, .int .i64 a0_1, .slice A0_2 l0_2.length c0_2] 30 (0, 0)) zaa2 hb); have n4_ := Aside0.mk (blk_below (g := gb662) (o := .cells #[.int .i64 a1_0, .int .i64 a1_1] 32 (0, 0)) zaa8 hb); have n5_ := Aside0.mk (blk_below (g := gb669) (o := .cells #[.int .i64 a0_0, .int .i64 a0_1, .slice A0_2 l0_2.length c0_2, .int .i64 a1_0, .int .i64 a1_1, .slice Ao28 t663.length co28, .slice Ao29 t666.length co29] 82 (0, 0)) zaa12 hb); have n6_ := Aside0.mk (below_step zaa4 hb); clear HO665; clear HO668; clear HO674; clear BK661; clear BK662; clear BK669; clear HB; have HO665 := n0_; have HO668 := n1_; have HO674 := n2_; have BK661 := n3_; have BK662 := n4_; have BK669 := n5_; have HB := n6_; clear n0_ n1_ n2_ n3_ n4_ n5_ n6_; (try clear hb); (try clear hb2); (try clear hk); (try clear hi); (try clear hna_); (try clear hnb_)))
 go_ret2
 exact ⟨zaa16, zaa4⟩

end Go.Proofs.Ytjeongckkfkehaa.Q

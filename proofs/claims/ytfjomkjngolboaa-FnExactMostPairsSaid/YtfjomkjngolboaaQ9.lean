/- Written by a program of this session: functions of the translation as plain Lean functions, each with a proof that the call does what the plain function says; the conditions stand in each theorem. -/
import Derived.Test.YtfjomkjngolboaaQ0
import Derived.Test.YtfjomkjngolboaaQ5
import Derived.Test.YtfjomkjngolboaaQ6
namespace Go.Proofs.Ytfjomkjngolboaa.Q
open Go.RowKit Go.Proofs.YtfjomkjngolboaaW.PrintWords Go.Proofs.YtfjomkjngolboaaW.PrintLast Go.Proofs.YtfjomkjngolboaaW.PrintMore
attribute [local go_sem] max2_int min2_int max_two min_two max_three min_three max_four min_four   -- for this text's walks alone
set_option linter.unusedVariables false
set_option linter.unusedSimpArgs false

theorem zj1 {p : Prop} (h : p := by repeat (first | (with_reducible first | exact HB.out | apply below_alloc | apply pw_below_drewN | apply below_drew1 | refine below_set ?_ GE0.out) | exact HB.out)) : p := h
theorem zj2 {p : Prop} (h : p := by repeat (first | (with_reducible first | exact HK.out | apply Kept.alloc | apply Kept.drewN | apply Kept.drew | refine Kept.setCell ?_ (.inr GW0.out) _) | exact HK.out)) : p := h
theorem zj3 {p : Prop} (h : p := by first | (with_reducible assumption) | assumption) : p := h
theorem zj4 {p : Prop} (h : p := by first | exact BK0.out | ((with_reducible repeat (first | refine blk_drewN ?_ _ | refine blk_drew ?_ | refine blk_alloc ?_ _)); exact BK0.out)) : p := h
theorem zj5 {p : Prop} (h : p := by first | exact HO_3.out | ((with_reducible repeat (first | apply Kd.R_alloc | apply Kd.R_drewN | apply Kd.R_drew)); exact HO_3.out)) : p := h
theorem zj6 {p : Prop} (h : p := by first | exact HO_2.out | ((with_reducible repeat (first | apply Kd.R_alloc | apply Kd.R_drewN | apply Kd.R_drew)); exact HO_2.out)) : p := h
theorem zj7 {p : Prop} (h : p := by first | rfl | (simp; done) | (simp [*]; done)) : p := h
theorem zj8 {p : Prop} (h : p := by (try simp only [hl3_1]); (try simp only [hl3_2]); (try simp only [hl3_3]); first | exact BK0.out | ((with_reducible repeat (first | refine blk_drewN ?_ _ | refine blk_drew ?_ | refine blk_alloc ?_ _)); exact BK0.out)) : p := h
theorem zj9 {p : Prop} (h : p := by first | rfl | (simp [errW_none, errW_some] <;> rfl) | (simp [*, errW_none, errW_some] <;> rfl)) : p := h
theorem zj10 {p : Prop} (h : p := by first | exact HR288_0.out | (repeat (first | (with_reducible exact HR288_0.out) | (with_reducible refine Kd.C_alloc ?_ _) | (with_reducible refine Kd.C_drewN ?_ _) | (with_reducible refine Kd.C_drew ?_) | exact HR288_0.out))) : p := h
theorem zj11 {p : Prop} (h : p := by (try simp only [hl3_1]); (try simp only [hl3_2]); (try simp only [hl3_3]); first | exact HO_3.out | ((with_reducible repeat (first | apply Kd.R_alloc | apply Kd.R_drewN | apply Kd.R_drew)); exact HO_3.out)) : p := h
theorem zj12 {p : Prop} (h : p := by repeat (first | exact (Kd.C_below HR0_6.out HB.out) | (with_reducible refine Kd.C_alloc ?_ _) | (with_reducible refine Kd.C_drewN ?_ _) | (with_reducible refine Kd.C_drew ?_))) : p := h
theorem zj13 {p : Prop} (h : p := by repeat (first | exact (Kd.C_below HR0_5.out HB.out) | (with_reducible refine Kd.C_alloc ?_ _) | (with_reducible refine Kd.C_drewN ?_ _) | (with_reducible refine Kd.C_drew ?_))) : p := h
theorem zj14 {p : Prop} (h : p := by repeat (first | exact (Kd.C_below HR0_2.out HB.out) | (with_reducible refine Kd.C_alloc ?_ _) | (with_reducible refine Kd.C_drewN ?_ _) | (with_reducible refine Kd.C_drew ?_))) : p := h
theorem zj15 {p : Prop} (h : p := by (try simp only [hl3_1]); first | exact BK0.out | ((with_reducible repeat (first | refine blk_drewN ?_ _ | refine blk_drew ?_ | refine blk_alloc ?_ _)); exact BK0.out)) : p := h
theorem zj16 {p : Prop} (h : p := by (try simp only [List.map_toArray, List.map_cons, List.map_nil]); first | done | rfl | (simp only [List.length_drop, List.length_take]; rfl)) : p := h
theorem zj17 {p : Prop} (h : p := by (try simp only [hl3_1]); first | exact HO_3.out | ((with_reducible repeat (first | apply Kd.R_alloc | apply Kd.R_drewN | apply Kd.R_drew)); exact HO_3.out)) : p := h
/-! ### impl_graph_sides: function 23 -/
mutual
def impl_graph_sides.l0 : Nat → List Int → Int → Int → Int → Int → List Int → Int → Int → List Int → List (List Int) → Option (List Int)
 | 0, _, _, _, _, _, _, _, _, _, _ => none
 | k + 1, x3, x16, x17, x1000, x1001, x1002, x1003, x1004, x1005, x1006 => if x17 < x16 then (if 0 ≤ x17 then (if x17 < (x3.length : Int) then (impl_graph_sides.l0 k (x3.set (x17 : Int).toNat (-1)) x16 (wrap64 (x17 + 1)) x1000 x1001 x1002 x1003 x1004 x1005 x1006) else (none)) else (none)) else ((impl_graph_parts.f k x1000 x1001 x1002 x1003 x1004 x1005 x1006).bind fun t285 => (impl_graph_sides.l1 k x3 t285 (t285.length : Int) 0 x1000 x1001 x1002 x1003 x1004 x1005 x1006))
def impl_graph_sides.l1 : Nat → List Int → List (List Int) → Int → Int → Int → Int → List Int → Int → Int → List Int → List (List Int) → Option (List Int)
 | 0, _, _, _, _, _, _, _, _, _, _, _ => none
 | k + 1, x3, x25, x26, x27, x1000, x1001, x1002, x1003, x1004, x1005, x1006 => if x27 < x26 then (if 0 ≤ x27 then (if x27 < (x25.length : Int) then (if 0 < ((rd_L1 x25 x27).length : Int) then ((impl_graph_far.f k x1000 x1001 x1002 x1003 x1004 x1005 x1006 (rd (rd_L1 x25 x27) 0)).bind fun t290 => (impl_graph_sides.l2 k x3 x25 x26 x27 t290 (t290.length : Int) 0 x1000 x1001 x1002 x1003 x1004 x1005 x1006)) else (none)) else (none)) else (none)) else (some x3)
def impl_graph_sides.l2 : Nat → List Int → List (List Int) → Int → Int → List Int → Int → Int → Int → Int → List Int → Int → Int → List Int → List (List Int) → Option (List Int)
 | 0, _, _, _, _, _, _, _, _, _, _, _, _, _, _ => none
 | k + 1, x3, x25, x26, x27, x35, x36, x37, x1000, x1001, x1002, x1003, x1004, x1005, x1006 => if x37 < x36 then (if 0 ≤ x37 then (if x37 < (x35.length : Int) then (if (rd x35 x37) ≥ 0 then (if x37 < (x3.length : Int) then (impl_graph_sides.l2 k (x3.set (x37 : Int).toNat (Int.tmod (rd x35 x37) 2)) x25 x26 x27 x35 x36 (wrap64 (x37 + 1)) x1000 x1001 x1002 x1003 x1004 x1005 x1006) else (none)) else (impl_graph_sides.l2 k x3 x25 x26 x27 x35 x36 (wrap64 (x37 + 1)) x1000 x1001 x1002 x1003 x1004 x1005 x1006)) else (none)) else (none)) else (impl_graph_sides.l1 k x3 x25 x26 (wrap64 (x27 + 1)) x1000 x1001 x1002 x1003 x1004 x1005 x1006)
end
def impl_graph_sides.f (k : Nat) (a0_0 : Int) (a0_1 : Int) (l0_2 : List Int) (a0_3 : Int) (a0_4 : Int) (l0_5 : List Int) (l0_6 : List (List Int)) : Option (List Int) := if 0 ≤ (l0_6.length : Int) then (if ((l0_6.length : Int) : Int).toNat ≤ 35184372088832 then ((some (List.replicate ((l0_6.length : Int) : Int).toNat 0 : List Int)).bind fun y281 => (impl_graph_sides.l0 k y281 (y281.length : Int) 0 a0_0 a0_1 l0_2 a0_3 a0_4 l0_5 l0_6)) else (none)) else (none)
set_option maxHeartbeats 8000000 in
set_option maxRecDepth 100000 in
theorem impl_graph_sides.calls (k : Nat) (gb0 : Nat) (a0_0 : Int) (a0_1 : Int) (A0_2 : Option Addr) (c0_2 : Nat) (l0_2 : List Int) (a0_3 : Int) (a0_4 : Int) (A0_5 : Option Addr) (c0_5 : Nat) (l0_5 : List Int) (A0_6 : Option Addr) (c0_6 : Nat) (l0_6 : List (List Int)) (r : List Int) (w : World) (hg0 : w.heap[gb0]? = some (.cells #[.int .i64 a0_0, .int .i64 a0_1, .slice A0_2 l0_2.length c0_2, .int .i64 a0_3, .int .i64 a0_4, .slice A0_5 l0_5.length c0_5, .slice A0_6 l0_6.length c0_6] 53 (0, 0))) (hr0_2 : Kd.C (Kd.int .i64) w A0_2 l0_2.length l0_2) (hc0_2 : l0_2.length ≤ c0_2) (hr0_5 : Kd.C (Kd.int .i64) w A0_5 l0_5.length l0_5) (hc0_5 : l0_5.length ≤ c0_5) (hr0_6 : Kd.C (Kd.slice 3 (Kd.int .i64)) w A0_6 l0_6.length l0_6) (hc0_6 : l0_6.length ≤ c0_6) (h : impl_graph_sides.f k a0_0 a0_1 l0_2 a0_3 a0_4 l0_5 l0_6 = some r) :
  Calls Try.prog 23 #[.pointer (some ⟨gb0, 0, none⟩)] w fun e w' => ∃ v0_ : Value, e = .returned (v0_) ∧ Kd.R (Kd.int .i64) 3 w' w.heap.size (fun _ => True) v0_ r ∧ Below w.heap.size w w' := by
 have HR0_2 := Aside0.mk hr0_2
 have HC0_2 := Aside0.mk hc0_2
 clear hr0_2 hc0_2
 have HR0_5 := Aside0.mk hr0_5
 have HC0_5 := Aside0.mk hc0_5
 clear hr0_5 hc0_5
 have HR0_6 := Aside0.mk hr0_6
 have HC0_6 := Aside0.mk hc0_6
 clear hr0_6 hc0_6
 have BK0 := Aside0.mk hg0
 clear hg0
 have HB := Aside0.mk (Below.refl w.heap.size w)
 have H : (if 0 ≤ (l0_6.length : Int) then (if ((l0_6.length : Int) : Int).toNat ≤ 35184372088832 then ((some (List.replicate ((l0_6.length : Int) : Int).toNat 0 : List Int)).bind fun y281 => (impl_graph_sides.l0 k y281 (y281.length : Int) 0 a0_0 a0_1 l0_2 a0_3 a0_4 l0_5 l0_6)) else (none)) else (none)) = some r := h
 clear h
 by_cases c2 : 0 ≤ (l0_6.length : Int)
 rotate_left
 ·rw [if_neg c2] at H
  exact absurd H (by simp)
 rw [if_pos c2] at H
 have c2b0 := eq_true c2
 have c2b1 : decide (0 ≤ (l0_6.length : Int)) = true := decide_eq_true c2
 clear c2
 by_cases c3 : ((l0_6.length : Int) : Int).toNat ≤ 35184372088832
 rotate_left
 ·rw [if_neg c3] at H
  exact absurd H (by simp)
 rw [if_pos c3] at H
 have c3b0 := eq_true c3
 have c3b1 : decide (((l0_6.length : Int) : Int).toNat ≤ 35184372088832) = true := decide_eq_true c3
 clear c3
 obtain ⟨y281, hy281⟩ : ∃ y_ : List Int, y_ = (List.replicate ((l0_6.length : Int) : Int).toNat 0) := ⟨_, rfl⟩
 replace H : (impl_graph_sides.l0 k y281 (y281.length : Int) 0 a0_0 a0_1 l0_2 a0_3 a0_4 l0_5 l0_6) = some r := by first | (rw [hy281]; with_reducible exact H) | (have H2_ := (Option.bind_some _ _).symm.trans H; rw [hy281]; with_reducible exact H2_) | (have H2_ := (Option.bind_some _ _).symm.trans H; with_reducible exact H2_) | with_reducible exact H | (rw [hy281]; exact H) | exact H
 have Ny281 := Aside0.mk hy281
 clear hy281
 have H' := Aside0.mk H
 clear H
 have hcz4_0 : w.cell? ⟨gb0, 0, none⟩ = some (.int .i64 a0_0) := (blk_cell BK0.out 0).trans rfl
 have hcz4_1 : w.cell? ⟨gb0, 1, none⟩ = some (.int .i64 a0_1) := (blk_cell BK0.out 1).trans rfl
 have hcz4_2 : w.cell? ⟨gb0, 2, none⟩ = some (.slice A0_2 l0_2.length c0_2) := (blk_cell BK0.out 2).trans rfl
 have hcz4_3 : w.cell? ⟨gb0, 3, none⟩ = some (.int .i64 a0_3) := (blk_cell BK0.out 3).trans rfl
 have hcz4_4 : w.cell? ⟨gb0, 4, none⟩ = some (.int .i64 a0_4) := (blk_cell BK0.out 4).trans rfl
 have hcz4_5 : w.cell? ⟨gb0, 5, none⟩ = some (.slice A0_5 l0_5.length c0_5) := (blk_cell BK0.out 5).trans rfl
 have hcz4_6 : w.cell? ⟨gb0, 6, none⟩ = some (.slice A0_6 l0_6.length c0_6) := (blk_cell BK0.out 6).trans rfl
 have hfz4_0 := blk_frozen BK0.out 0
 have hfz4_1 := blk_frozen BK0.out 1
 have hfz4_2 := blk_frozen BK0.out 2
 have hfz4_3 := blk_frozen BK0.out 3
 have hfz4_4 := blk_frozen BK0.out 4
 have hfz4_5 := blk_frozen BK0.out 5
 have hfz4_6 := blk_frozen BK0.out 6
 go_enter Try.func23, Try.ntmps23
 go_wp2_with (first | ((with_reducible refine gate_dst (N := 14) rfl ?_); refine Kd.R_make (Kd.int .i64) _ 3 rfl (N := 14) rfl 22 _ _ rfl (l0_6.length : Int) rfl rfl Try.underlying22 (.int .i64 0) 8 info3 rfl (by decide) (by omega) 0 (ok := fun _ => True) (okp := fun _ => True) rfl (fun _ hk => hk) trivial (of_decide_eq_true zj3) (Nat.le_trans (Nat.mul_le_mul_right _ (of_decide_eq_true zj3 : (l0_6.length : Int).toNat ≤ 35184372088832)) (by omega)) (Below.refl _ _) (Nat.le_refl _) ?_; intro v282 w5 ho6 hb hg_ hnew_; clear hg_ hnew_; (first | rw [← Ny281.out] at ho6 | (simp only [Int.reduceToNat] at ho6; rw [← Ny281.out] at ho6)); have n0_ := Aside0.mk (Kd.R_lower ho6 (below_size zj1)); have n1_ := Aside0.mk (blk_below (g := gb0) (o := .cells #[.int .i64 a0_0, .int .i64 a0_1, .slice A0_2 l0_2.length c0_2, .int .i64 a0_3, .int .i64 a0_4, .slice A0_5 l0_5.length c0_5, .slice A0_6 l0_6.length c0_6] 53 (0, 0)) zj4 hb); have n2_ := Aside0.mk (below_step zj1 hb); clear BK0; clear HB; have HO283 := n0_; have BK0 := n1_; have HB := n2_; clear n0_ n1_ n2_; clear hb ho6; obtain ⟨Ao7, co7, eo7⟩ := Kd.R_slice HO283.out; subst eo7))
 go_loopg [17] k (fun kq v17 w' => ∃ (x3_1 : List Int) (x17_1 : Int), v17 = .int .i64 x17_1 ∧ Aside0 (impl_graph_sides.l0 kq x3_1 (y281.length : Int) x17_1 a0_0 a0_1 l0_2 a0_3 a0_4 l0_5 l0_6 = some r) ∧ Aside0 (kq ≤ k) ∧ Aside0 (Kd.R (Kd.int .i64) 3 w' w.heap.size (fun _ => True) (.slice Ao7 y281.length co7) x3_1) ∧ Aside0 (w'.heap[gb0]? = some (.cells #[.int .i64 a0_0, .int .i64 a0_1, (.slice A0_2 l0_2.length c0_2), .int .i64 a0_3, .int .i64 a0_4, (.slice A0_5 l0_5.length c0_5), (.slice A0_6 l0_6.length c0_6)] 53 (0, 0))) ∧ Aside0 (Below w.heap.size w w'))
 case atStart => exact ⟨(y281), (0), zj7, H', ⟨Nat.le_refl _⟩, ⟨by first | exact HO283.out | ((with_reducible repeat (first | apply Kd.R_alloc | apply Kd.R_drewN | apply Kd.R_drew)); exact HO283.out)⟩, ⟨zj4⟩, ⟨zj1⟩⟩
 case round =>
  clear H'
  try clear c2; try clear c2b0; try clear c2b1; try clear p2; try clear c3; try clear c3b0; try clear c3b1; try clear hcz4_0; try clear hcz4_1; try clear hcz4_2; try clear hcz4_3; try clear hcz4_4; try clear hcz4_5; try clear hcz4_6; try clear hfz4_0; try clear hfz4_1; try clear hfz4_2; try clear hfz4_3; try clear hfz4_4; try clear hfz4_5; try clear hfz4_6
  obtain ⟨x3_1, x17_1, rfl, HA, HK1, HO_3, BK0, HB⟩ := hrel
  have hl3_1 := (Kd.R_reads' HO_3.out).1
  rw [hl3_1] at HO_3
  (try simp only [hl3_1])
  (try simp only [hl3_1] at BK0)
  cases gk with
  | zero => exact absurd HA.out (by simp [impl_graph_sides.l0])
  | succ k1 =>
   have H := HA.out
   clear HA
   simp only [impl_graph_sides.l0] at H
   by_cases c8 : x17_1 < (y281.length : Int)
   ·rw [if_pos c8] at H
    have c8b0 : decide (x17_1 < (y281.length : Int)) = true := decide_eq_true c8
    have c8b8 := c8b0
    (try simp only [hl3_1] at c8b8)
    clear c8
    by_cases c9 : 0 ≤ x17_1
    rotate_left
    ·rw [if_neg c9] at H
     exact absurd H (by simp)
    rw [if_pos c9] at H
    have c9b0 : decide (0 ≤ x17_1) = true := decide_eq_true c9
    clear c9
    by_cases c10 : x17_1 < (x3_1.length : Int)
    rotate_left
    ·rw [if_neg c10] at H
     exact absurd H (by simp)
    rw [if_pos c10] at H
    have c10b0 : decide (x17_1 < (x3_1.length : Int)) = true := decide_eq_true c10
    have c10b8 := c10b0
    (try simp only [hl3_1] at c10b8)
    clear c10
    obtain ⟨y284, hy284⟩ : ∃ y_ : List Int, y_ = (x3_1.set (x17_1 : Int).toNat (-1)) := ⟨_, rfl⟩
    replace H : (impl_graph_sides.l0 k1 y284 (y281.length : Int) (wrap64 (x17_1 + 1)) a0_0 a0_1 l0_2 a0_3 a0_4 l0_5 l0_6) = some r := by first | (rw [hy284]; with_reducible exact H) | (have H2_ := (Option.bind_some _ _).symm.trans H; rw [hy284]; with_reducible exact H2_) | (have H2_ := (Option.bind_some _ _).symm.trans H; with_reducible exact H2_) | with_reducible exact H | (rw [hy284]; exact H) | exact H
    have Ny284 := Aside0.mk hy284
    clear hy284
    have H' := Aside0.mk H
    clear H
    have p11 : 0 ≤ (x17_1 : Int) := of_decide_eq_true zj3
    have q11 : (x17_1 : Int) < ((x3_1.length : Int) : Int) := of_decide_eq_true zj3
    obtain ⟨go11, co11, eo11, gb11, gl11, cl11, HG11⟩ := Kd.R_form HO_3.out (by omega)
    (first | cases eo11 | (injection eo11 with ea_ en_ ec_; (first | subst ea_ | (injection ea_ with ea_; subst ea_)); subst ec_; clear en_))
    have GB11 := Aside0.mk gb11
    have GG11 := Aside0.mk HG11
    clear gb11 gl11 HG11
    obtain ⟨hx11_0, hf11_0⟩ := Kd.R_celln 0 HO_3.out (x17_1 : Int) p11 q11
    replace p11 := eq_true p11
    replace q11 := eq_true q11
    have HP12 := Kd.R_putg HO_3.out (x17_1 : Int) (-1)
    go_wp2_with (first | ((with_reducible refine gate_store (t := 3) (p := 22) rfl ?_); refine store_event (t := 3) (p := 22) (v := ?vo_w13) (w1 := (wr.setCell ⟨go11, (x17_1 : Int).toNat, none⟩ (.int .i64 (-1)))) ?hg ?ho ?hn ?hr ?_; (case ho => rfl); (case hg => rfl); (case hn => rfl); (case hr => first | (go_simp; done) | (go_simp; rfl)); intro w13 hw; have hg : wr.grownBy w13 (some go11) := (by rw [hw]; exact HP12.2); have hp_ : Kd.R (Kd.int .i64) 3 w13 w.heap.size (fun _ => True) (.slice (some ⟨go11, 0, none⟩) x3_1.length co7) y284 := (by rw [hw, Ny284.out]; exact HP12.1); clear HP12; have n0_ := Aside0.mk (hp_); have n1_ := Aside0.mk (blk_grown (g := gb0) (o := .cells #[.int .i64 a0_0, .int .i64 a0_1, .slice A0_2 l0_2.length c0_2, .int .i64 a0_3, .int .i64 a0_4, .slice A0_5 l0_5.length c0_5, .slice A0_6 l0_6.length c0_6] 53 (0, 0)) zj4 hg (Kd.R_ne HO_3.out BK0.out (by decide))); have n2_ := Aside0.mk ((by rw [hw]; exact below_set (HB.out) GB11.out : Below w.heap.size w w13)); clear HO_3; clear BK0; clear HB; have HO_3 := n0_; have BK0 := n1_; have HB := n2_; clear n0_ n1_ n2_; clear hg hw hp_))
    (try simp only [← hl3_1])
    go_roundg k1
    case measure => have := HK1.out; omega
    case rel => exact ⟨(y284), (wrap64 (x17_1 + 1)), zj7, H', ⟨by have := HK1.out; omega⟩, ⟨zj17⟩, ⟨zj15⟩, ⟨zj1⟩⟩
   rw [if_neg c8] at H
   have c8b0 : decide (x17_1 < (y281.length : Int)) = false := decide_eq_false c8
   have c8b8 := c8b0
   (try simp only [hl3_1] at c8b8)
   clear c8
   replace H := Option.bind_eq_some_iff.mp H
   obtain ⟨t285, A140, H⟩ := H
   replace H : (impl_graph_sides.l1 k1 x3_1 t285 (t285.length : Int) 0 a0_0 a0_1 l0_2 a0_3 a0_4 l0_5 l0_6) = some r := H
   have A14 := Aside0.mk A140
   clear A140
   have H' := Aside0.mk H
   clear H
   go_wp2_with (first | ((with_reducible refine gate_callee (f := 29) rfl ?_); refine goesL_ (some 25) rfl rfl Try.func29 (by kernel_rfl) rfl #[.pointer (some ⟨gb0, 0, none⟩)] rfl zj16 ?_; (with_reducible refine (impl_graph_parts.calls k1 gb0 a0_0 a0_1 A0_2 c0_2 l0_2 a0_3 a0_4 A0_5 c0_5 l0_5 A0_6 c0_6 l0_6 t285 _ ?side1 ?side2 ?side3 ?side4 ?side5 ?side6 ?side7 A14.out).mono ?_); (case side1 => exact zj4); (case side2 => exact zj14); (case side3 => exact HC0_2.out); (case side4 => exact zj13); (case side5 => exact HC0_5.out); (case side6 => exact zj12); (case side7 => exact HC0_6.out); rintro e w15 ⟨v286, rfl, ho0, hb⟩; refine ⟨_, rfl, ?_⟩; have n0_ := Aside0.mk (Kd.R_below zj5 hb); have n1_ := Aside0.mk (Kd.S_lower (Kd.S_new' ho0 (Kd.R_lt zj5)) (below_size zj1)); have n2_ := Aside0.mk (blk_below (g := gb0) (o := .cells #[.int .i64 a0_0, .int .i64 a0_1, .slice A0_2 l0_2.length c0_2, .int .i64 a0_3, .int .i64 a0_4, .slice A0_5 l0_5.length c0_5, .slice A0_6 l0_6.length c0_6] 53 (0, 0)) zj4 hb); have n3_ := Aside0.mk (below_step zj1 hb); clear HO_3; clear BK0; clear HB; have HO_3 := n0_; have HO287 := n1_; have BK0 := n2_; have HB := n3_; clear n0_ n1_ n2_ n3_; (try clear hb); (try clear hb2); (try clear hk); (try clear hi); (try clear ho0); (try clear hna_); (try clear hnb_); obtain ⟨Ao16, co16, eo16⟩ := Kd.S_slice HO287.out; subst eo16))
   go_loopg [27] k1 (fun kq v27 w' => ∃ (x3_2 : List Int) (x27_2 : Int), v27 = .int .i64 x27_2 ∧ Aside0 (impl_graph_sides.l1 kq x3_2 t285 (t285.length : Int) x27_2 a0_0 a0_1 l0_2 a0_3 a0_4 l0_5 l0_6 = some r) ∧ Aside0 (kq ≤ k1) ∧ Aside0 (Kd.R (Kd.int .i64) 3 w' w.heap.size (fun _ => True) (.slice Ao7 x3_1.length co7) x3_2) ∧ Aside0 (Kd.S (Kd.slice 3 (Kd.int .i64)) 22 w' w.heap.size (fun k_ => some k_ ≠ ((.slice Ao7 x3_1.length co7) : Value).ownBlock) (.slice Ao16 t285.length co16) t285) ∧ Aside0 (w'.heap[gb0]? = some (.cells #[.int .i64 a0_0, .int .i64 a0_1, (.slice A0_2 l0_2.length c0_2), .int .i64 a0_3, .int .i64 a0_4, (.slice A0_5 l0_5.length c0_5), (.slice A0_6 l0_6.length c0_6)] 53 (0, 0))) ∧ Aside0 (Below w.heap.size w w'))
   case atStart => exact ⟨(x3_1), (0), zj7, H', ⟨Nat.le_refl _⟩, ⟨zj17⟩, ⟨by (try simp only [hl3_1]); (with_reducible repeat (first | apply Kd.S_alloc | apply Kd.S_drewN | apply Kd.S_drew)); exact Kd.S_mono HO287.out (fun _ hk => hk.2)⟩, ⟨zj15⟩, ⟨zj1⟩⟩
   case round =>
    clear H'
    try clear c1; try clear p1; try clear q1; try clear hx1; try clear hf1; try clear c2; try clear c2b0; try clear c2b1; try clear p2; try clear c3; try clear c3b0; try clear c3b1; try clear p6; try clear c8; try clear c8b0; try clear c8b8; try clear c9; try clear c9b0; try clear c10; try clear c10b0; try clear c10b8; try clear p11; try clear q11; try clear hx11; try clear hf11; try clear hcz4_0; try clear hcz4_1; try clear hcz4_2; try clear hcz4_3; try clear hcz4_4; try clear hcz4_5; try clear hcz4_6; try clear hfz4_0; try clear hfz4_1; try clear hfz4_2; try clear hfz4_3; try clear hfz4_4; try clear hfz4_5
    try clear hfz4_6; try clear hx11_0; try clear p11; try clear p2; try clear q11
    obtain ⟨x3_2, x27_2, rfl, HA, HK2, HO_3, HO_25, BK0, HB⟩ := hrel
    have hl3_2 := (Kd.R_reads' HO_3.out).1
    rw [hl3_2] at HO_3
    (try simp only [hl3_2])
    (try simp only [hl3_2] at BK0)
    (try simp only [hl3_2] at HO_25)
    cases gk with
    | zero => exact absurd HA.out (by simp [impl_graph_sides.l1])
    | succ k2 =>
     have H := HA.out
     clear HA
     simp only [impl_graph_sides.l1] at H
     by_cases c17 : x27_2 < (t285.length : Int)
     rotate_left
     ·rw [if_neg c17] at H
      have c17b0 : decide (x27_2 < (t285.length : Int)) = false := decide_eq_false c17
      have c17b8 := c17b0
      (try simp only [hl3_1, hl3_2] at c17b8)
      clear c17
      obtain rfl := Option.some.inj H
      go_wp2
      go_ret
      exact ⟨_, zj9, zj5, zj1⟩
     rw [if_pos c17] at H
     have c17b0 : decide (x27_2 < (t285.length : Int)) = true := decide_eq_true c17
     have c17b8 := c17b0
     (try simp only [hl3_1, hl3_2] at c17b8)
     clear c17
     by_cases c18 : 0 ≤ x27_2
     rotate_left
     ·rw [if_neg c18] at H
      exact absurd H (by simp)
     rw [if_pos c18] at H
     have c18b0 : decide (0 ≤ x27_2) = true := decide_eq_true c18
     clear c18
     by_cases c19 : x27_2 < (t285.length : Int)
     rotate_left
     ·rw [if_neg c19] at H
      exact absurd H (by simp)
     rw [if_pos c19] at H
     have c19b0 : decide (x27_2 < (t285.length : Int)) = true := decide_eq_true c19
     have c19b8 := c19b0
     (try simp only [hl3_1, hl3_2] at c19b8)
     clear c19
     by_cases c20 : 0 < ((rd_L1 t285 x27_2).length : Int)
     rotate_left
     ·rw [if_neg c20] at H
      exact absurd H (by simp)
     rw [if_pos c20] at H
     have c20b0 : decide (0 < ((rd_L1 t285 x27_2).length : Int)) = true := decide_eq_true c20
     have c20b8 := c20b0
     (try simp only [hl3_1, hl3_2] at c20b8)
     have c20b1 : decide (0 < (rd_L1 t285 x27_2).length) = true := decide_eq_true (by omega)
     have c20b9 := c20b1
     (try simp only [hl3_1, hl3_2] at c20b9)
     clear c20
     replace H := Option.bind_eq_some_iff.mp H
     obtain ⟨t290, A210, H⟩ := H
     replace H : (impl_graph_sides.l2 k2 x3_2 t285 (t285.length : Int) x27_2 t290 (t290.length : Int) 0 a0_0 a0_1 l0_2 a0_3 a0_4 l0_5 l0_6) = some r := H
     have A21 := Aside0.mk A210
     clear A210
     have H' := Aside0.mk H
     clear H
     have p288 : 0 ≤ (x27_2 : Int) := of_decide_eq_true zj3
     have q288 : x27_2 < (t285.length : Int) := of_decide_eq_true zj3
     obtain ⟨ad288, A288_0, c288_0, e288, hx288_0, hl288_0, hi288_0⟩ := at_L1 (Kd.S_reads' HO_25.out).2.2 x27_2 p288 q288
     cases e288
     obtain ⟨ce288, hce288, hMe288, hcc288⟩ := Kd.S_get HO_25.out [] x27_2 p288 (by first | exact q288 | exact of_decide_eq_true zj3 | (have e_ := (Kd.S_reads' HO_25.out).1; omega))
     obtain ⟨ve288_0, rfl, ge288_0⟩ := hMe288
     have hv288_0 := hcc288 0 _ rfl
     rw [Nat.add_zero, show ((Kd.slice 3 (Kd.int .i64))).sz = 1 from rfl, Nat.mul_one] at hv288_0
     replace hv288_0 := Option.some.inj (hv288_0.symm.trans hx288_0)
     rw [hv288_0] at ge288_0
     have HL288_0 := Aside0.mk (show Kd.R (Kd.int .i64) 3 _ _ _ _ (rd_L1 t285 x27_2) from ge288_0)
     clear hv288_0 ge288_0
     clear hcc288 hce288
     have HR288_0 := Aside0.mk hi288_0
     have HC288_0 := Aside0.mk hl288_0
     clear hi288_0 hl288_0
     replace p288 := eq_true p288
     replace q288 := eq_true q288
     have p289 : 0 ≤ (0 : Int) := (by omega)
     have q289 : 0 < ((rd_L1 t285 x27_2).length : Int) := of_decide_eq_true zj3
     obtain ⟨ad289, e289, hx289_0⟩ := Kd.at_int zj10 0 p289 q289
     cases e289
     have qi289 : (0 < (rd_L1 t285 x27_2).length) = True := eq_true (by omega)
     (try rw [show ((0 : Int)).toNat = 0 from rfl] at hx289_0)
     (try rw [Addr.add_zero'] at hx289_0)
     replace p289 := eq_true p289
     replace q289 := eq_true q289
     go_wp2_with (first | ((with_reducible refine gate_callee (f := 35) rfl ?_); refine goesL_ (some 35) rfl rfl Try.func35 (by kernel_rfl) rfl #[.pointer (some ⟨gb0, 0, none⟩), .int .i64 (rd (rd_L1 t285 x27_2) 0)] rfl zj16 ?_; (with_reducible refine (impl_graph_far.calls k2 gb0 a0_0 a0_1 A0_2 c0_2 l0_2 a0_3 a0_4 A0_5 c0_5 l0_5 A0_6 c0_6 l0_6 (rd (rd_L1 t285 x27_2) 0) t290 _ ?side1 ?side2 ?side3 ?side4 ?side5 ?side6 ?side7 A21.out).mono ?_); (case side1 => exact zj4); (case side2 => exact zj14); (case side3 => exact HC0_2.out); (case side4 => exact zj13); (case side5 => exact HC0_5.out); (case side6 => exact zj12); (case side7 => exact HC0_6.out); rintro e w22 ⟨v291, rfl, ho0, hb⟩; refine ⟨_, rfl, ?_⟩; have n0_ := Aside0.mk (Kd.R_elder' zj5 (Kd.R_base ho0) hb); have n1_ := Aside0.mk (Kd.S_elder' (by first | exact HO_25.out | ((with_reducible repeat (first | apply Kd.S_alloc | apply Kd.S_drewN | apply Kd.S_drew)); exact HO_25.out)) (Kd.R_base ho0) hb); have n2_ := Aside0.mk (Kd.R_elder' (by first | exact HL288_0.out | ((with_reducible repeat (first | apply Kd.R_alloc | apply Kd.R_drewN | apply Kd.R_drew)); exact HL288_0.out)) (Kd.R_base ho0) hb); have n3_ := Aside0.mk (Kd.R_lower (Kd.R_new' (Kd.R_new' ho0 (Kd.R_lt zj5)) (Kd.R_lt (by first | exact HL288_0.out | ((with_reducible repeat (first | apply Kd.R_alloc | apply Kd.R_drewN | apply Kd.R_drew)); exact HL288_0.out)))) (below_size zj1)); have n4_ := Aside0.mk (blk_below (g := gb0) (o := .cells #[.int .i64 a0_0, .int .i64 a0_1, .slice A0_2 l0_2.length c0_2, .int .i64 a0_3, .int .i64 a0_4, .slice A0_5 l0_5.length c0_5, .slice A0_6 l0_6.length c0_6] 53 (0, 0)) zj4 hb); have n5_ := Aside0.mk (Kd.C_below zj10 hb); have n6_ := Aside0.mk (below_step zj1 hb); clear HO_3; clear HO_25; clear HL288_0; clear BK0; clear HR288_0; clear HB; have HO_3 := n0_; have HO_25 := n1_; have HL288_0 := n2_; have HO292 := n3_; have BK0 := n4_; have HR288_0 := n5_; have HB := n6_; clear n0_ n1_ n2_ n3_ n4_ n5_ n6_; (try clear hb); (try clear hb2); (try clear hk); (try clear hi); (try clear ho0); (try clear hna_); (try clear hnb_); obtain ⟨Ao23, co23, eo23⟩ := Kd.R_slice HO292.out; subst eo23))
     go_loopg [37] k2 (fun kq v37 w' => ∃ (x3_3 : List Int) (x37_3 : Int), v37 = .int .i64 x37_3 ∧ Aside0 (impl_graph_sides.l2 kq x3_3 t285 (t285.length : Int) x27_2 t290 (t290.length : Int) x37_3 a0_0 a0_1 l0_2 a0_3 a0_4 l0_5 l0_6 = some r) ∧ Aside0 (kq ≤ k2) ∧ Aside0 (Kd.R (Kd.int .i64) 3 w' w.heap.size (fun k_ => some k_ ≠ ((.slice Ao23 t290.length co23) : Value).ownBlock) (.slice Ao7 x3_2.length co7) x3_3) ∧ Aside0 (Kd.S (Kd.slice 3 (Kd.int .i64)) 22 w' w.heap.size (fun k_ => some k_ ≠ ((.slice Ao7 x3_2.length co7) : Value).ownBlock ∧ some k_ ≠ ((.slice Ao23 t290.length co23) : Value).ownBlock) (.slice (some ad288) t285.length co16) t285) ∧ Aside0 (Kd.R (Kd.int .i64) 3 w' w.heap.size (fun k_ => some k_ ≠ ((.slice Ao7 x3_2.length co7) : Value).ownBlock) (.slice Ao23 t290.length co23) t290) ∧ Aside0 (w'.heap[gb0]? = some (.cells #[.int .i64 a0_0, .int .i64 a0_1, (.slice A0_2 l0_2.length c0_2), .int .i64 a0_3, .int .i64 a0_4, (.slice A0_5 l0_5.length c0_5), (.slice A0_6 l0_6.length c0_6)] 53 (0, 0))) ∧ Aside0 (Below w.heap.size w w'))
     case atStart => exact ⟨(x3_2), (0), zj7, H', ⟨Nat.le_refl _⟩, ⟨by (try simp only [hl3_1]); (try simp only [hl3_2]); (with_reducible repeat (first | apply Kd.R_alloc | apply Kd.R_drewN | apply Kd.R_drew)); exact Kd.R_mono HO_3.out (fun _ hk => hk.2)⟩, ⟨by (try simp only [hl3_1]); (try simp only [hl3_2]); first | exact HO_25.out | ((with_reducible repeat (first | apply Kd.S_alloc | apply Kd.S_drewN | apply Kd.S_drew)); exact HO_25.out)⟩, ⟨by (try simp only [hl3_1]); (try simp only [hl3_2]); (with_reducible repeat (first | apply Kd.R_alloc | apply Kd.R_drewN | apply Kd.R_drew)); exact Kd.R_mono HO292.out (fun _ hk => hk.1.2)⟩, ⟨by (try simp only [hl3_1]); (try simp only [hl3_2]); first | exact BK0.out | ((with_reducible repeat (first | refine blk_drewN ?_ _ | refine blk_drew ?_ | refine blk_alloc ?_ _)); exact BK0.out)⟩, ⟨zj1⟩⟩
     case round =>
      clear H'
      try clear c1; try clear p1; try clear q1; try clear hx1; try clear hf1; try clear c2; try clear c2b0; try clear c2b1; try clear p2; try clear q2; try clear hx2; try clear qi2; try clear c3; try clear c3b0; try clear c3b1; try clear p6; try clear c8; try clear c8b0; try clear c8b8; try clear c9; try clear c9b0; try clear c10; try clear c10b0; try clear c10b8; try clear p11; try clear q11; try clear hx11; try clear hf11; try clear c17; try clear c17b0; try clear c17b8; try clear c18; try clear c18b0; try clear c19; try clear c19b0; try clear c19b8; try clear c20; try clear c20b0; try clear c20b1
      try clear c20b8; try clear c20b9; try clear c23; try clear hcz4_0; try clear hcz4_1; try clear hcz4_2; try clear hcz4_3; try clear hcz4_4; try clear hcz4_5; try clear hcz4_6; try clear hfz4_0; try clear hfz4_1; try clear hfz4_2; try clear hfz4_3; try clear hfz4_4; try clear hfz4_5; try clear hfz4_6; try clear hx11_0; try clear hx288_0; try clear hx289_0; try clear p1; try clear p11; try clear p2; try clear p288; try clear p289; try clear p6; try clear q1; try clear q11; try clear q288; try clear q289
      obtain ⟨x3_3, x37_3, rfl, HA, HK3, HO_3, HO_25, HO_35, BK0, HB⟩ := hrel
      have hl3_3 := (Kd.R_reads' HO_3.out).1
      rw [hl3_3] at HO_3
      (try simp only [hl3_3])
      (try simp only [hl3_3] at BK0)
      (try simp only [hl3_3] at HO_25)
      (try simp only [hl3_3] at HO_35)
      cases gk with
      | zero => exact absurd HA.out (by simp [impl_graph_sides.l2])
      | succ k3 =>
       have H := HA.out
       clear HA
       simp only [impl_graph_sides.l2] at H
       by_cases c24 : x37_3 < (t290.length : Int)
       rotate_left
       ·rw [if_neg c24] at H
        have c24b0 : decide (x37_3 < (t290.length : Int)) = false := decide_eq_false c24
        have c24b8 := c24b0
        (try simp only [hl3_1, hl3_2, hl3_3] at c24b8)
        clear c24
        have H' := Aside0.mk H
        clear H
        go_wp2
        (try simp only [← hl3_2, ← hl3_3])
        go_roundg k3
        case measure => have := HK1.out; have := HK2.out; have := HK3.out; omega
        case rel => exact ⟨(x3_3), (wrap64 (x27_2 + 1)), zj7, H', ⟨by have := HK1.out; have := HK2.out; have := HK3.out; omega⟩, ⟨by (try simp only [hl3_1]); (try simp only [hl3_2]); (try simp only [hl3_3]); (with_reducible repeat (first | apply Kd.R_alloc | apply Kd.R_drewN | apply Kd.R_drew)); exact Kd.R_mono HO_3.out (fun _ hk => trivial)⟩, ⟨by (try simp only [hl3_1]); (try simp only [hl3_2]); (try simp only [hl3_3]); (with_reducible repeat (first | apply Kd.S_alloc | apply Kd.S_drewN | apply Kd.S_drew)); exact Kd.S_mono HO_25.out (fun _ hk => hk.1)⟩, ⟨zj8⟩, ⟨zj1⟩⟩
       rw [if_pos c24] at H
       have c24b0 : decide (x37_3 < (t290.length : Int)) = true := decide_eq_true c24
       have c24b8 := c24b0
       (try simp only [hl3_1, hl3_2, hl3_3] at c24b8)
       clear c24
       by_cases c25 : 0 ≤ x37_3
       rotate_left
       ·rw [if_neg c25] at H
        exact absurd H (by simp)
       rw [if_pos c25] at H
       have c25b0 : decide (0 ≤ x37_3) = true := decide_eq_true c25
       clear c25
       by_cases c26 : x37_3 < (t290.length : Int)
       rotate_left
       ·rw [if_neg c26] at H
        exact absurd H (by simp)
       rw [if_pos c26] at H
       have c26b0 : decide (x37_3 < (t290.length : Int)) = true := decide_eq_true c26
       have c26b8 := c26b0
       (try simp only [hl3_1, hl3_2, hl3_3] at c26b8)
       clear c26
       by_cases c27 : (rd t290 x37_3) ≥ 0
       rotate_left
       ·rw [if_neg c27] at H
        have c27b0 : decide (0 ≤ (rd t290 x37_3)) = false := decide_eq_false c27
        clear c27
        have H' := Aside0.mk H
        clear H
        have p293 : 0 ≤ (x37_3 : Int) := of_decide_eq_true zj3
        have q293 : x37_3 < (t290.length : Int) := of_decide_eq_true zj3
        obtain ⟨ad293, e293, hx293_0⟩ := Kd.at_int (Kd.R_reads' HO_35.out).2.2 x37_3 p293 q293
        cases e293
        replace p293 := eq_true p293
        replace q293 := eq_true q293
        go_wp2
        (try simp only [← hl3_3])
        go_roundg k3
        case measure => have := HK1.out; have := HK2.out; have := HK3.out; omega
        case rel => exact ⟨(x3_3), (wrap64 (x37_3 + 1)), zj7, H', ⟨by have := HK1.out; have := HK2.out; have := HK3.out; omega⟩, ⟨zj11⟩, ⟨by (try simp only [hl3_1]); (try simp only [hl3_2]); (try simp only [hl3_3]); first | exact HO_25.out | ((with_reducible repeat (first | apply Kd.S_alloc | apply Kd.S_drewN | apply Kd.S_drew)); exact HO_25.out)⟩, ⟨by (try simp only [hl3_1]); (try simp only [hl3_2]); (try simp only [hl3_3]); first | exact HO_35.out | ((with_reducible repeat (first | apply Kd.R_alloc | apply Kd.R_drewN | apply Kd.R_drew)); exact HO_35.out)⟩, ⟨zj8⟩, ⟨zj1⟩⟩
       rw [if_pos c27] at H
       have c27b0 : decide (0 ≤ (rd t290 x37_3)) = true := decide_eq_true c27
       clear c27
       by_cases c28 : x37_3 < (x3_3.length : Int)
       rotate_left
       ·rw [if_neg c28] at H
        exact absurd H (by simp)
       rw [if_pos c28] at H
       have c28b0 : decide (x37_3 < (x3_3.length : Int)) = true := decide_eq_true c28
       have c28b8 := c28b0
       (try simp only [hl3_1, hl3_2, hl3_3] at c28b8)
       clear c28
       obtain ⟨y294, hy294⟩ : ∃ y_ : List Int, y_ = (x3_3.set (x37_3 : Int).toNat (Int.tmod (rd t290 x37_3) 2)) := ⟨_, rfl⟩
       replace H : (impl_graph_sides.l2 k3 y294 t285 (t285.length : Int) x27_2 t290 (t290.length : Int) (wrap64 (x37_3 + 1)) a0_0 a0_1 l0_2 a0_3 a0_4 l0_5 l0_6) = some r := by first | (rw [hy294]; with_reducible exact H) | (have H2_ := (Option.bind_some _ _).symm.trans H; rw [hy294]; with_reducible exact H2_) | (have H2_ := (Option.bind_some _ _).symm.trans H; with_reducible exact H2_) | with_reducible exact H | (rw [hy294]; exact H) | exact H
       have Ny294 := Aside0.mk hy294
       clear hy294
       have H' := Aside0.mk H
       clear H
       have p293 : 0 ≤ (x37_3 : Int) := of_decide_eq_true zj3
       have q293 : x37_3 < (t290.length : Int) := of_decide_eq_true zj3
       obtain ⟨ad293, e293, hx293_0⟩ := Kd.at_int (Kd.R_reads' HO_35.out).2.2 x37_3 p293 q293
       cases e293
       replace p293 := eq_true p293
       replace q293 := eq_true q293
       have p29 : 0 ≤ (x37_3 : Int) := of_decide_eq_true zj3
       have q29 : (x37_3 : Int) < ((x3_3.length : Int) : Int) := of_decide_eq_true zj3
       obtain ⟨go29, co29, eo29, gb29, gl29, cl29, HG29⟩ := Kd.R_form HO_3.out (by omega)
       (first | cases eo29 | (injection eo29 with ea_ en_ ec_; (first | subst ea_ | (injection ea_ with ea_; subst ea_)); subst ec_; clear en_))
       have GB29 := Aside0.mk gb29
       have GG29 := Aside0.mk HG29
       clear gb29 gl29 HG29
       obtain ⟨hx29_0, hf29_0⟩ := Kd.R_celln 0 HO_3.out (x37_3 : Int) p29 q29
       replace p29 := eq_true p29
       replace q29 := eq_true q29
       have HP30 := Kd.R_putg HO_3.out (x37_3 : Int) (Int.tmod (rd t290 x37_3) 2)
       go_wp2_with (first | ((with_reducible refine gate_store (t := 3) (p := 48) rfl ?_); refine store_event (t := 3) (p := 48) (v := ?vo_w31) (w1 := (wr.setCell ⟨go29, (x37_3 : Int).toNat, none⟩ (.int .i64 (Int.tmod (rd t290 x37_3) 2)))) ?hg ?ho ?hn ?hr ?_; (case ho => rfl); (case hg => rfl); (case hn => rfl); (case hr => first | (go_simp; done) | (go_simp; rfl)); intro w31 hw; have hg : wr.grownBy w31 (some go29) := (by rw [hw]; exact HP30.2); have hp_ : Kd.R (Kd.int .i64) 3 w31 w.heap.size (fun k_ => some k_ ≠ (.slice (some ad293) t290.length co23 : Value).ownBlock) (.slice (some ⟨go29, 0, none⟩) x3_3.length co7) y294 := (by rw [hw, Ny294.out]; exact HP30.1); clear HP30; have n0_ := Aside0.mk (hp_); have n1_ := Aside0.mk (Kd.S_after (v := (.slice (some ⟨go29, 0, none⟩) x3_3.length co7)) (v1 := (.slice (some ⟨go29, 0, none⟩) x3_3.length co7)) (ok := (fun k_ => some k_ ≠ (.slice (some ad293) t290.length co23 : Value).ownBlock)) (by (with_reducible repeat (first | apply Kd.S_alloc | apply Kd.S_drewN | apply Kd.S_drew)); exact Kd.S_mono HO_25.out (fun _ hk => ⟨hk.2, hk.1⟩)) hg (.inl rfl)); have n2_ := Aside0.mk (Kd.R_after (v := (.slice (some ⟨go29, 0, none⟩) x3_3.length co7)) (v1 := (.slice (some ⟨go29, 0, none⟩) x3_3.length co7)) (ok := (fun _ => True)) (by (with_reducible repeat (first | apply Kd.R_alloc | apply Kd.R_drewN | apply Kd.R_drew)); exact Kd.R_mono HO_35.out (fun _ hk => ⟨trivial, hk⟩)) hg (.inl rfl)); have n3_ := Aside0.mk (blk_grown (g := gb0) (o := .cells #[.int .i64 a0_0, .int .i64 a0_1, .slice A0_2 l0_2.length c0_2, .int .i64 a0_3, .int .i64 a0_4, .slice A0_5 l0_5.length c0_5, .slice A0_6 l0_6.length c0_6] 53 (0, 0)) zj4 hg (Kd.R_ne HO_3.out BK0.out (by decide))); have n4_ := Aside0.mk ((by rw [hw]; exact below_set (HB.out) GB29.out : Below w.heap.size w w31)); clear HO_3; clear HO_25; clear HO_35; clear BK0; clear HB; have HO_3 := n0_; have HO_25 := n1_; have HO_35 := n2_; have BK0 := n3_; have HB := n4_; clear n0_ n1_ n2_ n3_ n4_; clear hg hw hp_))
       (try simp only [← hl3_3])
       go_roundg k3
       case measure => have := HK1.out; have := HK2.out; have := HK3.out; omega
       case rel => exact ⟨(y294), (wrap64 (x37_3 + 1)), zj7, H', ⟨by have := HK1.out; have := HK2.out; have := HK3.out; omega⟩, ⟨zj11⟩, ⟨by (try simp only [hl3_1]); (try simp only [hl3_2]); (try simp only [hl3_3]); (with_reducible repeat (first | apply Kd.S_alloc | apply Kd.S_drewN | apply Kd.S_drew)); exact Kd.S_mono HO_25.out (fun _ hk => ⟨hk.2, hk.1⟩)⟩, ⟨by (try simp only [hl3_1]); (try simp only [hl3_2]); (try simp only [hl3_3]); (with_reducible repeat (first | apply Kd.R_alloc | apply Kd.R_drewN | apply Kd.R_drew)); exact Kd.R_mono HO_35.out (fun _ hk => hk.2)⟩, ⟨zj8⟩, ⟨zj1⟩⟩

/-! ### impl_graph_matched: function 24 -/
end Go.Proofs.Ytfjomkjngolboaa.Q

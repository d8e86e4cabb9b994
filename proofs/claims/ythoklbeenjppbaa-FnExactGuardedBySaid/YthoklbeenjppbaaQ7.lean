/- Written by a program of this session: functions of the translation as plain Lean functions, each with a proof that the call does what the plain function says; the conditions stand in each theorem. -/
import Derived.Test.YthoklbeenjppbaaQ0
namespace Go.Proofs.Ythoklbeenjppbaa.Q
open Go.RowKit Go.Proofs.YthoklbeenjppbaaW.PrintWords Go.Proofs.YthoklbeenjppbaaW.PrintLast Go.Proofs.YthoklbeenjppbaaW.PrintMore
attribute [local go_sem] max2_int min2_int max_two min_two max_three min_three max_four min_four   -- for this text's walks alone
set_option linter.unusedVariables false
set_option linter.unusedSimpArgs false

theorem zh1 {p : Prop} (h : p := by repeat (first | (with_reducible first | exact HB.out | apply below_alloc | apply pw_below_drewN | apply below_drew1 | refine below_set ?_ GE0.out) | exact HB.out)) : p := h
theorem zh2 {p : Prop} (h : p := by (with_reducible repeat (first | refine blk_drewN ?_ _ | refine blk_drew ?_ | refine blk_alloc ?_ _)); exact BK0.out) : p := h
theorem zh3 {p : Prop} (h : p := by first | (with_reducible assumption) | assumption) : p := h
theorem zh4 {p : Prop} (h : p := by (with_reducible repeat (first | apply Kd.R_alloc | apply Kd.R_drewN | apply Kd.R_drew)); exact HO_10.out) : p := h
theorem zh5 {p : Prop} (h : p := by first | rfl | (simp; done) | (simp [*]; done)) : p := h
theorem zh6 {p : Prop} (h : p := by (with_reducible repeat (first | apply Kd.R_alloc | apply Kd.R_drewN | apply Kd.R_drew)); exact HO_45.out) : p := h
theorem zh7 {p : Prop} (h : p := by (try simp only [hl5_2]); (with_reducible repeat (first | refine blk_drewN ?_ _ | refine blk_drew ?_ | refine blk_alloc ?_ _)); exact BK0.out) : p := h
theorem zh8 {p : Prop} (h : p := by (try simp only [hl5_2]); (with_reducible repeat (first | apply Kd.R_alloc | apply Kd.R_drewN | apply Kd.R_drew)); exact HO_5.out) : p := h
/-! ### impl_graph_guarded: function 52 -/
mutual
def impl_graph_guarded.l0 : Nat → List Bool → List Int → Int → Int → Int → Int → List Int → Int → Int → List Int → List (List Int) → Option (List Int)
 | 0, _, _, _, _, _, _, _, _, _, _, _ => none
 | k + 1, x5, x19, x20, x21, x1000, x1001, x1002, x1003, x1004, x1005, x1006 => if x21 < x20 then (if 0 ≤ x21 then (if x21 < (x19.length : Int) then (if 0 ≤ (rd x19 x21) then (if (rd x19 x21) < (x5.length : Int) then (if (rd x19 x21) < (x1006.length : Int) then (impl_graph_guarded.l1 k (x5.set ((rd x19 x21) : Int).toNat true) x19 x20 x21 (rd_L1 x1006 (rd x19 x21)) ((rd_L1 x1006 (rd x19 x21)).length : Int) 0 x1000 x1001 x1002 x1003 x1004 x1005 x1006) else (none)) else (none)) else (none)) else (none)) else (none)) else (impl_graph_guarded.l2 k ([] : List Int) x5 (x5.length : Int) 0)
def impl_graph_guarded.l1 : Nat → List Bool → List Int → Int → Int → List Int → Int → Int → Int → Int → List Int → Int → Int → List Int → List (List Int) → Option (List Int)
 | 0, _, _, _, _, _, _, _, _, _, _, _, _, _, _ => none
 | k + 1, x5, x19, x20, x21, x34, x35, x36, x1000, x1001, x1002, x1003, x1004, x1005, x1006 => if x36 < x35 then (if 0 ≤ x36 then (if x36 < (x34.length : Int) then (if 0 ≤ (rd x34 x36) then (if (rd x34 x36) < (x5.length : Int) then (impl_graph_guarded.l1 k (x5.set ((rd x34 x36) : Int).toNat true) x19 x20 x21 x34 x35 (wrap64 (x36 + 1)) x1000 x1001 x1002 x1003 x1004 x1005 x1006) else (none)) else (none)) else (none)) else (none)) else (impl_graph_guarded.l0 k x5 x19 x20 (wrap64 (x21 + 1)) x1000 x1001 x1002 x1003 x1004 x1005 x1006)
def impl_graph_guarded.l2 : Nat → List Int → List Bool → Int → Int → Option (List Int)
 | 0, _, _, _, _ => none
 | k + 1, x10, x45, x46, x47 => if x47 < x46 then (if 0 ≤ x47 then (if x47 < (x45.length : Int) then (if rdOf false x45 x47 = true then (if x10.length < 17592186044416 then (impl_graph_guarded.l2 k (x10 ++ [x47]) x45 x46 (wrap64 (x47 + 1))) else (none)) else (impl_graph_guarded.l2 k x10 x45 x46 (wrap64 (x47 + 1)))) else (none)) else (none)) else (some x10)
end
def impl_graph_guarded.f (k : Nat) (a0_0 : Int) (a0_1 : Int) (l0_2 : List Int) (a0_3 : Int) (a0_4 : Int) (l0_5 : List Int) (l0_6 : List (List Int)) (l1 : List Int) : Option (List Int) := if 0 ≤ (l0_6.length : Int) then (if ((l0_6.length : Int) : Int).toNat ≤ 281474976710656 then (impl_graph_guarded.l0 k (List.replicate ((l0_6.length : Int) : Int).toNat false) l1 (l1.length : Int) 0 a0_0 a0_1 l0_2 a0_3 a0_4 l0_5 l0_6) else (none)) else (none)
set_option maxHeartbeats 8000000 in
set_option maxRecDepth 100000 in
theorem impl_graph_guarded.calls (k : Nat) (gb0 : Nat) (a0_0 : Int) (a0_1 : Int) (A0_2 : Option Addr) (c0_2 : Nat) (l0_2 : List Int) (a0_3 : Int) (a0_4 : Int) (A0_5 : Option Addr) (c0_5 : Nat) (l0_5 : List Int) (A0_6 : Option Addr) (c0_6 : Nat) (l0_6 : List (List Int)) (A1 : Option Addr) (c1 : Nat) (l1 : List Int) (r : List Int) (w : World) (hg0 : w.heap[gb0]? = some (.cells #[.int .i64 a0_0, .int .i64 a0_1, .slice A0_2 l0_2.length c0_2, .int .i64 a0_3, .int .i64 a0_4, .slice A0_5 l0_5.length c0_5, .slice A0_6 l0_6.length c0_6] 60 (0, 0))) (hr0_2 : Kd.C (Kd.int .i64) w A0_2 l0_2.length l0_2) (hc0_2 : l0_2.length ≤ c0_2) (hr0_5 : Kd.C (Kd.int .i64) w A0_5 l0_5.length l0_5) (hc0_5 : l0_5.length ≤ c0_5) (hr0_6 : Kd.C (Kd.slice 3 (Kd.int .i64)) w A0_6 l0_6.length l0_6) (hc0_6 : l0_6.length ≤ c0_6) (hr1 : Kd.C (Kd.int .i64) w A1 l1.length l1) (hc1 : l1.length ≤ c1) (h : impl_graph_guarded.f k a0_0 a0_1 l0_2 a0_3 a0_4 l0_5 l0_6 l1 = some r) :
  Calls Try.prog 52 #[.pointer (some ⟨gb0, 0, none⟩), .slice A1 l1.length c1] w fun e w' => ∃ v0_ : Value, e = .returned (v0_) ∧ Kd.R (Kd.int .i64) 3 w' w.heap.size (fun _ => True) v0_ r ∧ Below w.heap.size w w' := by
 have HR0_2 := Aside0.mk hr0_2
 have HC0_2 := Aside0.mk hc0_2
 clear hr0_2 hc0_2
 have HR0_5 := Aside0.mk hr0_5
 have HC0_5 := Aside0.mk hc0_5
 clear hr0_5 hc0_5
 have HR0_6 := Aside0.mk hr0_6
 have HC0_6 := Aside0.mk hc0_6
 clear hr0_6 hc0_6
 have HR1 := Aside0.mk hr1
 have HC1 := Aside0.mk hc1
 clear hr1 hc1
 have BK0 := Aside0.mk hg0
 clear hg0
 have HB := Aside0.mk (Below.refl w.heap.size w)
 have H : (if 0 ≤ (l0_6.length : Int) then (if ((l0_6.length : Int) : Int).toNat ≤ 281474976710656 then (impl_graph_guarded.l0 k (List.replicate ((l0_6.length : Int) : Int).toNat false) l1 (l1.length : Int) 0 a0_0 a0_1 l0_2 a0_3 a0_4 l0_5 l0_6) else (none)) else (none)) = some r := h
 clear h
 by_cases c3 : 0 ≤ (l0_6.length : Int)
 rotate_left
 ·rw [if_neg c3] at H
  exact absurd H (by simp)
 rw [if_pos c3] at H
 have c3b0 := eq_true c3
 have c3b1 : decide (0 ≤ (l0_6.length : Int)) = true := decide_eq_true c3
 clear c3
 by_cases c4 : ((l0_6.length : Int) : Int).toNat ≤ 281474976710656
 rotate_left
 ·rw [if_neg c4] at H
  exact absurd H (by simp)
 rw [if_pos c4] at H
 have c4b0 := eq_true c4
 have c4b1 : decide (((l0_6.length : Int) : Int).toNat ≤ 281474976710656) = true := decide_eq_true c4
 clear c4
 obtain ⟨y246, hy246⟩ : ∃ y_ : List Bool, y_ = (List.replicate ((l0_6.length : Int) : Int).toNat false) := ⟨_, rfl⟩
 replace H : (impl_graph_guarded.l0 k y246 l1 (l1.length : Int) 0 a0_0 a0_1 l0_2 a0_3 a0_4 l0_5 l0_6) = some r := by first | (rw [hy246]; with_reducible exact H) | (have H2_ := (Option.bind_some _ _).symm.trans H; rw [hy246]; with_reducible exact H2_) | (have H2_ := (Option.bind_some _ _).symm.trans H; with_reducible exact H2_) | with_reducible exact H | (rw [hy246]; exact H) | exact H
 have Ny246 := Aside0.mk hy246
 clear hy246
 have H' := Aside0.mk H
 clear H
 have hcz5_0 : w.cell? ⟨gb0, 0, none⟩ = some (.int .i64 a0_0) := (blk_cell BK0.out 0).trans rfl
 have hcz5_1 : w.cell? ⟨gb0, 1, none⟩ = some (.int .i64 a0_1) := (blk_cell BK0.out 1).trans rfl
 have hcz5_2 : w.cell? ⟨gb0, 2, none⟩ = some (.slice A0_2 l0_2.length c0_2) := (blk_cell BK0.out 2).trans rfl
 have hcz5_3 : w.cell? ⟨gb0, 3, none⟩ = some (.int .i64 a0_3) := (blk_cell BK0.out 3).trans rfl
 have hcz5_4 : w.cell? ⟨gb0, 4, none⟩ = some (.int .i64 a0_4) := (blk_cell BK0.out 4).trans rfl
 have hcz5_5 : w.cell? ⟨gb0, 5, none⟩ = some (.slice A0_5 l0_5.length c0_5) := (blk_cell BK0.out 5).trans rfl
 have hcz5_6 : w.cell? ⟨gb0, 6, none⟩ = some (.slice A0_6 l0_6.length c0_6) := (blk_cell BK0.out 6).trans rfl
 have hfz5_0 := blk_frozen BK0.out 0
 have hfz5_1 := blk_frozen BK0.out 1
 have hfz5_2 := blk_frozen BK0.out 2
 have hfz5_3 := blk_frozen BK0.out 3
 have hfz5_4 := blk_frozen BK0.out 4
 have hfz5_5 := blk_frozen BK0.out 5
 have hfz5_6 := blk_frozen BK0.out 6
 go_enter Try.func52, Try.ntmps52
 go_wp2_with (first | ((with_reducible refine gate_dst (N := 18) rfl ?_); refine Kd.R_make Kd.bool _ 4 rfl (N := 18) rfl 86 _ _ rfl (l0_6.length : Int) rfl rfl Try.underlying86 (.bool false) 1 info4 rfl (by decide) (by omega) false (ok := fun _ => True) (okp := fun _ => True) rfl (fun _ hk => hk) trivial (of_decide_eq_true zh3) (Nat.le_trans (Nat.mul_le_mul_right _ (of_decide_eq_true zh3 : (l0_6.length : Int).toNat ≤ 281474976710656)) (by omega)) (Below.refl _ _) (Nat.le_refl _) ?_; intro v247 w6 ho7 hb hg_ hnew_; clear hg_ hnew_; (first | rw [← Ny246.out] at ho7 | (simp only [Int.reduceToNat] at ho7; rw [← Ny246.out] at ho7)); have n0_ := Aside0.mk (Kd.R_lower ho7 (below_size zh1)); have n1_ := Aside0.mk (blk_below (g := gb0) (o := .cells #[.int .i64 a0_0, .int .i64 a0_1, .slice A0_2 l0_2.length c0_2, .int .i64 a0_3, .int .i64 a0_4, .slice A0_5 l0_5.length c0_5, .slice A0_6 l0_6.length c0_6] 60 (0, 0)) zh2 hb); have n2_ := Aside0.mk (below_step zh1 hb); clear BK0; clear HB; have HO248 := n0_; have BK0 := n1_; have HB := n2_; clear n0_ n1_ n2_; clear hb ho7))
 go_loopg [21] k (fun kq v21 w' => ∃ (x5_1 : List Bool) (x21_1 : Int), v21 = .int .i64 x21_1 ∧ Aside0 (impl_graph_guarded.l0 kq x5_1 l1 (l1.length : Int) x21_1 a0_0 a0_1 l0_2 a0_3 a0_4 l0_5 l0_6 = some r) ∧ Aside0 (kq ≤ k) ∧ Aside0 (Kd.R Kd.bool 4 w' w.heap.size (fun _ => True) v247 x5_1) ∧ Aside0 (w'.heap[gb0]? = some (.cells #[.int .i64 a0_0, .int .i64 a0_1, (.slice A0_2 l0_2.length c0_2), .int .i64 a0_3, .int .i64 a0_4, (.slice A0_5 l0_5.length c0_5), (.slice A0_6 l0_6.length c0_6)] 60 (0, 0))) ∧ Aside0 (Below w.heap.size w w'))
 case atStart => exact ⟨(y246), (0), zh5, H', ⟨Nat.le_refl _⟩, ⟨by (with_reducible repeat (first | apply Kd.R_alloc | apply Kd.R_drewN | apply Kd.R_drew)); exact HO248.out⟩, ⟨zh2⟩, ⟨zh1⟩⟩
 case round =>
  clear H'
  try clear c1; try clear p2; try clear c3; try clear c3b0; try clear c3b1; try clear c4; try clear c4b0; try clear c4b1; try clear c5; try clear hcz5_0; try clear hcz5_1; try clear hcz5_2; try clear hcz5_3; try clear hcz5_4; try clear hcz5_5; try clear hcz5_6; try clear hfz5_0; try clear hfz5_1; try clear hfz5_2; try clear hfz5_3; try clear hfz5_4; try clear hfz5_5; try clear hfz5_6
  obtain ⟨x5_1, x21_1, rfl, HA, HK1, HO_5, BK0, HB⟩ := hrel
  cases gk with
  | zero => exact absurd HA.out (by simp [impl_graph_guarded.l0])
  | succ k1 =>
   have H := HA.out
   clear HA
   simp only [impl_graph_guarded.l0] at H
   by_cases c8 : x21_1 < (l1.length : Int)
   rotate_left
   ·rw [if_neg c8] at H
    have c8b0 : decide (x21_1 < (l1.length : Int)) = false := decide_eq_false c8
    clear c8
    have H' := Aside0.mk H
    clear H
    obtain ⟨Ao26, co26, eo26⟩ := Kd.R_slice HO_5.out
    subst eo26
    go_wp2
    go_loopg [10, 47] k1 (fun kq v10 v47 w' => ∃ (x10_2 : List Int) (x47_2 : Int), v47 = .int .i64 x47_2 ∧ Aside0 (impl_graph_guarded.l2 kq x10_2 x5_1 (x5_1.length : Int) x47_2 = some r) ∧ Aside0 (kq ≤ k1) ∧ Aside0 (Kd.R (Kd.int .i64) 3 w' w.heap.size (fun _ => True) v10 x10_2) ∧ Aside0 (Kd.R Kd.bool 4 w' w.heap.size (fun _ => True) (.slice Ao26 x5_1.length co26) x5_1) ∧ Aside0 (w'.heap[gb0]? = some (.cells #[.int .i64 a0_0, .int .i64 a0_1, (.slice A0_2 l0_2.length c0_2), .int .i64 a0_3, .int .i64 a0_4, (.slice A0_5 l0_5.length c0_5), (.slice A0_6 l0_6.length c0_6)] 60 (0, 0))) ∧ Aside0 (Below w.heap.size w w'))
    case atStart => exact ⟨(([] : List Int)), (0), zh5, H', ⟨Nat.le_refl _⟩, ⟨by first | exact Kd.R_nil _ _ _ _ _ | exact Kd.N_nil _ _ _ _ _ | exact Kd.V_nil _ _ _ _ _ | exact Kd.Q_nil _ _ _ _ _ | exact Kd.S_nil _ _ _ _ _⟩, ⟨by (with_reducible repeat (first | apply Kd.R_alloc | apply Kd.R_drewN | apply Kd.R_drew)); exact HO_5.out⟩, ⟨zh2⟩, ⟨zh1⟩⟩
    case round =>
     clear H'
     try clear c1; try clear p1; try clear q1; try clear hx1; try clear c2; try clear p2; try clear q2; try clear hx2; try clear hf2; try clear c3; try clear c3b0; try clear c3b1; try clear c4; try clear c4b0; try clear c4b1; try clear c5; try clear p6; try clear c8; try clear c8b0; try clear c9; try clear c9b0; try clear c10; try clear c10b0; try clear c11; try clear c11b0; try clear c12; try clear c12b0; try clear p13; try clear q13; try clear hx13; try clear hf13; try clear c14; try clear c14b0; try clear c18; try clear c18b0; try clear c18b8; try clear c19; try clear c19b0; try clear c20; try clear c20b0
     try clear c20b8; try clear c21; try clear c21b0; try clear c22; try clear c22b0; try clear c22b8; try clear p23; try clear q23; try clear hx23; try clear hf23; try clear p24; try clear q24; try clear hx24; try clear c25; try clear p25; try clear q25; try clear hx25; try clear hcz17_0; try clear hcz17_1; try clear hcz17_2; try clear hcz17_3; try clear hcz17_4; try clear hcz17_5; try clear hcz17_6; try clear hcz5_0; try clear hcz5_1; try clear hcz5_2; try clear hcz5_3; try clear hcz5_4; try clear hcz5_5; try clear hcz5_6; try clear hfz17_0; try clear hfz17_1; try clear hfz17_2; try clear hfz17_3
     try clear hfz17_4; try clear hfz17_5; try clear hfz17_6; try clear hfz5_0; try clear hfz5_1; try clear hfz5_2; try clear hfz5_3; try clear hfz5_4; try clear hfz5_5; try clear hfz5_6; try clear hx13_0; try clear hx23_0; try clear hx249_0; try clear hx251_0; try clear hx252_0; try clear p1; try clear p13; try clear p2; try clear p23; try clear p249; try clear p251; try clear p252; try clear q1; try clear q13; try clear q2; try clear q23; try clear q249; try clear q251; try clear q252
     obtain ⟨x10_2, x47_2, rfl, HA, HK2, HO_10, HO_45, BK0, HB⟩ := hrel
     cases gk with
     | zero => exact absurd HA.out (by simp [impl_graph_guarded.l2])
     | succ k2 =>
      have H := HA.out
      clear HA
      simp only [impl_graph_guarded.l2] at H
      by_cases c27 : x47_2 < (x5_1.length : Int)
      rotate_left
      ·rw [if_neg c27] at H
       have c27b0 : decide (x47_2 < (x5_1.length : Int)) = false := decide_eq_false c27
       clear c27
       obtain rfl := Option.some.inj H
       go_wp2
       go_ret
       exact ⟨_, by first | rfl | (simp [errW_none, errW_some] <;> rfl) | (simp [*, errW_none, errW_some] <;> rfl), zh4, zh1⟩
      rw [if_pos c27] at H
      have c27b0 : decide (x47_2 < (x5_1.length : Int)) = true := decide_eq_true c27
      clear c27
      by_cases c28 : 0 ≤ x47_2
      rotate_left
      ·rw [if_neg c28] at H
       exact absurd H (by simp)
      rw [if_pos c28] at H
      have c28b0 : decide (0 ≤ x47_2) = true := decide_eq_true c28
      clear c28
      by_cases c29 : x47_2 < (x5_1.length : Int)
      rotate_left
      ·rw [if_neg c29] at H
       exact absurd H (by simp)
      rw [if_pos c29] at H
      have c29b0 : decide (x47_2 < (x5_1.length : Int)) = true := decide_eq_true c29
      clear c29
      obtain ⟨bq30, hbq30⟩ : ∃ b_ : Bool, b_ = (rdOf false x5_1 x47_2) := ⟨_, rfl⟩
      replace H : (if bq30 = true then (if x10_2.length < 17592186044416 then (impl_graph_guarded.l2 k2 (x10_2 ++ [x47_2]) x5_1 (x5_1.length : Int) (wrap64 (x47_2 + 1))) else (none)) else (impl_graph_guarded.l2 k2 x10_2 x5_1 (x5_1.length : Int) (wrap64 (x47_2 + 1)))) = some r := by rw [← hbq30] at H; exact H
      have Nbq30 := Aside0.mk hbq30
      clear hbq30
      by_cases c31 : bq30 = true
      rotate_left
      ·replace c31 := Bool.eq_false_iff.mpr c31
       subst c31
       have H1 : (impl_graph_guarded.l2 k2 x10_2 x5_1 (x5_1.length : Int) (wrap64 (x47_2 + 1))) = some r := by rw [if_neg (show ¬ (false = true) by decide)] at H; exact H
       clear H
       have H := H1
       clear H1
       have H' := Aside0.mk H
       clear H
       have p254 : 0 ≤ (x47_2 : Int) := of_decide_eq_true zh3
       have q254 : x47_2 < (x5_1.length : Int) := of_decide_eq_true zh3
       obtain ⟨ad254, e254, hx254_0⟩ := Kd.at_bool (Kd.R_reads' HO_45.out).2.2 x47_2 p254 q254
       (try rw [← Nbq30.out] at hx254_0)
       cases e254
       replace p254 := eq_true p254
       replace q254 := eq_true q254
       go_wp2
       go_roundg k2
       case measure => have := HK1.out; have := HK2.out; omega
       case rel => exact ⟨(x10_2), (wrap64 (x47_2 + 1)), zh5, H', ⟨by have := HK1.out; have := HK2.out; omega⟩, ⟨zh4⟩, ⟨zh6⟩, ⟨zh2⟩, ⟨zh1⟩⟩
      subst c31
      have H1 : (if x10_2.length < 17592186044416 then (impl_graph_guarded.l2 k2 (x10_2 ++ [x47_2]) x5_1 (x5_1.length : Int) (wrap64 (x47_2 + 1))) else (none)) = some r := by rw [if_pos rfl] at H; exact H
      clear H
      have H := H1
      clear H1
      by_cases c32 : x10_2.length < 17592186044416
      rotate_left
      ·rw [if_neg c32] at H
       exact absurd H (by simp)
      rw [if_pos c32] at H
      have LMc32 := Aside0.mk c32
      clear c32
      obtain ⟨y255, hy255⟩ : ∃ y_ : List Int, y_ = (x10_2 ++ [x47_2]) := ⟨_, rfl⟩
      replace H : (impl_graph_guarded.l2 k2 y255 x5_1 (x5_1.length : Int) (wrap64 (x47_2 + 1))) = some r := by first | (rw [hy255]; with_reducible exact H) | (have H2_ := (Option.bind_some _ _).symm.trans H; rw [hy255]; with_reducible exact H2_) | (have H2_ := (Option.bind_some _ _).symm.trans H; with_reducible exact H2_) | with_reducible exact H | (rw [hy255]; exact H) | exact H
      have Ny255 := Aside0.mk hy255
      clear hy255
      have H' := Aside0.mk H
      clear H
      have p254 : 0 ≤ (x47_2 : Int) := of_decide_eq_true zh3
      have q254 : x47_2 < (x5_1.length : Int) := of_decide_eq_true zh3
      obtain ⟨ad254, e254, hx254_0⟩ := Kd.at_bool (Kd.R_reads' HO_45.out).2.2 x47_2 p254 q254
      (try rw [← Nbq30.out] at hx254_0)
      cases e254
      replace p254 := eq_true p254
      replace q254 := eq_true q254
      go_wp2_with (first | ((with_reducible refine gate_builtin (b := .append) (xs := #[.tmp 53, .tmp 55]) rfl ?_); at_builtin; refine Kd.R_append (Kd.int .i64) (w0 := w) w.heap.size rfl (.tmp 53) (.tmp 55) 22 3 (.int .i64 0) 8 rfl Try.underlying22 info3 rfl (by decide) (by omega) u10 x10_2 x47_2 [.int .i64 x47_2] (fun _ => True) (fun _ => False) rfl rfl ?aP (fun _ hk => hk.elim) ?aF ?aO ?aB ?aS ?aL ?_; (case aP => exact rfl); (case aB => exact zh1); (case aF => exact (fun _ _ => trivial)); (case aO => exact zh4); (case aS => exact (below_size zh1)); (case aL => have := LMc32.out; omega); intro v256 w33 ho hb hg hat; rw [← Ny255.out] at ho; have n0_ := Aside0.mk (Kd.R_over' zh6 (Kd.R_typed zh4) (by decide) hg); have n1_ := Aside0.mk (blk_grown (g := gb0) (o := .cells #[.int .i64 a0_0, .int .i64 a0_1, .slice A0_2 l0_2.length c0_2, .int .i64 a0_3, .int .i64 a0_4, .slice A0_5 l0_5.length c0_5, .slice A0_6 l0_6.length c0_6] 60 (0, 0)) zh2 hg (Kd.R_ne HO_10.out BK0.out (by decide))); have n2_ := Aside0.mk (hb); have n3_ := Aside0.mk (ho); clear HO_45; clear BK0; clear HB; clear HO_10; have HO_45 := n0_; have BK0 := n1_; have HB := n2_; have HO257 := n3_; clear n0_ n1_ n2_ n3_; clear ho hb hg hat))
      go_roundg k2
      case measure => have := HK1.out; have := HK2.out; omega
      case rel => exact ⟨(y255), (wrap64 (x47_2 + 1)), zh5, H', ⟨by have := HK1.out; have := HK2.out; omega⟩, ⟨by (with_reducible repeat (first | apply Kd.R_alloc | apply Kd.R_drewN | apply Kd.R_drew)); exact HO257.out⟩, ⟨zh6⟩, ⟨zh2⟩, ⟨zh1⟩⟩
   rw [if_pos c8] at H
   have c8b0 : decide (x21_1 < (l1.length : Int)) = true := decide_eq_true c8
   clear c8
   by_cases c9 : 0 ≤ x21_1
   rotate_left
   ·rw [if_neg c9] at H
    exact absurd H (by simp)
   rw [if_pos c9] at H
   have c9b0 : decide (0 ≤ x21_1) = true := decide_eq_true c9
   clear c9
   by_cases c10 : x21_1 < (l1.length : Int)
   rotate_left
   ·rw [if_neg c10] at H
    exact absurd H (by simp)
   rw [if_pos c10] at H
   have c10b0 : decide (x21_1 < (l1.length : Int)) = true := decide_eq_true c10
   clear c10
   by_cases c11 : 0 ≤ (rd l1 x21_1)
   rotate_left
   ·rw [if_neg c11] at H
    exact absurd H (by simp)
   rw [if_pos c11] at H
   have c11b0 : decide (0 ≤ (rd l1 x21_1)) = true := decide_eq_true c11
   clear c11
   by_cases c12 : (rd l1 x21_1) < (x5_1.length : Int)
   rotate_left
   ·rw [if_neg c12] at H
    exact absurd H (by simp)
   rw [if_pos c12] at H
   have c12b0 : decide ((rd l1 x21_1) < (x5_1.length : Int)) = true := decide_eq_true c12
   clear c12
   obtain ⟨y250, hy250⟩ : ∃ y_ : List Bool, y_ = (x5_1.set ((rd l1 x21_1) : Int).toNat true) := ⟨_, rfl⟩
   replace H : (if (rd l1 x21_1) < (l0_6.length : Int) then (impl_graph_guarded.l1 k1 y250 l1 (l1.length : Int) x21_1 (rd_L1 l0_6 (rd l1 x21_1)) ((rd_L1 l0_6 (rd l1 x21_1)).length : Int) 0 a0_0 a0_1 l0_2 a0_3 a0_4 l0_5 l0_6) else (none)) = some r := by first | (rw [hy250]; with_reducible exact H) | (have H2_ := (Option.bind_some _ _).symm.trans H; rw [hy250]; with_reducible exact H2_) | (have H2_ := (Option.bind_some _ _).symm.trans H; with_reducible exact H2_) | with_reducible exact H | (rw [hy250]; exact H) | exact H
   have Ny250 := Aside0.mk hy250
   clear hy250
   by_cases c14 : (rd l1 x21_1) < (l0_6.length : Int)
   rotate_left
   ·rw [if_neg c14] at H
    exact absurd H (by simp)
   rw [if_pos c14] at H
   have c14b0 : decide ((rd l1 x21_1) < (l0_6.length : Int)) = true := decide_eq_true c14
   clear c14
   have H' := Aside0.mk H
   clear H
   have p249 : 0 ≤ (x21_1 : Int) := of_decide_eq_true zh3
   have q249 : x21_1 < (l1.length : Int) := of_decide_eq_true zh3
   obtain ⟨ad249, e249, hx249_0⟩ := Kd.at_int HR1.out x21_1 p249 q249
   cases e249
   (first | replace hx249_0 := (HB.out.cell (World.block_lt_of_cell? w _ hx249_0)).trans hx249_0 | skip)
   replace p249 := eq_true p249
   replace q249 := eq_true q249
   have p13 : 0 ≤ ((rd l1 x21_1) : Int) := of_decide_eq_true zh3
   have q13 : ((rd l1 x21_1) : Int) < ((x5_1.length : Int) : Int) := of_decide_eq_true zh3
   obtain ⟨go13, co13, eo13, gb13, gl13, cl13, HG13⟩ := Kd.R_form HO_5.out (by omega)
   (first | cases eo13 | (injection eo13 with ea_ en_ ec_; (first | subst ea_ | (injection ea_ with ea_; subst ea_)); subst ec_; clear en_))
   have GB13 := Aside0.mk gb13
   have GG13 := Aside0.mk HG13
   clear gb13 gl13 HG13
   obtain ⟨hx13_0, hf13_0⟩ := Kd.R_celln false HO_5.out ((rd l1 x21_1) : Int) p13 q13
   replace p13 := eq_true p13
   replace q13 := eq_true q13
   have HP15 := Kd.R_putg HO_5.out ((rd l1 x21_1) : Int) true
   go_wp2_with (first | ((with_reducible refine gate_store (t := 4) (p := 27) rfl ?_); refine store_event (t := 4) (p := 27) (v := ?vo_w16) (w1 := (wr.setCell ⟨go13, ((rd l1 x21_1) : Int).toNat, none⟩ (.bool true))) ?hg ?ho ?hn ?hr ?_; (case ho => rfl); (case hg => rfl); (case hn => rfl); (case hr => first | (go_simp; done) | (go_simp; rfl)); intro w16 hw; have hg : wr.grownBy w16 (some go13) := (by rw [hw]; exact HP15.2); have hp_ : Kd.R Kd.bool 4 w16 w.heap.size (fun _ => True) (.slice (some ⟨go13, 0, none⟩) x5_1.length co13) y250 := (by rw [hw, Ny250.out]; exact HP15.1); clear HP15; have n0_ := Aside0.mk (hp_); have n1_ := Aside0.mk (blk_grown (g := gb0) (o := .cells #[.int .i64 a0_0, .int .i64 a0_1, .slice A0_2 l0_2.length c0_2, .int .i64 a0_3, .int .i64 a0_4, .slice A0_5 l0_5.length c0_5, .slice A0_6 l0_6.length c0_6] 60 (0, 0)) zh2 hg (Kd.R_ne HO_5.out BK0.out (by decide))); have n2_ := Aside0.mk ((by rw [hw]; exact below_set (HB.out) GB13.out : Below w.heap.size w w16)); clear HO_5; clear BK0; clear HB; have HO_5 := n0_; have BK0 := n1_; have HB := n2_; clear n0_ n1_ n2_; clear hg hw hp_; have hcz17_0 : w16.cell? ⟨gb0, 0, none⟩ = some (.int .i64 a0_0) := (blk_cell BK0.out 0).trans rfl; have hcz17_1 : w16.cell? ⟨gb0, 1, none⟩ = some (.int .i64 a0_1) := (blk_cell BK0.out 1).trans rfl; have hcz17_2 : w16.cell? ⟨gb0, 2, none⟩ = some (.slice A0_2 l0_2.length c0_2) := (blk_cell BK0.out 2).trans rfl; have hcz17_3 : w16.cell? ⟨gb0, 3, none⟩ = some (.int .i64 a0_3) := (blk_cell BK0.out 3).trans rfl; have hcz17_4 : w16.cell? ⟨gb0, 4, none⟩ = some (.int .i64 a0_4) := (blk_cell BK0.out 4).trans rfl; have hcz17_5 : w16.cell? ⟨gb0, 5, none⟩ = some (.slice A0_5 l0_5.length c0_5) := (blk_cell BK0.out 5).trans rfl; have hcz17_6 : w16.cell? ⟨gb0, 6, none⟩ = some (.slice A0_6 l0_6.length c0_6) := (blk_cell BK0.out 6).trans rfl; have hfz17_0 := blk_frozen BK0.out 0; have hfz17_1 := blk_frozen BK0.out 1; have hfz17_2 := blk_frozen BK0.out 2; have hfz17_3 := blk_frozen BK0.out 3; have hfz17_4 := blk_frozen BK0.out 4; have hfz17_5 := blk_frozen BK0.out 5; have hfz17_6 := blk_frozen BK0.out 6; have p251 : 0 ≤ ((rd l1 x21_1) : Int) := of_decide_eq_true zh3; have q251 : (rd l1 x21_1) < (l0_6.length : Int) := of_decide_eq_true zh3; obtain ⟨ad251, A251_0, c251_0, e251, hx251_0, hl251_0, hi251_0⟩ := at_L1 HR0_6.out (rd l1 x21_1) p251 q251; cases e251; (first | replace hx251_0 := (HB.out.cell (World.block_lt_of_cell? w _ hx251_0)).trans hx251_0 | skip); have HR251_0 := Aside0.mk hi251_0; have HC251_0 := Aside0.mk hl251_0; clear hi251_0 hl251_0; replace p251 := eq_true p251; replace q251 := eq_true q251))
   go_loopg [36] k1 (fun kq v36 w' => ∃ (x5_2 : List Bool) (x36_2 : Int), v36 = .int .i64 x36_2 ∧ Aside0 (impl_graph_guarded.l1 kq x5_2 l1 (l1.length : Int) x21_1 (rd_L1 l0_6 (rd l1 x21_1)) ((rd_L1 l0_6 (rd l1 x21_1)).length : Int) x36_2 a0_0 a0_1 l0_2 a0_3 a0_4 l0_5 l0_6 = some r) ∧ Aside0 (kq ≤ k1) ∧ Aside0 (Kd.R Kd.bool 4 w' w.heap.size (fun _ => True) (.slice (some ⟨go13, 0, none⟩) x5_1.length co13) x5_2) ∧ Aside0 (w'.heap[gb0]? = some (.cells #[.int .i64 a0_0, .int .i64 a0_1, (.slice A0_2 l0_2.length c0_2), .int .i64 a0_3, .int .i64 a0_4, (.slice A0_5 l0_5.length c0_5), (.slice (some ad251) l0_6.length c0_6)] 60 (0, 0))) ∧ Aside0 (Below w.heap.size w w'))
   case atStart => exact ⟨(y250), (0), zh5, H', ⟨Nat.le_refl _⟩, ⟨by (with_reducible repeat (first | apply Kd.R_alloc | apply Kd.R_drewN | apply Kd.R_drew)); exact HO_5.out⟩, ⟨zh2⟩, ⟨zh1⟩⟩
   case round =>
    clear H'
    try clear c1; try clear p1; try clear q1; try clear hx1; try clear c2; try clear p2; try clear q2; try clear hx2; try clear c3; try clear c3b0; try clear c3b1; try clear c4; try clear c4b0; try clear c4b1; try clear c5; try clear c8; try clear c8b0; try clear c9; try clear c9b0; try clear c10; try clear c10b0; try clear c11; try clear c11b0; try clear c12; try clear c12b0; try clear p13; try clear q13; try clear hx13; try clear hf13; try clear c14; try clear c14b0; try clear hcz17_0; try clear hcz17_1; try clear hcz17_2; try clear hcz17_3; try clear hcz17_4; try clear hcz17_5; try clear hcz17_6
    try clear hcz5_0; try clear hcz5_1; try clear hcz5_2; try clear hcz5_3; try clear hcz5_4; try clear hcz5_5; try clear hcz5_6; try clear hfz17_0; try clear hfz17_1; try clear hfz17_2; try clear hfz17_3; try clear hfz17_4; try clear hfz17_5; try clear hfz17_6; try clear hfz5_0; try clear hfz5_1; try clear hfz5_2; try clear hfz5_3; try clear hfz5_4; try clear hfz5_5; try clear hfz5_6; try clear hx13_0; try clear hx249_0; try clear hx251_0; try clear p13; try clear p2; try clear p249; try clear p251; try clear q13; try clear q249; try clear q251
    obtain ⟨x5_2, x36_2, rfl, HA, HK2, HO_5, BK0, HB⟩ := hrel
    have hl5_2 := (Kd.R_reads' HO_5.out).1
    rw [hl5_2] at HO_5
    (try simp only [hl5_2])
    (try simp only [hl5_2] at BK0)
    cases gk with
    | zero => exact absurd HA.out (by simp [impl_graph_guarded.l1])
    | succ k2 =>
     have H := HA.out
     clear HA
     simp only [impl_graph_guarded.l1] at H
     by_cases c18 : x36_2 < ((rd_L1 l0_6 (rd l1 x21_1)).length : Int)
     rotate_left
     ·rw [if_neg c18] at H
      have c18b0 : decide (x36_2 < ((rd_L1 l0_6 (rd l1 x21_1)).length : Int)) = false := decide_eq_false c18
      have c18b8 := c18b0
      (try simp only [hl5_2] at c18b8)
      clear c18
      have H' := Aside0.mk H
      clear H
      go_wp2
      (try simp only [← hl5_2])
      go_roundg k2
      case measure => have := HK1.out; have := HK2.out; omega
      case rel => exact ⟨(x5_2), (wrap64 (x21_1 + 1)), zh5, H', ⟨by have := HK1.out; have := HK2.out; omega⟩, ⟨zh8⟩, ⟨zh7⟩, ⟨zh1⟩⟩
     rw [if_pos c18] at H
     have c18b0 : decide (x36_2 < ((rd_L1 l0_6 (rd l1 x21_1)).length : Int)) = true := decide_eq_true c18
     have c18b8 := c18b0
     (try simp only [hl5_2] at c18b8)
     clear c18
     by_cases c19 : 0 ≤ x36_2
     rotate_left
     ·rw [if_neg c19] at H
      exact absurd H (by simp)
     rw [if_pos c19] at H
     have c19b0 : decide (0 ≤ x36_2) = true := decide_eq_true c19
     clear c19
     by_cases c20 : x36_2 < ((rd_L1 l0_6 (rd l1 x21_1)).length : Int)
     rotate_left
     ·rw [if_neg c20] at H
      exact absurd H (by simp)
     rw [if_pos c20] at H
     have c20b0 : decide (x36_2 < ((rd_L1 l0_6 (rd l1 x21_1)).length : Int)) = true := decide_eq_true c20
     have c20b8 := c20b0
     (try simp only [hl5_2] at c20b8)
     clear c20
     by_cases c21 : 0 ≤ (rd (rd_L1 l0_6 (rd l1 x21_1)) x36_2)
     rotate_left
     ·rw [if_neg c21] at H
      exact absurd H (by simp)
     rw [if_pos c21] at H
     have c21b0 : decide (0 ≤ (rd (rd_L1 l0_6 (rd l1 x21_1)) x36_2)) = true := decide_eq_true c21
     clear c21
     by_cases c22 : (rd (rd_L1 l0_6 (rd l1 x21_1)) x36_2) < (x5_2.length : Int)
     rotate_left
     ·rw [if_neg c22] at H
      exact absurd H (by simp)
     rw [if_pos c22] at H
     have c22b0 : decide ((rd (rd_L1 l0_6 (rd l1 x21_1)) x36_2) < (x5_2.length : Int)) = true := decide_eq_true c22
     have c22b8 := c22b0
     (try simp only [hl5_2] at c22b8)
     clear c22
     obtain ⟨y253, hy253⟩ : ∃ y_ : List Bool, y_ = (x5_2.set ((rd (rd_L1 l0_6 (rd l1 x21_1)) x36_2) : Int).toNat true) := ⟨_, rfl⟩
     replace H : (impl_graph_guarded.l1 k2 y253 l1 (l1.length : Int) x21_1 (rd_L1 l0_6 (rd l1 x21_1)) ((rd_L1 l0_6 (rd l1 x21_1)).length : Int) (wrap64 (x36_2 + 1)) a0_0 a0_1 l0_2 a0_3 a0_4 l0_5 l0_6) = some r := by first | (rw [hy253]; with_reducible exact H) | (have H2_ := (Option.bind_some _ _).symm.trans H; rw [hy253]; with_reducible exact H2_) | (have H2_ := (Option.bind_some _ _).symm.trans H; with_reducible exact H2_) | with_reducible exact H | (rw [hy253]; exact H) | exact H
     have Ny253 := Aside0.mk hy253
     clear hy253
     have H' := Aside0.mk H
     clear H
     have p252 : 0 ≤ (x36_2 : Int) := of_decide_eq_true zh3
     have q252 : x36_2 < ((rd_L1 l0_6 (rd l1 x21_1)).length : Int) := of_decide_eq_true zh3
     obtain ⟨ad252, e252, hx252_0⟩ := Kd.at_int HR251_0.out x36_2 p252 q252
     cases e252
     (first | replace hx252_0 := (HB.out.cell (World.block_lt_of_cell? w _ hx252_0)).trans hx252_0 | skip)
     replace p252 := eq_true p252
     replace q252 := eq_true q252
     have p23 : 0 ≤ ((rd (rd_L1 l0_6 (rd l1 x21_1)) x36_2) : Int) := of_decide_eq_true zh3
     have q23 : ((rd (rd_L1 l0_6 (rd l1 x21_1)) x36_2) : Int) < ((x5_2.length : Int) : Int) := of_decide_eq_true zh3
     obtain ⟨hx23_0, hf23_0⟩ := Kd.R_celln false HO_5.out ((rd (rd_L1 l0_6 (rd l1 x21_1)) x36_2) : Int) p23 q23
     replace p23 := eq_true p23
     replace q23 := eq_true q23
     have HP24 := Kd.R_putg HO_5.out ((rd (rd_L1 l0_6 (rd l1 x21_1)) x36_2) : Int) true
     go_wp2_with (first | ((with_reducible refine gate_store (t := 4) (p := 42) rfl ?_); refine store_event (t := 4) (p := 42) (v := ?vo_w25) (w1 := (wr.setCell ⟨go13, ((rd (rd_L1 l0_6 (rd l1 x21_1)) x36_2) : Int).toNat, none⟩ (.bool true))) ?hg ?ho ?hn ?hr ?_; (case ho => rfl); (case hg => rfl); (case hn => rfl); (case hr => first | (go_simp; done) | (go_simp; rfl)); intro w25 hw; have hg : wr.grownBy w25 (some go13) := (by rw [hw]; exact HP24.2); have hp_ : Kd.R Kd.bool 4 w25 w.heap.size (fun _ => True) (.slice (some ⟨go13, 0, none⟩) x5_2.length co13) y253 := (by rw [hw, Ny253.out]; exact HP24.1); clear HP24; have n0_ := Aside0.mk (hp_); have n1_ := Aside0.mk (blk_grown (g := gb0) (o := .cells #[.int .i64 a0_0, .int .i64 a0_1, .slice A0_2 l0_2.length c0_2, .int .i64 a0_3, .int .i64 a0_4, .slice A0_5 l0_5.length c0_5, .slice (some ad251) l0_6.length c0_6] 60 (0, 0)) zh2 hg (Kd.R_ne HO_5.out BK0.out (by decide))); have n2_ := Aside0.mk ((by rw [hw]; exact below_set (HB.out) GB13.out : Below w.heap.size w w25)); clear HO_5; clear BK0; clear HB; have HO_5 := n0_; have BK0 := n1_; have HB := n2_; clear n0_ n1_ n2_; clear hg hw hp_))
     (try simp only [← hl5_2])
     go_roundg k2
     case measure => have := HK1.out; have := HK2.out; omega
     case rel => exact ⟨(y253), (wrap64 (x36_2 + 1)), zh5, H', ⟨by have := HK1.out; have := HK2.out; omega⟩, ⟨zh8⟩, ⟨zh7⟩, ⟨zh1⟩⟩

end Go.Proofs.Ythoklbeenjppbaa.Q

/- Written by a program of this session: functions of the translation as plain Lean functions, each with a proof that the call does what the plain function says; the conditions stand in each theorem. -/
import Derived.Test.YtemaokhlolimhaaQ0
import Derived.Test.YtemaokhlolimhaaQ10
import Derived.Test.YtemaokhlolimhaaQ12
namespace Go.Proofs.Ytemaokhlolimhaa.Q
open Go.RowKit Go.Proofs.YtemaokhlolimhaaW.PrintWords Go.Proofs.YtemaokhlolimhaaW.PrintLast Go.Proofs.YtemaokhlolimhaaW.PrintMore
attribute [local go_sem] max2_int min2_int max_two min_two max_three min_three max_four min_four   -- for this text's walks alone
set_option linter.unusedVariables false
set_option linter.unusedSimpArgs false

theorem zu1 {p : Prop} (h : p := by repeat (first | (with_reducible first | exact HB.out | apply below_alloc | apply pw_below_drewN | apply below_drew1 | refine below_set ?_ GE0.out) | exact HB.out)) : p := h
theorem zu2 {p : Prop} (h : p := by first | exact BK0.out | ((with_reducible repeat (first | refine blk_drewN ?_ _ | refine blk_drew ?_ | refine blk_alloc ?_ _)); exact BK0.out)) : p := h
theorem zu3 {p : Prop} (h : p := by repeat (first | exact (Kd.C_below HR0_2.out HB.out) | (with_reducible refine Kd.C_alloc ?_ _) | (with_reducible refine Kd.C_drewN ?_ _) | (with_reducible refine Kd.C_drew ?_))) : p := h
theorem zu4 {p : Prop} (h : p := by first | (with_reducible assumption) | assumption) : p := h
theorem zu5 {p : Prop} (h : p := by (try simp only [List.map_toArray, List.map_cons, List.map_nil]); first | done | rfl | (simp only [List.length_drop, List.length_take]; rfl)) : p := h
theorem zu6 {p : Prop} (h : p := by first | rfl | (simp [errW_none, errW_some] <;> rfl) | (simp [*, errW_none, errW_some] <;> rfl)) : p := h
theorem zu7 {p : Prop} (h : p := by first | rfl | (simp; done) | (simp [*]; done)) : p := h
theorem zu8 {p : Prop} (h : p := by repeat (first | exact (Kd.C_below HR0_6.out HB.out) | (with_reducible refine Kd.C_alloc ?_ _) | (with_reducible refine Kd.C_drewN ?_ _) | (with_reducible refine Kd.C_drew ?_))) : p := h
theorem zu9 {p : Prop} (h : p := by repeat (first | exact (Kd.C_below HR0_5.out HB.out) | (with_reducible refine Kd.C_alloc ?_ _) | (with_reducible refine Kd.C_drewN ?_ _) | (with_reducible refine Kd.C_drew ?_))) : p := h
/-! ### impl_graph_isPath: function 49 -/
mutual
def impl_graph_isPath.j0 : Nat → List Int → Bool → Int → Int → List Int → Int → Int → List Int → List (List Int) → Option (Bool)
 | 0, _, _, _, _, _, _, _, _, _ => none
 | k + 1, x1, x14, x1000, x1001, x1002, x1003, x1004, x1005, x1006 => if x14 = true then (some false) else (impl_graph_isPath.l0 k x1 x1 (x1.length : Int) 0 x1000 x1001 x1002 x1003 x1004 x1005 x1006)
def impl_graph_isPath.l0 : Nat → List Int → List Int → Int → Int → Int → Int → List Int → Int → Int → List Int → List (List Int) → Option (Bool)
 | 0, _, _, _, _, _, _, _, _, _, _, _ => none
 | k + 1, x1, x15, x16, x17, x1000, x1001, x1002, x1003, x1004, x1005, x1006 => if x17 < x16 then (if 0 ≤ x17 then (if x17 < (x15.length : Int) then ((impl_Board_has.f k x1000 x1001 x1002 (rd x15 x17)).bind fun t375 => (if t375 = true then (if x17 > 0 then (if 0 ≤ (wrap64 (x17 - 1)) then (if (wrap64 (x17 - 1)) < (x1.length : Int) then ((impl_graph_leaps.f k x1000 x1001 x1002 x1003 x1004 x1005 x1006 (rd x1 (wrap64 (x17 - 1))) (rd x15 x17)).bind fun t377 => (if t377 = true then (impl_graph_isPath.l0 k x1 x15 x16 (wrap64 (x17 + 1)) x1000 x1001 x1002 x1003 x1004 x1005 x1006) else (some false))) else (none)) else (none)) else (impl_graph_isPath.l0 k x1 x15 x16 (wrap64 (x17 + 1)) x1000 x1001 x1002 x1003 x1004 x1005 x1006)) else (some false))) else (none)) else (none)) else (some true)
end
def impl_graph_isPath.f (k : Nat) (a0_0 : Int) (a0_1 : Int) (l0_2 : List Int) (a0_3 : Int) (a0_4 : Int) (l0_5 : List Int) (l0_6 : List (List Int)) (l1 : List Int) : Option (Bool) := if (l1.length : Int) < 1 then (impl_graph_isPath.j0 k l1 true a0_0 a0_1 l0_2 a0_3 a0_4 l0_5 l0_6) else (impl_graph_isPath.j0 k l1 (decide ((l1.length : Int) > 64)) a0_0 a0_1 l0_2 a0_3 a0_4 l0_5 l0_6)
set_option maxHeartbeats 8000000 in
set_option maxRecDepth 100000 in
theorem impl_graph_isPath.calls (k : Nat) (gb0 : Nat) (a0_0 : Int) (a0_1 : Int) (A0_2 : Option Addr) (c0_2 : Nat) (l0_2 : List Int) (a0_3 : Int) (a0_4 : Int) (A0_5 : Option Addr) (c0_5 : Nat) (l0_5 : List Int) (A0_6 : Option Addr) (c0_6 : Nat) (l0_6 : List (List Int)) (A1 : Option Addr) (c1 : Nat) (l1 : List Int) (r : Bool) (w : World) (hg0 : w.heap[gb0]? = some (.cells #[.int .i64 a0_0, .int .i64 a0_1, .slice A0_2 l0_2.length c0_2, .int .i64 a0_3, .int .i64 a0_4, .slice A0_5 l0_5.length c0_5, .slice A0_6 l0_6.length c0_6] 59 (0, 0))) (hr0_2 : Kd.C (Kd.int .i64) w A0_2 l0_2.length l0_2) (hc0_2 : l0_2.length ≤ c0_2) (hr0_5 : Kd.C (Kd.int .i64) w A0_5 l0_5.length l0_5) (hc0_5 : l0_5.length ≤ c0_5) (hr0_6 : Kd.C (Kd.slice 3 (Kd.int .i64)) w A0_6 l0_6.length l0_6) (hc0_6 : l0_6.length ≤ c0_6) (hr1 : Kd.C (Kd.int .i64) w A1 l1.length l1) (hc1 : l1.length ≤ c1) (h : impl_graph_isPath.f k a0_0 a0_1 l0_2 a0_3 a0_4 l0_5 l0_6 l1 = some r) :
  Calls Try.prog 49 #[.pointer (some ⟨gb0, 0, none⟩), .slice A1 l1.length c1] w fun e w' => e = .returned (.bool r) ∧ Below w.heap.size w w' := by
 have hu31 := Try.underlying31
 have HR0_2 := Aside0.mk hr0_2
 have HC0_2 := Aside0.mk hc0_2
 clear hr0_2 hc0_2
 have HR0_5 := Aside0.mk hr0_5
 have HC0_5 := Aside0.mk hc0_5
 clear hr0_5 hc0_5
 have HR0_6 := Aside0.mk hr0_6
 have HC0_6 := Aside0.mk hc0_6
 clear hr0_6 hc0_6
 have HR1 := Aside0.mk hr1
 have HC1 := Aside0.mk hc1
 clear hr1 hc1
 have BK0 := Aside0.mk hg0
 clear hg0
 have HB := Aside0.mk (Below.refl w.heap.size w)
 have H : (if (l1.length : Int) < 1 then (impl_graph_isPath.j0 k l1 true a0_0 a0_1 l0_2 a0_3 a0_4 l0_5 l0_6) else (impl_graph_isPath.j0 k l1 (decide ((l1.length : Int) > 64)) a0_0 a0_1 l0_2 a0_3 a0_4 l0_5 l0_6)) = some r := h
 clear h
 have HC3 := Aside0.mk H
 clear H
 go_enter Try.func49, Try.ntmps49
 go_upto_region 1 with (fail)
 go_cut [14] (fun v14 wc => ∃ (kq : Nat) (x14_2 : Bool), v14 = .bool x14_2 ∧ Aside0 (impl_graph_isPath.j0 kq l1 x14_2 a0_0 a0_1 l0_2 a0_3 a0_4 l0_5 l0_6 = some r) ∧ Aside0 (kq ≤ k) ∧ Aside0 (wc.heap[gb0]? = some (.cells #[.int .i64 a0_0, .int .i64 a0_1, (.slice A0_2 l0_2.length c0_2), .int .i64 a0_3, .int .i64 a0_4, (.slice A0_5 l0_5.length c0_5), (.slice A0_6 l0_6.length c0_6)] 59 (0, 0))) ∧ Aside0 (Below w.heap.size w wc))
 case first =>
  have H := HC3.out
  clear HC3
  by_cases c4 : (l1.length : Int) < 1
  ·rw [if_pos c4] at H
   have c4b0 : decide ((l1.length : Int) < 1) = true := decide_eq_true c4
   have c4b1 : decide (l1.length < 1) = true := decide_eq_true (by omega)
   clear c4
   (first | rw [c4b0] | (simp only [i64_w, i32_w]; rw [c4b0]) | skip)
   have H' := Aside0.mk H
   clear H
   go_wp2
   go_meet
   case rel => exact ⟨_, (true), zu7, H', ⟨by first | omega | exact Nat.le_refl _⟩, ⟨zu2⟩, ⟨zu1⟩⟩
  rw [if_neg c4] at H
  have c4b0 : decide ((l1.length : Int) < 1) = false := decide_eq_false c4
  have c4b1 : decide (l1.length < 1) = false := decide_eq_false (by omega)
  clear c4
  (first | rw [c4b0] | (simp only [i64_w, i32_w]; rw [c4b0]) | skip)
  have H' := Aside0.mk H
  clear H
  go_wp2
  go_meet
  case rel => exact ⟨_, (decide ((l1.length : Int) > 64)), zu7, H', ⟨by first | omega | exact Nat.le_refl _⟩, ⟨zu2⟩, ⟨zu1⟩⟩
 case rest =>
  clear HC3
  try clear c1; try clear p2; try clear c4; try clear c4b0; try clear c4b1
  obtain ⟨kq, x14_2, rfl, HA, HJ2, BK0, HB⟩ := hcut
  cases kq with
  | zero => exact absurd HA.out (by simp [impl_graph_isPath.j0])
  | succ kj2 =>
   have H := HA.out
   clear HA
   simp only [impl_graph_isPath.j0] at H
   by_cases c5 : x14_2 = true
   ·subst c5
    have H1 : (some false) = some r := by rw [if_pos rfl] at H; exact H
    clear H
    have H := H1
    clear H1
    obtain rfl := Option.some.inj H
    go_wp2
    go_ret
    exact ⟨zu6, zu1⟩
   replace c5 := Bool.eq_false_iff.mpr c5
   subst c5
   have H1 : (impl_graph_isPath.l0 kj2 l1 l1 (l1.length : Int) 0 a0_0 a0_1 l0_2 a0_3 a0_4 l0_5 l0_6) = some r := by rw [if_neg (show ¬ (false = true) by decide)] at H; exact H
   clear H
   have H := H1
   clear H1
   have H' := Aside0.mk H
   clear H
   go_wp2
   go_loopg [17] kj2 (fun kq v17 w' => ∃ (x17_2 : Int), v17 = .int .i64 x17_2 ∧ Aside0 (impl_graph_isPath.l0 kq l1 l1 (l1.length : Int) x17_2 a0_0 a0_1 l0_2 a0_3 a0_4 l0_5 l0_6 = some r) ∧ Aside0 (kq ≤ kj2) ∧ Aside0 (w'.heap[gb0]? = some (.cells #[.int .i64 a0_0, .int .i64 a0_1, (.slice A0_2 l0_2.length c0_2), .int .i64 a0_3, .int .i64 a0_4, (.slice A0_5 l0_5.length c0_5), (.slice A0_6 l0_6.length c0_6)] 59 (0, 0))) ∧ Aside0 (Below w.heap.size w w'))
   case atStart => exact ⟨(0), zu7, H', ⟨Nat.le_refl _⟩, ⟨zu2⟩, ⟨zu1⟩⟩
   case round =>
    clear H'
    try clear c1; try clear p2; try clear c4; try clear c4b0; try clear c4b1; try clear c5; try clear p2
    obtain ⟨x17_2, rfl, HA, HK2, BK0, HB⟩ := hrel
    cases gk with
    | zero => exact absurd HA.out (by simp [impl_graph_isPath.l0])
    | succ k2 =>
     have H := HA.out
     clear HA
     simp only [impl_graph_isPath.l0] at H
     by_cases c6 : x17_2 < (l1.length : Int)
     rotate_left
     ·rw [if_neg c6] at H
      have c6b0 : decide (x17_2 < (l1.length : Int)) = false := decide_eq_false c6
      clear c6
      obtain rfl := Option.some.inj H
      go_wp2
      go_ret
      exact ⟨zu6, zu1⟩
     rw [if_pos c6] at H
     have c6b0 : decide (x17_2 < (l1.length : Int)) = true := decide_eq_true c6
     clear c6
     by_cases c7 : 0 ≤ x17_2
     rotate_left
     ·rw [if_neg c7] at H
      exact absurd H (by simp)
     rw [if_pos c7] at H
     have c7b0 : decide (0 ≤ x17_2) = true := decide_eq_true c7
     clear c7
     by_cases c8 : x17_2 < (l1.length : Int)
     rotate_left
     ·rw [if_neg c8] at H
      exact absurd H (by simp)
     rw [if_pos c8] at H
     have c8b0 : decide (x17_2 < (l1.length : Int)) = true := decide_eq_true c8
     clear c8
     replace H := Option.bind_eq_some_iff.mp H
     obtain ⟨t375, A90, H⟩ := H
     replace H : (if t375 = true then (if x17_2 > 0 then (if 0 ≤ (wrap64 (x17_2 - 1)) then (if (wrap64 (x17_2 - 1)) < (l1.length : Int) then ((impl_graph_leaps.f k2 a0_0 a0_1 l0_2 a0_3 a0_4 l0_5 l0_6 (rd l1 (wrap64 (x17_2 - 1))) (rd l1 x17_2)).bind fun t377 => (if t377 = true then (impl_graph_isPath.l0 k2 l1 l1 (l1.length : Int) (wrap64 (x17_2 + 1)) a0_0 a0_1 l0_2 a0_3 a0_4 l0_5 l0_6) else (some false))) else (none)) else (none)) else (impl_graph_isPath.l0 k2 l1 l1 (l1.length : Int) (wrap64 (x17_2 + 1)) a0_0 a0_1 l0_2 a0_3 a0_4 l0_5 l0_6)) else (some false)) = some r := H
     have A9 := Aside0.mk A90
     clear A90
     by_cases c10 : t375 = true
     rotate_left
     ·replace c10 := Bool.eq_false_iff.mpr c10
      subst c10
      have H1 : (some false) = some r := by rw [if_neg (show ¬ (false = true) by decide)] at H; exact H
      clear H
      have H := H1
      clear H1
      obtain rfl := Option.some.inj H
      have p374 : 0 ≤ (x17_2 : Int) := of_decide_eq_true zu4
      have q374 : x17_2 < (l1.length : Int) := of_decide_eq_true zu4
      obtain ⟨ad374, e374, hx374_0⟩ := Kd.at_int HR1.out x17_2 p374 q374
      cases e374
      (first | replace hx374_0 := (HB.out.cell (World.block_lt_of_cell? w _ hx374_0)).trans hx374_0 | skip)
      replace p374 := eq_true p374
      replace q374 := eq_true q374
      have hcz23_0 : wr.cell? ⟨gb0, 0, none⟩ = some (.int .i64 a0_0) := (blk_cell BK0.out 0).trans rfl
      have hcz23_1 : wr.cell? ⟨gb0, 1, none⟩ = some (.int .i64 a0_1) := (blk_cell BK0.out 1).trans rfl
      have hcz23_2 : wr.cell? ⟨gb0, 2, none⟩ = some (.slice A0_2 l0_2.length c0_2) := (blk_cell BK0.out 2).trans rfl
      have hcz23_3 : wr.cell? ⟨gb0, 3, none⟩ = some (.int .i64 a0_3) := (blk_cell BK0.out 3).trans rfl
      have hcz23_4 : wr.cell? ⟨gb0, 4, none⟩ = some (.int .i64 a0_4) := (blk_cell BK0.out 4).trans rfl
      have hcz23_5 : wr.cell? ⟨gb0, 5, none⟩ = some (.slice A0_5 l0_5.length c0_5) := (blk_cell BK0.out 5).trans rfl
      have hcz23_6 : wr.cell? ⟨gb0, 6, none⟩ = some (.slice A0_6 l0_6.length c0_6) := (blk_cell BK0.out 6).trans rfl
      have hfz23_0 := blk_frozen BK0.out 0
      have hfz23_1 := blk_frozen BK0.out 1
      have hfz23_2 := blk_frozen BK0.out 2
      have hfz23_3 := blk_frozen BK0.out 3
      have hfz23_4 := blk_frozen BK0.out 4
      have hfz23_5 := blk_frozen BK0.out 5
      have hfz23_6 := blk_frozen BK0.out 6
      go_wp2_with (first | ((with_reducible refine gate_callee (f := 59) rfl ?_); refine goesL_ (some 27) rfl rfl Try.func59 (by kernel_rfl) rfl #[.agg #[.int .i64 a0_0, .int .i64 a0_1, .slice A0_2 l0_2.length c0_2], .int .i64 (rd l1 x17_2)] rfl zu5 ?_; (with_reducible refine (impl_Board_has.calls k2 a0_0 a0_1 _ _ l0_2 (rd l1 x17_2) false _ ?side1 ?side2 A9.out).mono ?_); (case side1 => exact zu3); (case side2 => exact HC0_2.out); rintro e w24 ⟨rfl, hb⟩; refine ⟨_, rfl, ?_⟩; have n0_ := Aside0.mk (blk_below (g := gb0) (o := .cells #[.int .i64 a0_0, .int .i64 a0_1, .slice A0_2 l0_2.length c0_2, .int .i64 a0_3, .int .i64 a0_4, .slice A0_5 l0_5.length c0_5, .slice A0_6 l0_6.length c0_6] 59 (0, 0)) zu2 hb); have n1_ := Aside0.mk (below_step zu1 hb); clear BK0; clear HB; have BK0 := n0_; have HB := n1_; clear n0_ n1_; (try clear hb); (try clear hb2); (try clear hk); (try clear hi); (try clear hna_); (try clear hnb_)))
      go_ret
      exact ⟨zu6, zu1⟩
     subst c10
     have H1 : (if x17_2 > 0 then (if 0 ≤ (wrap64 (x17_2 - 1)) then (if (wrap64 (x17_2 - 1)) < (l1.length : Int) then ((impl_graph_leaps.f k2 a0_0 a0_1 l0_2 a0_3 a0_4 l0_5 l0_6 (rd l1 (wrap64 (x17_2 - 1))) (rd l1 x17_2)).bind fun t377 => (if t377 = true then (impl_graph_isPath.l0 k2 l1 l1 (l1.length : Int) (wrap64 (x17_2 + 1)) a0_0 a0_1 l0_2 a0_3 a0_4 l0_5 l0_6) else (some false))) else (none)) else (none)) else (impl_graph_isPath.l0 k2 l1 l1 (l1.length : Int) (wrap64 (x17_2 + 1)) a0_0 a0_1 l0_2 a0_3 a0_4 l0_5 l0_6)) = some r := by rw [if_pos rfl] at H; exact H
     clear H
     have H := H1
     clear H1
     by_cases c11 : x17_2 > 0
     rotate_left
     ·rw [if_neg c11] at H
      have c11b0 : decide (0 < x17_2) = false := decide_eq_false c11
      clear c11
      have H' := Aside0.mk H
      clear H
      have p374 : 0 ≤ (x17_2 : Int) := of_decide_eq_true zu4
      have q374 : x17_2 < (l1.length : Int) := of_decide_eq_true zu4
      obtain ⟨ad374, e374, hx374_0⟩ := Kd.at_int HR1.out x17_2 p374 q374
      cases e374
      (first | replace hx374_0 := (HB.out.cell (World.block_lt_of_cell? w _ hx374_0)).trans hx374_0 | skip)
      replace p374 := eq_true p374
      replace q374 := eq_true q374
      have hcz21_0 : wr.cell? ⟨gb0, 0, none⟩ = some (.int .i64 a0_0) := (blk_cell BK0.out 0).trans rfl
      have hcz21_1 : wr.cell? ⟨gb0, 1, none⟩ = some (.int .i64 a0_1) := (blk_cell BK0.out 1).trans rfl
      have hcz21_2 : wr.cell? ⟨gb0, 2, none⟩ = some (.slice A0_2 l0_2.length c0_2) := (blk_cell BK0.out 2).trans rfl
      have hcz21_3 : wr.cell? ⟨gb0, 3, none⟩ = some (.int .i64 a0_3) := (blk_cell BK0.out 3).trans rfl
      have hcz21_4 : wr.cell? ⟨gb0, 4, none⟩ = some (.int .i64 a0_4) := (blk_cell BK0.out 4).trans rfl
      have hcz21_5 : wr.cell? ⟨gb0, 5, none⟩ = some (.slice A0_5 l0_5.length c0_5) := (blk_cell BK0.out 5).trans rfl
      have hcz21_6 : wr.cell? ⟨gb0, 6, none⟩ = some (.slice A0_6 l0_6.length c0_6) := (blk_cell BK0.out 6).trans rfl
      have hfz21_0 := blk_frozen BK0.out 0
      have hfz21_1 := blk_frozen BK0.out 1
      have hfz21_2 := blk_frozen BK0.out 2
      have hfz21_3 := blk_frozen BK0.out 3
      have hfz21_4 := blk_frozen BK0.out 4
      have hfz21_5 := blk_frozen BK0.out 5
      have hfz21_6 := blk_frozen BK0.out 6
      go_wp2_with (first | ((with_reducible refine gate_callee (f := 59) rfl ?_); refine goesL_ (some 27) rfl rfl Try.func59 (by kernel_rfl) rfl #[.agg #[.int .i64 a0_0, .int .i64 a0_1, .slice A0_2 l0_2.length c0_2], .int .i64 (rd l1 x17_2)] rfl zu5 ?_; (with_reducible refine (impl_Board_has.calls k2 a0_0 a0_1 _ _ l0_2 (rd l1 x17_2) true _ ?side1 ?side2 A9.out).mono ?_); (case side1 => exact zu3); (case side2 => exact HC0_2.out); rintro e w22 ⟨rfl, hb⟩; refine ⟨_, rfl, ?_⟩; have n0_ := Aside0.mk (blk_below (g := gb0) (o := .cells #[.int .i64 a0_0, .int .i64 a0_1, .slice A0_2 l0_2.length c0_2, .int .i64 a0_3, .int .i64 a0_4, .slice A0_5 l0_5.length c0_5, .slice A0_6 l0_6.length c0_6] 59 (0, 0)) zu2 hb); have n1_ := Aside0.mk (below_step zu1 hb); clear BK0; clear HB; have BK0 := n0_; have HB := n1_; clear n0_ n1_; (try clear hb); (try clear hb2); (try clear hk); (try clear hi); (try clear hna_); (try clear hnb_)))
      go_roundg k2
      case measure => have := HJ2.out; have := HK2.out; omega
      case rel => exact ⟨(wrap64 (x17_2 + 1)), zu7, H', ⟨by have := HJ2.out; have := HK2.out; omega⟩, ⟨zu2⟩, ⟨zu1⟩⟩
     rw [if_pos c11] at H
     have c11b0 : decide (0 < x17_2) = true := decide_eq_true c11
     clear c11
     obtain ⟨ji12, hji12⟩ : ∃ j_ : Int, (wrap64 (x17_2 - 1)) = j_ := ⟨_, rfl⟩
     replace H : (if 0 ≤ (ji12) then (if (ji12) < (l1.length : Int) then ((impl_graph_leaps.f k2 a0_0 a0_1 l0_2 a0_3 a0_4 l0_5 l0_6 (rd l1 (ji12)) (rd l1 x17_2)).bind fun t377 => (if t377 = true then (impl_graph_isPath.l0 k2 l1 l1 (l1.length : Int) (wrap64 (x17_2 + 1)) a0_0 a0_1 l0_2 a0_3 a0_4 l0_5 l0_6) else (some false))) else (none)) else (none)) = some r := by first | (rw [hji12] at H; exact H) | (simp only [hji12] at H ⊢; exact H)
     (try rw [hji12] at A9)
     have hji12w : (IntKind.i64.wrap (x17_2 - 1)) = ji12 := (i64_w _).trans hji12
     by_cases c13 : 0 ≤ (ji12)
     rotate_left
     ·rw [if_neg c13] at H
      exact absurd H (by simp)
     rw [if_pos c13] at H
     have c13b0 : decide (0 ≤ (ji12)) = true := decide_eq_true c13
     clear c13
     by_cases c14 : (ji12) < (l1.length : Int)
     rotate_left
     ·rw [if_neg c14] at H
      exact absurd H (by simp)
     rw [if_pos c14] at H
     have c14b0 : decide ((ji12) < (l1.length : Int)) = true := decide_eq_true c14
     clear c14
     replace H := Option.bind_eq_some_iff.mp H
     obtain ⟨t377, A150, H⟩ := H
     replace H : (if t377 = true then (impl_graph_isPath.l0 k2 l1 l1 (l1.length : Int) (wrap64 (x17_2 + 1)) a0_0 a0_1 l0_2 a0_3 a0_4 l0_5 l0_6) else (some false)) = some r := H
     have A15 := Aside0.mk A150
     clear A150
     by_cases c16 : t377 = true
     rotate_left
     ·replace c16 := Bool.eq_false_iff.mpr c16
      subst c16
      have H1 : (some false) = some r := by rw [if_neg (show ¬ (false = true) by decide)] at H; exact H
      clear H
      have H := H1
      clear H1
      obtain rfl := Option.some.inj H
      have p374 : 0 ≤ (x17_2 : Int) := of_decide_eq_true zu4
      have q374 : x17_2 < (l1.length : Int) := of_decide_eq_true zu4
      obtain ⟨ad374, e374, hx374_0⟩ := Kd.at_int HR1.out x17_2 p374 q374
      cases e374
      (first | replace hx374_0 := (HB.out.cell (World.block_lt_of_cell? w _ hx374_0)).trans hx374_0 | skip)
      replace p374 := eq_true p374
      replace q374 := eq_true q374
      have hcz19_0 : wr.cell? ⟨gb0, 0, none⟩ = some (.int .i64 a0_0) := (blk_cell BK0.out 0).trans rfl
      have hcz19_1 : wr.cell? ⟨gb0, 1, none⟩ = some (.int .i64 a0_1) := (blk_cell BK0.out 1).trans rfl
      have hcz19_2 : wr.cell? ⟨gb0, 2, none⟩ = some (.slice A0_2 l0_2.length c0_2) := (blk_cell BK0.out 2).trans rfl
      have hcz19_3 : wr.cell? ⟨gb0, 3, none⟩ = some (.int .i64 a0_3) := (blk_cell BK0.out 3).trans rfl
      have hcz19_4 : wr.cell? ⟨gb0, 4, none⟩ = some (.int .i64 a0_4) := (blk_cell BK0.out 4).trans rfl
      have hcz19_5 : wr.cell? ⟨gb0, 5, none⟩ = some (.slice A0_5 l0_5.length c0_5) := (blk_cell BK0.out 5).trans rfl
      have hcz19_6 : wr.cell? ⟨gb0, 6, none⟩ = some (.slice A0_6 l0_6.length c0_6) := (blk_cell BK0.out 6).trans rfl
      have hfz19_0 := blk_frozen BK0.out 0
      have hfz19_1 := blk_frozen BK0.out 1
      have hfz19_2 := blk_frozen BK0.out 2
      have hfz19_3 := blk_frozen BK0.out 3
      have hfz19_4 := blk_frozen BK0.out 4
      have hfz19_5 := blk_frozen BK0.out 5
      have hfz19_6 := blk_frozen BK0.out 6
      go_wp2_with (first | ((with_reducible refine gate_callee (f := 59) rfl ?_); refine goesL_ (some 27) rfl rfl Try.func59 (by kernel_rfl) rfl #[.agg #[.int .i64 a0_0, .int .i64 a0_1, .slice A0_2 l0_2.length c0_2], .int .i64 (rd l1 x17_2)] rfl zu5 ?_; (with_reducible refine (impl_Board_has.calls k2 a0_0 a0_1 _ _ l0_2 (rd l1 x17_2) true _ ?side1 ?side2 A9.out).mono ?_); (case side1 => exact zu3); (case side2 => exact HC0_2.out); rintro e w20 ⟨rfl, hb⟩; refine ⟨_, rfl, ?_⟩; have n0_ := Aside0.mk (blk_below (g := gb0) (o := .cells #[.int .i64 a0_0, .int .i64 a0_1, .slice A0_2 l0_2.length c0_2, .int .i64 a0_3, .int .i64 a0_4, .slice A0_5 l0_5.length c0_5, .slice A0_6 l0_6.length c0_6] 59 (0, 0)) zu2 hb); have n1_ := Aside0.mk (below_step zu1 hb); clear BK0; clear HB; have BK0 := n0_; have HB := n1_; clear n0_ n1_; (try clear hb); (try clear hb2); (try clear hk); (try clear hi); (try clear hna_); (try clear hnb_); have p376 : 0 ≤ ((ji12) : Int) := of_decide_eq_true zu4; have q376 : (ji12) < (l1.length : Int) := of_decide_eq_true zu4; obtain ⟨ad376, e376, hx376_0⟩ := Kd.at_int HR1.out (ji12) p376 q376; obtain rfl : ad374 = ad376 := (by injection e376); (first | replace hx376_0 := (HB.out.cell (World.block_lt_of_cell? w _ hx376_0)).trans hx376_0 | skip); replace p376 := eq_true p376; replace q376 := eq_true q376) | (go_at_call 62; (with_reducible refine (impl_graph_leaps.calls k2 gb0 a0_0 a0_1 A0_2 c0_2 l0_2 a0_3 a0_4 A0_5 c0_5 l0_5 A0_6 c0_6 l0_6 (rd l1 (ji12)) (rd l1 x17_2) false _ ?side1 ?side2 ?side3 ?side4 ?side5 ?side6 ?side7 A15.out).mono ?_); (case side1 => exact zu2); (case side2 => exact zu3); (case side3 => exact HC0_2.out); (case side4 => exact zu9); (case side5 => exact HC0_5.out); (case side6 => exact zu8); (case side7 => exact HC0_6.out); rintro e w' ⟨rfl, ⟨nd, rfl⟩⟩))
      go_ret
      exact ⟨by first | rfl | (simp [errW_none, errW_some] <;> rfl) | (simp only [← hji12]; first | rfl | (simp [errW_none, errW_some] <;> rfl)) | (simp [*, errW_none, errW_some] <;> rfl), zu1⟩
     subst c16
     have H1 : (impl_graph_isPath.l0 k2 l1 l1 (l1.length : Int) (wrap64 (x17_2 + 1)) a0_0 a0_1 l0_2 a0_3 a0_4 l0_5 l0_6) = some r := by rw [if_pos rfl] at H; exact H
     clear H
     have H := H1
     clear H1
     have H' := Aside0.mk H
     clear H
     have p374 : 0 ≤ (x17_2 : Int) := of_decide_eq_true zu4
     have q374 : x17_2 < (l1.length : Int) := of_decide_eq_true zu4
     obtain ⟨ad374, e374, hx374_0⟩ := Kd.at_int HR1.out x17_2 p374 q374
     cases e374
     (first | replace hx374_0 := (HB.out.cell (World.block_lt_of_cell? w _ hx374_0)).trans hx374_0 | skip)
     replace p374 := eq_true p374
     replace q374 := eq_true q374
     have hcz17_0 : wr.cell? ⟨gb0, 0, none⟩ = some (.int .i64 a0_0) := (blk_cell BK0.out 0).trans rfl
     have hcz17_1 : wr.cell? ⟨gb0, 1, none⟩ = some (.int .i64 a0_1) := (blk_cell BK0.out 1).trans rfl
     have hcz17_2 : wr.cell? ⟨gb0, 2, none⟩ = some (.slice A0_2 l0_2.length c0_2) := (blk_cell BK0.out 2).trans rfl
     have hcz17_3 : wr.cell? ⟨gb0, 3, none⟩ = some (.int .i64 a0_3) := (blk_cell BK0.out 3).trans rfl
     have hcz17_4 : wr.cell? ⟨gb0, 4, none⟩ = some (.int .i64 a0_4) := (blk_cell BK0.out 4).trans rfl
     have hcz17_5 : wr.cell? ⟨gb0, 5, none⟩ = some (.slice A0_5 l0_5.length c0_5) := (blk_cell BK0.out 5).trans rfl
     have hcz17_6 : wr.cell? ⟨gb0, 6, none⟩ = some (.slice A0_6 l0_6.length c0_6) := (blk_cell BK0.out 6).trans rfl
     have hfz17_0 := blk_frozen BK0.out 0
     have hfz17_1 := blk_frozen BK0.out 1
     have hfz17_2 := blk_frozen BK0.out 2
     have hfz17_3 := blk_frozen BK0.out 3
     have hfz17_4 := blk_frozen BK0.out 4
     have hfz17_5 := blk_frozen BK0.out 5
     have hfz17_6 := blk_frozen BK0.out 6
     go_wp2_with (first | ((with_reducible refine gate_callee (f := 59) rfl ?_); refine goesL_ (some 27) rfl rfl Try.func59 (by kernel_rfl) rfl #[.agg #[.int .i64 a0_0, .int .i64 a0_1, .slice A0_2 l0_2.length c0_2], .int .i64 (rd l1 x17_2)] rfl zu5 ?_; (with_reducible refine (impl_Board_has.calls k2 a0_0 a0_1 _ _ l0_2 (rd l1 x17_2) true _ ?side1 ?side2 A9.out).mono ?_); (case side1 => exact zu3); (case side2 => exact HC0_2.out); rintro e w18 ⟨rfl, hb⟩; refine ⟨_, rfl, ?_⟩; have n0_ := Aside0.mk (blk_below (g := gb0) (o := .cells #[.int .i64 a0_0, .int .i64 a0_1, .slice A0_2 l0_2.length c0_2, .int .i64 a0_3, .int .i64 a0_4, .slice A0_5 l0_5.length c0_5, .slice A0_6 l0_6.length c0_6] 59 (0, 0)) zu2 hb); have n1_ := Aside0.mk (below_step zu1 hb); clear BK0; clear HB; have BK0 := n0_; have HB := n1_; clear n0_ n1_; (try clear hb); (try clear hb2); (try clear hk); (try clear hi); (try clear hna_); (try clear hnb_); have p376 : 0 ≤ ((ji12) : Int) := of_decide_eq_true zu4; have q376 : (ji12) < (l1.length : Int) := of_decide_eq_true zu4; obtain ⟨ad376, e376, hx376_0⟩ := Kd.at_int HR1.out (ji12) p376 q376; obtain rfl : ad374 = ad376 := (by injection e376); (first | replace hx376_0 := (HB.out.cell (World.block_lt_of_cell? w _ hx376_0)).trans hx376_0 | skip); replace p376 := eq_true p376; replace q376 := eq_true q376) | (go_at_call 62; (with_reducible refine (impl_graph_leaps.calls k2 gb0 a0_0 a0_1 A0_2 c0_2 l0_2 a0_3 a0_4 A0_5 c0_5 l0_5 A0_6 c0_6 l0_6 (rd l1 (ji12)) (rd l1 x17_2) true _ ?side1 ?side2 ?side3 ?side4 ?side5 ?side6 ?side7 A15.out).mono ?_); (case side1 => exact zu2); (case side2 => exact zu3); (case side3 => exact HC0_2.out); (case side4 => exact zu9); (case side5 => exact HC0_5.out); (case side6 => exact zu8); (case side7 => exact HC0_6.out); rintro e w' ⟨rfl, ⟨nd, rfl⟩⟩))
     go_roundg k2
     case measure => have := HJ2.out; have := HK2.out; omega
     case rel => exact ⟨(wrap64 (x17_2 + 1)), zu7, H', ⟨by have := HJ2.out; have := HK2.out; omega⟩, ⟨zu2⟩, ⟨zu1⟩⟩

end Go.Proofs.Ytemaokhlolimhaa.Q

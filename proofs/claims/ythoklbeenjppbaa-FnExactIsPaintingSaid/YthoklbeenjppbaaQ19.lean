/- Written by a program of this session: functions of the translation as plain Lean functions, each with a proof that the call does what the plain function says; the conditions stand in each theorem. -/
import Derived.Test.YthoklbeenjppbaaQ0
import Derived.Test.YthoklbeenjppbaaQ4
import Derived.Test.YthoklbeenjppbaaQ18
namespace Go.Proofs.Ythoklbeenjppbaa.Q
open Go.RowKit Go.Proofs.YthoklbeenjppbaaW.PrintWords Go.Proofs.YthoklbeenjppbaaW.PrintLast Go.Proofs.YthoklbeenjppbaaW.PrintMore
attribute [local go_sem] max2_int min2_int max_two min_two max_three min_three max_four min_four   -- for this text's walks alone
set_option linter.unusedVariables false
set_option linter.unusedSimpArgs false

theorem zt1 {p : Prop} (h : p := by repeat (first | (with_reducible first | exact HB.out | apply below_alloc | apply pw_below_drewN | apply below_drew1 | refine below_set ?_ GE0.out) | exact HB.out)) : p := h
theorem zt2 {p : Prop} (h : p := by (with_reducible repeat (first | refine blk_drewN ?_ _ | refine blk_drew ?_ | refine blk_alloc ?_ _)); exact BK0.out) : p := h
theorem zt3 {p : Prop} (h : p := by repeat (first | (with_reducible first | exact HB.out | apply below_alloc | apply pw_below_drewN | apply below_drew1 | refine below_set ?_ GE481.out | refine below_set ?_ GE482.out) | exact HB.out)) : p := h
theorem zt4 {p : Prop} (h : p := by repeat (first | exact HR0_2.out | (with_reducible refine Kd.C_alloc ?_ _) | (with_reducible refine Kd.C_drewN ?_ _) | (with_reducible refine Kd.C_drew ?_))) : p := h
theorem zt5 {p : Prop} (h : p := by repeat (first | exact HR1.out | (with_reducible refine Kd.C_alloc ?_ _) | (with_reducible refine Kd.C_drewN ?_ _) | (with_reducible refine Kd.C_drew ?_))) : p := h
theorem zt6 {p : Prop} (h : p := by repeat (first | exact (Kd.C_below HR0_2.out HB.out) | (with_reducible refine Kd.C_alloc ?_ _) | (with_reducible refine Kd.C_drewN ?_ _) | (with_reducible refine Kd.C_drew ?_))) : p := h
theorem zt7 {p : Prop} (h : p := by (with_reducible repeat (first | refine blk_drewN ?_ _ | refine blk_drew ?_ | refine blk_alloc ?_ _)); exact BK481.out) : p := h
theorem zt8 {p : Prop} (h : p := by repeat (first | (with_reducible first | exact HB.out | apply below_alloc | apply pw_below_drewN | apply below_drew1 | refine below_set ?_ GE481.out) | exact HB.out)) : p := h
theorem zt9 {p : Prop} (h : p := by first | (with_reducible assumption) | assumption) : p := h
theorem zt10 {p : Prop} (h : p := by repeat (first | exact (Kd.C_below HR0_6.out HB.out) | (with_reducible refine Kd.C_alloc ?_ _) | (with_reducible refine Kd.C_drewN ?_ _) | (with_reducible refine Kd.C_drew ?_))) : p := h
theorem zt11 {p : Prop} (h : p := by repeat (first | exact (Kd.C_below HR0_5.out HB.out) | (with_reducible refine Kd.C_alloc ?_ _) | (with_reducible refine Kd.C_drewN ?_ _) | (with_reducible refine Kd.C_drew ?_))) : p := h
theorem zt12 {p : Prop} (h : p := by repeat (first | (with_reducible first | exact HB.out | apply below_alloc | apply pw_below_drewN | apply below_drew1) | exact HB.out)) : p := h
theorem zt13 {p : Prop} (h : p := by repeat (first | (with_reducible exact HR476_0.out) | (with_reducible refine Kd.C_alloc ?_ _) | (with_reducible refine Kd.C_drewN ?_ _) | (with_reducible refine Kd.C_drew ?_) | exact HR476_0.out)) : p := h
theorem zt14 {p : Prop} (h : p := by (with_reducible repeat (first | refine blk_drewN ?_ _ | refine blk_drew ?_ | refine blk_alloc ?_ _)); exact BK482.out) : p := h
theorem zt15 {p : Prop} (h : p := by first | rfl | (simp [errW_none, errW_some] <;> rfl) | (simp [*, errW_none, errW_some] <;> rfl)) : p := h
theorem zt16 {p : Prop} (h : p := by (try simp only [List.map_toArray, List.map_cons, List.map_nil]); first | done | rfl | (simp only [List.length_drop, List.length_take]; rfl)) : p := h
theorem zt17 {p : Prop} (h : p := by repeat (first | (with_reducible first | exact HB.out | apply below_alloc | apply pw_below_drewN | apply below_drew1 | refine below_set ?_ GE481.out | refine below_set ?_ GE482.out | refine below_set ?_ GE489.out) | exact HB.out)) : p := h
theorem zt18 {p : Prop} (h : p := by (with_reducible repeat (first | refine blk_drewN ?_ _ | refine blk_drew ?_ | refine blk_alloc ?_ _)); exact BK489.out) : p := h
theorem zt19 {p : Prop} (h : p := by rw [hg]; exact Nat.ne_of_lt (blk_lt (g := gb481) (o := .cells #[.int .i64 a0_0, .int .i64 a0_1, .slice A0_2 l0_2.length c0_2] 30 (0, 0)) zt7)) : p := h
theorem zt20 {p : Prop} (h : p := by rw [hg]; exact Nat.ne_of_gt (blk_lt (g := gb481) (o := .cells #[.int .i64 a0_0, .int .i64 a0_1, .slice A0_2 l0_2.length c0_2] 30 (0, 0)) zt7)) : p := h
/-! ### impl_graph_isPainting: function 61 -/
def impl_graph_isPainting.l0 : Nat → List Int → List (List Int) → Int → Int → Option (Bool)
 | 0, _, _, _, _ => none
 | k + 1, x1, x15, x16, x17 => if x17 < x16 then (if 0 ≤ x17 then (if x17 < (x15.length : Int) then (if 0 < ((rd_L1 x15 x17).length : Int) then (if 0 ≤ (rd (rd_L1 x15 x17) 0) then (if (rd (rd_L1 x15 x17) 0) < (x1.length : Int) then (if 1 < ((rd_L1 x15 x17).length : Int) then (if 0 ≤ (rd (rd_L1 x15 x17) 1) then (if (rd (rd_L1 x15 x17) 1) < (x1.length : Int) then (if (rd x1 (rd (rd_L1 x15 x17) 0)) = (rd x1 (rd (rd_L1 x15 x17) 1)) then (some false) else (impl_graph_isPainting.l0 k x1 x15 x16 (wrap64 (x17 + 1)))) else (none)) else (none)) else (none)) else (none)) else (none)) else (none)) else (none)) else (none)) else (some true)
def impl_graph_isPainting.f (k : Nat) (a0_0 : Int) (a0_1 : Int) (l0_2 : List Int) (a0_3 : Int) (a0_4 : Int) (l0_5 : List Int) (l0_6 : List (List Int)) (l1 : List Int) : Option (Bool) := (impl_Board_coloured.f k a0_0 a0_1 l0_2 l1).bind fun t472 => (if t472 = true then ((impl_graph_pairs.f k a0_0 a0_1 l0_2 a0_3 a0_4 l0_5 l0_6).bind fun t473 => (impl_graph_isPainting.l0 k l1 t473 (t473.length : Int) 0)) else (some false))
set_option maxHeartbeats 8000000 in
set_option maxRecDepth 100000 in
theorem impl_graph_isPainting.calls (k : Nat) (gb0 : Nat) (a0_0 : Int) (a0_1 : Int) (A0_2 : Option Addr) (c0_2 : Nat) (l0_2 : List Int) (a0_3 : Int) (a0_4 : Int) (A0_5 : Option Addr) (c0_5 : Nat) (l0_5 : List Int) (A0_6 : Option Addr) (c0_6 : Nat) (l0_6 : List (List Int)) (A1 : Option Addr) (c1 : Nat) (l1 : List Int) (r : Bool) (w : World) (hg0 : w.heap[gb0]? = some (.cells #[.int .i64 a0_0, .int .i64 a0_1, .slice A0_2 l0_2.length c0_2, .int .i64 a0_3, .int .i64 a0_4, .slice A0_5 l0_5.length c0_5, .slice A0_6 l0_6.length c0_6] 60 (0, 0))) (hr0_2 : Kd.C (Kd.int .i64) w A0_2 l0_2.length l0_2) (hc0_2 : l0_2.length ≤ c0_2) (hr0_5 : Kd.C (Kd.int .i64) w A0_5 l0_5.length l0_5) (hc0_5 : l0_5.length ≤ c0_5) (hr0_6 : Kd.C (Kd.slice 3 (Kd.int .i64)) w A0_6 l0_6.length l0_6) (hc0_6 : l0_6.length ≤ c0_6) (hr1 : Kd.C (Kd.int .i64) w A1 l1.length l1) (hc1 : l1.length ≤ c1) (h : impl_graph_isPainting.f k a0_0 a0_1 l0_2 a0_3 a0_4 l0_5 l0_6 l1 = some r) :
  Calls Try.prog 61 #[.pointer (some ⟨gb0, 0, none⟩), .slice A1 l1.length c1] w fun e w' => e = .returned (.bool r) ∧ Below w.heap.size w w' := by
 have hu30 := Try.underlying30
 have HR0_2 := Aside0.mk hr0_2
 have HC0_2 := Aside0.mk hc0_2
 clear hr0_2 hc0_2
 have HR0_5 := Aside0.mk hr0_5
 have HC0_5 := Aside0.mk hc0_5
 clear hr0_5 hc0_5
 have HR0_6 := Aside0.mk hr0_6
 have HC0_6 := Aside0.mk hc0_6
 clear hr0_6 hc0_6
 have HR1 := Aside0.mk hr1
 have HC1 := Aside0.mk hc1
 clear hr1 hc1
 have BK0 := Aside0.mk hg0
 clear hg0
 have HB := Aside0.mk (Below.refl w.heap.size w)
 have H : ((impl_Board_coloured.f k a0_0 a0_1 l0_2 l1).bind fun t472 => (if t472 = true then ((impl_graph_pairs.f k a0_0 a0_1 l0_2 a0_3 a0_4 l0_5 l0_6).bind fun t473 => (impl_graph_isPainting.l0 k l1 t473 (t473.length : Int) 0)) else (some false))) = some r := h
 clear h
 replace H := Option.bind_eq_some_iff.mp H
 obtain ⟨t472, A30, H⟩ := H
 replace H : (if t472 = true then ((impl_graph_pairs.f k a0_0 a0_1 l0_2 a0_3 a0_4 l0_5 l0_6).bind fun t473 => (impl_graph_isPainting.l0 k l1 t473 (t473.length : Int) 0)) else (some false)) = some r := H
 have A3 := Aside0.mk A30
 clear A30
 by_cases c4 : t472 = true
 rotate_left
 ·replace c4 := Bool.eq_false_iff.mpr c4
  subst c4
  have H1 : (some false) = some r := by rw [if_neg (show ¬ (false = true) by decide)] at H; exact H
  clear H
  have H := H1
  clear H1
  obtain rfl := Option.some.inj H
  have hcz20_0 : w.cell? ⟨gb0, 0, none⟩ = some (.int .i64 a0_0) := (blk_cell BK0.out 0).trans rfl
  have hcz20_1 : w.cell? ⟨gb0, 1, none⟩ = some (.int .i64 a0_1) := (blk_cell BK0.out 1).trans rfl
  have hcz20_2 : w.cell? ⟨gb0, 2, none⟩ = some (.slice A0_2 l0_2.length c0_2) := (blk_cell BK0.out 2).trans rfl
  have hcz20_3 : w.cell? ⟨gb0, 3, none⟩ = some (.int .i64 a0_3) := (blk_cell BK0.out 3).trans rfl
  have hcz20_4 : w.cell? ⟨gb0, 4, none⟩ = some (.int .i64 a0_4) := (blk_cell BK0.out 4).trans rfl
  have hcz20_5 : w.cell? ⟨gb0, 5, none⟩ = some (.slice A0_5 l0_5.length c0_5) := (blk_cell BK0.out 5).trans rfl
  have hcz20_6 : w.cell? ⟨gb0, 6, none⟩ = some (.slice A0_6 l0_6.length c0_6) := (blk_cell BK0.out 6).trans rfl
  have hfz20_0 := blk_frozen BK0.out 0
  have hfz20_1 := blk_frozen BK0.out 1
  have hfz20_2 := blk_frozen BK0.out 2
  have hfz20_3 := blk_frozen BK0.out 3
  have hfz20_4 := blk_frozen BK0.out 4
  have hfz20_5 := blk_frozen BK0.out 5
  have hfz20_6 := blk_frozen BK0.out 6
  go_enter Try.func61, Try.ntmps61
  go_wp2_with (first | (go_at_call 96; (with_reducible refine (impl_Board_coloured.calls k a0_0 a0_1 _ _ l0_2 _ _ l1 false _ ?side1 ?side2 ?side3 ?side4 A3.out).mono ?_); (case side1 => exact zt4); (case side2 => exact HC0_2.out); (case side3 => exact zt5); (case side4 => exact HC1.out); rintro e w21 ⟨rfl, hb⟩; have n0_ := Aside0.mk (blk_below (g := gb0) (o := .cells #[.int .i64 a0_0, .int .i64 a0_1, .slice A0_2 l0_2.length c0_2, .int .i64 a0_3, .int .i64 a0_4, .slice A0_5 l0_5.length c0_5, .slice A0_6 l0_6.length c0_6] 60 (0, 0)) zt2 hb); have n1_ := Aside0.mk (below_step zt1 hb); clear BK0; clear HB; have BK0 := n0_; have HB := n1_; clear n0_ n1_; (try clear hb); (try clear hb2); (try clear hk); (try clear hi); (try clear hna_); (try clear hnb_)))
  repeat ((first | go_quiet (first | (go_at_call 96; (with_reducible refine (impl_Board_coloured.calls k a0_0 a0_1 _ _ l0_2 _ _ l1 false _ ?side1 ?side2 ?side3 ?side4 A3.out).mono ?_); (case side1 => exact zt4); (case side2 => exact HC0_2.out); (case side3 => exact zt5); (case side4 => exact HC1.out); rintro e w21 ⟨rfl, hb⟩; have n0_ := Aside0.mk (blk_below (g := gb0) (o := .cells #[.int .i64 a0_0, .int .i64 a0_1, .slice A0_2 l0_2.length c0_2, .int .i64 a0_3, .int .i64 a0_4, .slice A0_5 l0_5.length c0_5, .slice A0_6 l0_6.length c0_6] 60 (0, 0)) zt2 hb); have n1_ := Aside0.mk (below_step zt1 hb); clear BK0; clear HB; have BK0 := n0_; have HB := n1_; clear n0_ n1_; (try clear hb); (try clear hb2); (try clear hk); (try clear hi); (try clear hna_); (try clear hnb_))) | (refine wp_region_quiet_lit (by kernel_rfl) (by kernel_rfl) ?_; (repeat (any_goals (first | go_big_quiet_step (first | (go_at_call 96; (with_reducible refine (impl_Board_coloured.calls k a0_0 a0_1 _ _ l0_2 _ _ l1 false _ ?side1 ?side2 ?side3 ?side4 A3.out).mono ?_); (case side1 => exact zt4); (case side2 => exact HC0_2.out); (case side3 => exact zt5); (case side4 => exact HC1.out); rintro e w21 ⟨rfl, hb⟩; have n0_ := Aside0.mk (blk_below (g := gb0) (o := .cells #[.int .i64 a0_0, .int .i64 a0_1, .slice A0_2 l0_2.length c0_2, .int .i64 a0_3, .int .i64 a0_4, .slice A0_5 l0_5.length c0_5, .slice A0_6 l0_6.length c0_6] 60 (0, 0)) zt2 hb); have n1_ := Aside0.mk (below_step zt1 hb); clear BK0; clear HB; have BK0 := n0_; have HB := n1_; clear n0_ n1_; (try clear hb); (try clear hb2); (try clear hk); (try clear hi); (try clear hna_); (try clear hnb_))) | quiet_step (first | (go_at_call 96; (with_reducible refine (impl_Board_coloured.calls k a0_0 a0_1 _ _ l0_2 _ _ l1 false _ ?side1 ?side2 ?side3 ?side4 A3.out).mono ?_); (case side1 => exact zt4); (case side2 => exact HC0_2.out); (case side3 => exact zt5); (case side4 => exact HC1.out); rintro e w21 ⟨rfl, hb⟩; have n0_ := Aside0.mk (blk_below (g := gb0) (o := .cells #[.int .i64 a0_0, .int .i64 a0_1, .slice A0_2 l0_2.length c0_2, .int .i64 a0_3, .int .i64 a0_4, .slice A0_5 l0_5.length c0_5, .slice A0_6 l0_6.length c0_6] 60 (0, 0)) zt2 hb); have n1_ := Aside0.mk (below_step zt1 hb); clear BK0; clear HB; have BK0 := n0_; have HB := n1_; clear n0_ n1_; (try clear hb); (try clear hb2); (try clear hk); (try clear hi); (try clear hna_); (try clear hnb_)))))); all_goals (refine wpQuiet_nil ?_; intro _ hw2_; obtain ⟨nq, hw3_⟩ := hw2_; subst hw3_))); try go_wp2_with (first | (go_at_call 96; (with_reducible refine (impl_Board_coloured.calls k a0_0 a0_1 _ _ l0_2 _ _ l1 false _ ?side1 ?side2 ?side3 ?side4 A3.out).mono ?_); (case side1 => exact zt4); (case side2 => exact HC0_2.out); (case side3 => exact zt5); (case side4 => exact HC1.out); rintro e w21 ⟨rfl, hb⟩; have n0_ := Aside0.mk (blk_below (g := gb0) (o := .cells #[.int .i64 a0_0, .int .i64 a0_1, .slice A0_2 l0_2.length c0_2, .int .i64 a0_3, .int .i64 a0_4, .slice A0_5 l0_5.length c0_5, .slice A0_6 l0_6.length c0_6] 60 (0, 0)) zt2 hb); have n1_ := Aside0.mk (below_step zt1 hb); clear BK0; clear HB; have BK0 := n0_; have HB := n1_; clear n0_ n1_; (try clear hb); (try clear hb2); (try clear hk); (try clear hi); (try clear hna_); (try clear hnb_))))
  go_ret
  exact ⟨zt15, zt1⟩
 subst c4
 have H1 : ((impl_graph_pairs.f k a0_0 a0_1 l0_2 a0_3 a0_4 l0_5 l0_6).bind fun t473 => (impl_graph_isPainting.l0 k l1 t473 (t473.length : Int) 0)) = some r := by rw [if_pos rfl] at H; exact H
 clear H
 have H := H1
 clear H1
 replace H := Option.bind_eq_some_iff.mp H
 obtain ⟨t473, A50, H⟩ := H
 replace H : (impl_graph_isPainting.l0 k l1 t473 (t473.length : Int) 0) = some r := H
 have A5 := Aside0.mk A50
 clear A50
 have H' := Aside0.mk H
 clear H
 have hcz6_0 : w.cell? ⟨gb0, 0, none⟩ = some (.int .i64 a0_0) := (blk_cell BK0.out 0).trans rfl
 have hcz6_1 : w.cell? ⟨gb0, 1, none⟩ = some (.int .i64 a0_1) := (blk_cell BK0.out 1).trans rfl
 have hcz6_2 : w.cell? ⟨gb0, 2, none⟩ = some (.slice A0_2 l0_2.length c0_2) := (blk_cell BK0.out 2).trans rfl
 have hcz6_3 : w.cell? ⟨gb0, 3, none⟩ = some (.int .i64 a0_3) := (blk_cell BK0.out 3).trans rfl
 have hcz6_4 : w.cell? ⟨gb0, 4, none⟩ = some (.int .i64 a0_4) := (blk_cell BK0.out 4).trans rfl
 have hcz6_5 : w.cell? ⟨gb0, 5, none⟩ = some (.slice A0_5 l0_5.length c0_5) := (blk_cell BK0.out 5).trans rfl
 have hcz6_6 : w.cell? ⟨gb0, 6, none⟩ = some (.slice A0_6 l0_6.length c0_6) := (blk_cell BK0.out 6).trans rfl
 have hfz6_0 := blk_frozen BK0.out 0
 have hfz6_1 := blk_frozen BK0.out 1
 have hfz6_2 := blk_frozen BK0.out 2
 have hfz6_3 := blk_frozen BK0.out 3
 have hfz6_4 := blk_frozen BK0.out 4
 have hfz6_5 := blk_frozen BK0.out 5
 have hfz6_6 := blk_frozen BK0.out 6
 go_enter Try.func61, Try.ntmps61
 go_wp2_with (first | (go_at_call 96; (with_reducible refine (impl_Board_coloured.calls k a0_0 a0_1 _ _ l0_2 _ _ l1 true _ ?side1 ?side2 ?side3 ?side4 A3.out).mono ?_); (case side1 => exact zt4); (case side2 => exact HC0_2.out); (case side3 => exact zt5); (case side4 => exact HC1.out); rintro e w7 ⟨rfl, hb⟩; have n0_ := Aside0.mk (blk_below (g := gb0) (o := .cells #[.int .i64 a0_0, .int .i64 a0_1, .slice A0_2 l0_2.length c0_2, .int .i64 a0_3, .int .i64 a0_4, .slice A0_5 l0_5.length c0_5, .slice A0_6 l0_6.length c0_6] 60 (0, 0)) zt2 hb); have n1_ := Aside0.mk (below_step zt1 hb); clear BK0; clear HB; have BK0 := n0_; have HB := n1_; clear n0_ n1_; (try clear hb); (try clear hb2); (try clear hk); (try clear hi); (try clear hna_); (try clear hnb_)) | (go_at_call 97; (with_reducible refine (impl_graph_pairs.calls k gb0 a0_0 a0_1 A0_2 c0_2 l0_2 a0_3 a0_4 A0_5 c0_5 l0_5 A0_6 c0_6 l0_6 t473 _ ?side1 ?side2 ?side3 ?side4 ?side5 ?side6 ?side7 A5.out).mono ?_); (case side1 => exact zt2); (case side2 => exact zt6); (case side3 => exact HC0_2.out); (case side4 => exact zt11); (case side5 => exact HC0_5.out); (case side6 => exact zt10); (case side7 => exact HC0_6.out); rintro e w8 ⟨v474, rfl, ho0, hb⟩; have n0_ := Aside0.mk (Kd.S_lower ho0 (below_size zt1)); have n1_ := Aside0.mk (blk_below (g := gb0) (o := .cells #[.int .i64 a0_0, .int .i64 a0_1, .slice A0_2 l0_2.length c0_2, .int .i64 a0_3, .int .i64 a0_4, .slice A0_5 l0_5.length c0_5, .slice A0_6 l0_6.length c0_6] 60 (0, 0)) zt2 hb); have n2_ := Aside0.mk (below_step zt1 hb); clear BK0; clear HB; have HO475 := n0_; have BK0 := n1_; have HB := n2_; clear n0_ n1_ n2_; (try clear hb); (try clear hb2); (try clear hk); (try clear hi); (try clear ho0); (try clear hna_); (try clear hnb_); obtain ⟨Ao9, co9, eo9⟩ := Kd.S_slice HO475.out; subst eo9))
 repeat ((first | go_quiet (first | (go_at_call 96; (with_reducible refine (impl_Board_coloured.calls k a0_0 a0_1 _ _ l0_2 _ _ l1 true _ ?side1 ?side2 ?side3 ?side4 A3.out).mono ?_); (case side1 => exact zt4); (case side2 => exact HC0_2.out); (case side3 => exact zt5); (case side4 => exact HC1.out); rintro e w7 ⟨rfl, hb⟩; have n0_ := Aside0.mk (blk_below (g := gb0) (o := .cells #[.int .i64 a0_0, .int .i64 a0_1, .slice A0_2 l0_2.length c0_2, .int .i64 a0_3, .int .i64 a0_4, .slice A0_5 l0_5.length c0_5, .slice A0_6 l0_6.length c0_6] 60 (0, 0)) zt2 hb); have n1_ := Aside0.mk (below_step zt1 hb); clear BK0; clear HB; have BK0 := n0_; have HB := n1_; clear n0_ n1_; (try clear hb); (try clear hb2); (try clear hk); (try clear hi); (try clear hna_); (try clear hnb_)) | (go_at_call 97; (with_reducible refine (impl_graph_pairs.calls k gb0 a0_0 a0_1 A0_2 c0_2 l0_2 a0_3 a0_4 A0_5 c0_5 l0_5 A0_6 c0_6 l0_6 t473 _ ?side1 ?side2 ?side3 ?side4 ?side5 ?side6 ?side7 A5.out).mono ?_); (case side1 => exact zt2); (case side2 => exact zt6); (case side3 => exact HC0_2.out); (case side4 => exact zt11); (case side5 => exact HC0_5.out); (case side6 => exact zt10); (case side7 => exact HC0_6.out); rintro e w8 ⟨v474, rfl, ho0, hb⟩; have n0_ := Aside0.mk (Kd.S_lower ho0 (below_size zt1)); have n1_ := Aside0.mk (blk_below (g := gb0) (o := .cells #[.int .i64 a0_0, .int .i64 a0_1, .slice A0_2 l0_2.length c0_2, .int .i64 a0_3, .int .i64 a0_4, .slice A0_5 l0_5.length c0_5, .slice A0_6 l0_6.length c0_6] 60 (0, 0)) zt2 hb); have n2_ := Aside0.mk (below_step zt1 hb); clear BK0; clear HB; have HO475 := n0_; have BK0 := n1_; have HB := n2_; clear n0_ n1_ n2_; (try clear hb); (try clear hb2); (try clear hk); (try clear hi); (try clear ho0); (try clear hna_); (try clear hnb_); obtain ⟨Ao9, co9, eo9⟩ := Kd.S_slice HO475.out; subst eo9)) | (refine wp_region_quiet_lit (by kernel_rfl) (by kernel_rfl) ?_; (repeat (any_goals (first | go_big_quiet_step (first | (go_at_call 96; (with_reducible refine (impl_Board_coloured.calls k a0_0 a0_1 _ _ l0_2 _ _ l1 true _ ?side1 ?side2 ?side3 ?side4 A3.out).mono ?_); (case side1 => exact zt4); (case side2 => exact HC0_2.out); (case side3 => exact zt5); (case side4 => exact HC1.out); rintro e w7 ⟨rfl, hb⟩; have n0_ := Aside0.mk (blk_below (g := gb0) (o := .cells #[.int .i64 a0_0, .int .i64 a0_1, .slice A0_2 l0_2.length c0_2, .int .i64 a0_3, .int .i64 a0_4, .slice A0_5 l0_5.length c0_5, .slice A0_6 l0_6.length c0_6] 60 (0, 0)) zt2 hb); have n1_ := Aside0.mk (below_step zt1 hb); clear BK0; clear HB; have BK0 := n0_; have HB := n1_; clear n0_ n1_; (try clear hb); (try clear hb2); (try clear hk); (try clear hi); (try clear hna_); (try clear hnb_)) | (go_at_call 97; (with_reducible refine (impl_graph_pairs.calls k gb0 a0_0 a0_1 A0_2 c0_2 l0_2 a0_3 a0_4 A0_5 c0_5 l0_5 A0_6 c0_6 l0_6 t473 _ ?side1 ?side2 ?side3 ?side4 ?side5 ?side6 ?side7 A5.out).mono ?_); (case side1 => exact zt2); (case side2 => exact zt6); (case side3 => exact HC0_2.out); (case side4 => exact zt11); (case side5 => exact HC0_5.out); (case side6 => exact zt10); (case side7 => exact HC0_6.out); rintro e w8 ⟨v474, rfl, ho0, hb⟩; have n0_ := Aside0.mk (Kd.S_lower ho0 (below_size zt1)); have n1_ := Aside0.mk (blk_below (g := gb0) (o := .cells #[.int .i64 a0_0, .int .i64 a0_1, .slice A0_2 l0_2.length c0_2, .int .i64 a0_3, .int .i64 a0_4, .slice A0_5 l0_5.length c0_5, .slice A0_6 l0_6.length c0_6] 60 (0, 0)) zt2 hb); have n2_ := Aside0.mk (below_step zt1 hb); clear BK0; clear HB; have HO475 := n0_; have BK0 := n1_; have HB := n2_; clear n0_ n1_ n2_; (try clear hb); (try clear hb2); (try clear hk); (try clear hi); (try clear ho0); (try clear hna_); (try clear hnb_); obtain ⟨Ao9, co9, eo9⟩ := Kd.S_slice HO475.out; subst eo9)) | quiet_step (first | (go_at_call 96; (with_reducible refine (impl_Board_coloured.calls k a0_0 a0_1 _ _ l0_2 _ _ l1 true _ ?side1 ?side2 ?side3 ?side4 A3.out).mono ?_); (case side1 => exact zt4); (case side2 => exact HC0_2.out); (case side3 => exact zt5); (case side4 => exact HC1.out); rintro e w7 ⟨rfl, hb⟩; have n0_ := Aside0.mk (blk_below (g := gb0) (o := .cells #[.int .i64 a0_0, .int .i64 a0_1, .slice A0_2 l0_2.length c0_2, .int .i64 a0_3, .int .i64 a0_4, .slice A0_5 l0_5.length c0_5, .slice A0_6 l0_6.length c0_6] 60 (0, 0)) zt2 hb); have n1_ := Aside0.mk (below_step zt1 hb); clear BK0; clear HB; have BK0 := n0_; have HB := n1_; clear n0_ n1_; (try clear hb); (try clear hb2); (try clear hk); (try clear hi); (try clear hna_); (try clear hnb_)) | (go_at_call 97; (with_reducible refine (impl_graph_pairs.calls k gb0 a0_0 a0_1 A0_2 c0_2 l0_2 a0_3 a0_4 A0_5 c0_5 l0_5 A0_6 c0_6 l0_6 t473 _ ?side1 ?side2 ?side3 ?side4 ?side5 ?side6 ?side7 A5.out).mono ?_); (case side1 => exact zt2); (case side2 => exact zt6); (case side3 => exact HC0_2.out); (case side4 => exact zt11); (case side5 => exact HC0_5.out); (case side6 => exact zt10); (case side7 => exact HC0_6.out); rintro e w8 ⟨v474, rfl, ho0, hb⟩; have n0_ := Aside0.mk (Kd.S_lower ho0 (below_size zt1)); have n1_ := Aside0.mk (blk_below (g := gb0) (o := .cells #[.int .i64 a0_0, .int .i64 a0_1, .slice A0_2 l0_2.length c0_2, .int .i64 a0_3, .int .i64 a0_4, .slice A0_5 l0_5.length c0_5, .slice A0_6 l0_6.length c0_6] 60 (0, 0)) zt2 hb); have n2_ := Aside0.mk (below_step zt1 hb); clear BK0; clear HB; have HO475 := n0_; have BK0 := n1_; have HB := n2_; clear n0_ n1_ n2_; (try clear hb); (try clear hb2); (try clear hk); (try clear hi); (try clear ho0); (try clear hna_); (try clear hnb_); obtain ⟨Ao9, co9, eo9⟩ := Kd.S_slice HO475.out; subst eo9))))); all_goals (refine wpQuiet_nil ?_; intro _ hw2_; obtain ⟨nq, hw3_⟩ := hw2_; subst hw3_))); try go_wp2_with (first | (go_at_call 96; (with_reducible refine (impl_Board_coloured.calls k a0_0 a0_1 _ _ l0_2 _ _ l1 true _ ?side1 ?side2 ?side3 ?side4 A3.out).mono ?_); (case side1 => exact zt4); (case side2 => exact HC0_2.out); (case side3 => exact zt5); (case side4 => exact HC1.out); rintro e w7 ⟨rfl, hb⟩; have n0_ := Aside0.mk (blk_below (g := gb0) (o := .cells #[.int .i64 a0_0, .int .i64 a0_1, .slice A0_2 l0_2.length c0_2, .int .i64 a0_3, .int .i64 a0_4, .slice A0_5 l0_5.length c0_5, .slice A0_6 l0_6.length c0_6] 60 (0, 0)) zt2 hb); have n1_ := Aside0.mk (below_step zt1 hb); clear BK0; clear HB; have BK0 := n0_; have HB := n1_; clear n0_ n1_; (try clear hb); (try clear hb2); (try clear hk); (try clear hi); (try clear hna_); (try clear hnb_)) | (go_at_call 97; (with_reducible refine (impl_graph_pairs.calls k gb0 a0_0 a0_1 A0_2 c0_2 l0_2 a0_3 a0_4 A0_5 c0_5 l0_5 A0_6 c0_6 l0_6 t473 _ ?side1 ?side2 ?side3 ?side4 ?side5 ?side6 ?side7 A5.out).mono ?_); (case side1 => exact zt2); (case side2 => exact zt6); (case side3 => exact HC0_2.out); (case side4 => exact zt11); (case side5 => exact HC0_5.out); (case side6 => exact zt10); (case side7 => exact HC0_6.out); rintro e w8 ⟨v474, rfl, ho0, hb⟩; have n0_ := Aside0.mk (Kd.S_lower ho0 (below_size zt1)); have n1_ := Aside0.mk (blk_below (g := gb0) (o := .cells #[.int .i64 a0_0, .int .i64 a0_1, .slice A0_2 l0_2.length c0_2, .int .i64 a0_3, .int .i64 a0_4, .slice A0_5 l0_5.length c0_5, .slice A0_6 l0_6.length c0_6] 60 (0, 0)) zt2 hb); have n2_ := Aside0.mk (below_step zt1 hb); clear BK0; clear HB; have HO475 := n0_; have BK0 := n1_; have HB := n2_; clear n0_ n1_ n2_; (try clear hb); (try clear hb2); (try clear hk); (try clear hi); (try clear ho0); (try clear hna_); (try clear hnb_); obtain ⟨Ao9, co9, eo9⟩ := Kd.S_slice HO475.out; subst eo9)))
 go_loopg [17] k (fun kq v17 w' => ∃ (x17_1 : Int), v17 = .int .i64 x17_1 ∧ Aside0 (impl_graph_isPainting.l0 kq l1 t473 (t473.length : Int) x17_1 = some r) ∧ Aside0 (kq ≤ k) ∧ Aside0 (Kd.S (Kd.slice 3 (Kd.int .i64)) 22 w' w.heap.size (fun _ => True) (.slice Ao9 t473.length co9) t473) ∧ Aside0 (w'.heap[gb0]? = some (.cells #[.int .i64 a0_0, .int .i64 a0_1, (.slice A0_2 l0_2.length c0_2), .int .i64 a0_3, .int .i64 a0_4, (.slice A0_5 l0_5.length c0_5), (.slice A0_6 l0_6.length c0_6)] 60 (0, 0))) ∧ Aside0 (Below w.heap.size w w'))
 case atStart => exact ⟨(0), (by first | rfl | (simp; done) | (simp [*]; done)), H', ⟨Nat.le_refl _⟩, ⟨by (with_reducible repeat (first | apply Kd.S_alloc | apply Kd.S_drewN | apply Kd.S_drew)); exact HO475.out⟩, ⟨zt2⟩, ⟨zt1⟩⟩
 case round =>
  clear H'
  try clear c1; try clear p2; try clear c4; try clear c6; try clear hcz6_0; try clear hcz6_1; try clear hcz6_2; try clear hcz6_3; try clear hcz6_4; try clear hcz6_5; try clear hcz6_6; try clear hfz6_0; try clear hfz6_1; try clear hfz6_2; try clear hfz6_3; try clear hfz6_4; try clear hfz6_5; try clear hfz6_6
  obtain ⟨x17_1, rfl, HA, HK1, HO_15, BK0, HB⟩ := hrel
  cases gk with
  | zero => exact absurd HA.out (by simp [impl_graph_isPainting.l0])
  | succ k1 =>
   have H := HA.out
   clear HA
   simp only [impl_graph_isPainting.l0] at H
   by_cases c10 : x17_1 < (t473.length : Int)
   rotate_left
   ·rw [if_neg c10] at H
    have c10b0 : decide (x17_1 < (t473.length : Int)) = false := decide_eq_false c10
    clear c10
    obtain rfl := Option.some.inj H
    go_wp2
    repeat ((first | go_quiet (fail) | (refine wp_region_quiet_lit (by kernel_rfl) (by kernel_rfl) ?_; (repeat (any_goals (first | go_big_quiet_step (fail) | quiet_step (fail)))); all_goals (refine wpQuiet_nil ?_; intro _ hw2_; obtain ⟨nq, hw3_⟩ := hw2_; subst hw3_))); try go_wp2)
    go_ret
    exact ⟨zt15, zt1⟩
   rw [if_pos c10] at H
   have c10b0 : decide (x17_1 < (t473.length : Int)) = true := decide_eq_true c10
   clear c10
   by_cases c11 : 0 ≤ x17_1
   rotate_left
   ·rw [if_neg c11] at H
    exact absurd H (by simp)
   rw [if_pos c11] at H
   have c11b0 : decide (0 ≤ x17_1) = true := decide_eq_true c11
   clear c11
   by_cases c12 : x17_1 < (t473.length : Int)
   rotate_left
   ·rw [if_neg c12] at H
    exact absurd H (by simp)
   rw [if_pos c12] at H
   have c12b0 : decide (x17_1 < (t473.length : Int)) = true := decide_eq_true c12
   clear c12
   by_cases c13 : 0 < ((rd_L1 t473 x17_1).length : Int)
   rotate_left
   ·rw [if_neg c13] at H
    exact absurd H (by simp)
   rw [if_pos c13] at H
   have c13b0 : decide (0 < ((rd_L1 t473 x17_1).length : Int)) = true := decide_eq_true c13
   have c13b1 : decide (0 < (rd_L1 t473 x17_1).length) = true := decide_eq_true (by omega)
   clear c13
   by_cases c14 : 0 ≤ (rd (rd_L1 t473 x17_1) 0)
   rotate_left
   ·rw [if_neg c14] at H
    exact absurd H (by simp)
   rw [if_pos c14] at H
   have c14b0 : decide (0 ≤ (rd (rd_L1 t473 x17_1) 0)) = true := decide_eq_true c14
   clear c14
   by_cases c15 : (rd (rd_L1 t473 x17_1) 0) < (l1.length : Int)
   rotate_left
   ·rw [if_neg c15] at H
    exact absurd H (by simp)
   rw [if_pos c15] at H
   have c15b0 : decide ((rd (rd_L1 t473 x17_1) 0) < (l1.length : Int)) = true := decide_eq_true c15
   clear c15
   by_cases c16 : 1 < ((rd_L1 t473 x17_1).length : Int)
   rotate_left
   ·rw [if_neg c16] at H
    exact absurd H (by simp)
   rw [if_pos c16] at H
   have c16b0 : decide (1 < ((rd_L1 t473 x17_1).length : Int)) = true := decide_eq_true c16
   have c16b1 : decide (1 < (rd_L1 t473 x17_1).length) = true := decide_eq_true (by omega)
   clear c16
   by_cases c17 : 0 ≤ (rd (rd_L1 t473 x17_1) 1)
   rotate_left
   ·rw [if_neg c17] at H
    exact absurd H (by simp)
   rw [if_pos c17] at H
   have c17b0 : decide (0 ≤ (rd (rd_L1 t473 x17_1) 1)) = true := decide_eq_true c17
   clear c17
   by_cases c18 : (rd (rd_L1 t473 x17_1) 1) < (l1.length : Int)
   rotate_left
   ·rw [if_neg c18] at H
    exact absurd H (by simp)
   rw [if_pos c18] at H
   have c18b0 : decide ((rd (rd_L1 t473 x17_1) 1) < (l1.length : Int)) = true := decide_eq_true c18
   clear c18
   by_cases c19 : (rd l1 (rd (rd_L1 t473 x17_1) 0)) = (rd l1 (rd (rd_L1 t473 x17_1) 1))
   ·rw [if_pos c19] at H
    have c19b0 : ((rd l1 (rd (rd_L1 t473 x17_1) 0)) == (rd l1 (rd (rd_L1 t473 x17_1) 1))) = true := beq_iff_eq.mpr c19
    have c19b1 : ((rd l1 (rd (rd_L1 t473 x17_1) 0)) != (rd l1 (rd (rd_L1 t473 x17_1) 1))) = false := bne_eq_false_iff_eq.mpr c19
    clear c19
    obtain rfl := Option.some.inj H
    have p476 : 0 ≤ (x17_1 : Int) := of_decide_eq_true zt9
    have q476 : x17_1 < (t473.length : Int) := of_decide_eq_true zt9
    obtain ⟨ad476, A476_0, c476_0, e476, hx476_0, hl476_0, hi476_0⟩ := at_L1 (Kd.S_reads' HO_15.out).2.2 x17_1 p476 q476
    cases e476
    obtain ⟨ce476, hce476, hMe476, hcc476⟩ := Kd.S_get HO_15.out [] x17_1 p476 (by first | exact q476 | exact of_decide_eq_true zt9 | (have e_ := (Kd.S_reads' HO_15.out).1; omega))
    obtain ⟨ve476_0, rfl, ge476_0⟩ := hMe476
    have hv476_0 := hcc476 0 _ rfl
    rw [Nat.add_zero, show ((Kd.slice 3 (Kd.int .i64))).sz = 1 from rfl, Nat.mul_one] at hv476_0
    replace hv476_0 := Option.some.inj (hv476_0.symm.trans hx476_0)
    rw [hv476_0] at ge476_0
    have HL476_0 := Aside0.mk (show Kd.R (Kd.int .i64) 3 _ _ _ _ (rd_L1 t473 x17_1) from ge476_0)
    clear hv476_0 ge476_0
    clear hcc476 hce476
    have HR476_0 := Aside0.mk hi476_0
    have HC476_0 := Aside0.mk hl476_0
    clear hi476_0 hl476_0
    replace p476 := eq_true p476
    replace q476 := eq_true q476
    have p477 : 0 ≤ (0 : Int) := (by omega)
    have q477 : 0 < ((rd_L1 t473 x17_1).length : Int) := of_decide_eq_true zt9
    obtain ⟨ad477, e477, hx477_0⟩ := Kd.at_int zt13 0 p477 q477
    cases e477
    have qi477 : (0 < (rd_L1 t473 x17_1).length) = True := eq_true (by omega)
    (try rw [show ((0 : Int)).toNat = 0 from rfl] at hx477_0)
    (try rw [Addr.add_zero'] at hx477_0)
    replace p477 := eq_true p477
    replace q477 := eq_true q477
    have p478 : 0 ≤ ((rd (rd_L1 t473 x17_1) 0) : Int) := of_decide_eq_true zt9
    have q478 : (rd (rd_L1 t473 x17_1) 0) < (l1.length : Int) := of_decide_eq_true zt9
    obtain ⟨ad478, e478, hx478_0⟩ := Kd.at_int HR1.out (rd (rd_L1 t473 x17_1) 0) p478 q478
    cases e478
    (first | replace hx478_0 := (HB.out.cell (World.block_lt_of_cell? w _ hx478_0)).trans hx478_0 | skip)
    replace p478 := eq_true p478
    replace q478 := eq_true q478
    have p479 : 0 ≤ (1 : Int) := (by omega)
    have q479 : 1 < ((rd_L1 t473 x17_1).length : Int) := of_decide_eq_true zt9
    obtain ⟨ad479, e479, hx479_0⟩ := Kd.at_int zt13 1 p479 q479
    obtain rfl : ad477 = ad479 := (by injection e479)
    (try simp only [show (1 : Int).toNat = 1 from rfl, Nat.reduceMul, Nat.reduceEqDiff, Go.Addr.add, ↓reduceIte] at hx479_0)
    have qi479 : (1 < (rd_L1 t473 x17_1).length) = True := eq_true (by omega)
    (try rw [show ((1 : Int)).toNat = 1 from rfl] at hx479_0)
    replace p479 := eq_true p479
    replace q479 := eq_true q479
    have p480 : 0 ≤ ((rd (rd_L1 t473 x17_1) 1) : Int) := of_decide_eq_true zt9
    have q480 : (rd (rd_L1 t473 x17_1) 1) < (l1.length : Int) := of_decide_eq_true zt9
    obtain ⟨ad480, e480, hx480_0⟩ := Kd.at_int HR1.out (rd (rd_L1 t473 x17_1) 1) p480 q480
    obtain rfl : ad478 = ad480 := (by injection e480)
    (first | replace hx480_0 := (HB.out.cell (World.block_lt_of_cell? w _ hx480_0)).trans hx480_0 | skip)
    replace p480 := eq_true p480
    replace q480 := eq_true q480
    go_wp2
    repeat ((first | go_quiet (fail) | (refine wp_region_quiet_lit (by kernel_rfl) (by kernel_rfl) ?_; (repeat (any_goals (first | go_big_quiet_step (fail) | quiet_step (fail)))); all_goals (refine wpQuiet_nil ?_; intro _ hw2_; obtain ⟨nq, hw3_⟩ := hw2_; subst hw3_))); try go_wp2)
    go_ret
    exact ⟨zt15, zt1⟩
   rw [if_neg c19] at H
   have c19b0 : ((rd l1 (rd (rd_L1 t473 x17_1) 0)) == (rd l1 (rd (rd_L1 t473 x17_1) 1))) = false := beq_eq_false_iff_ne.mpr c19
   have c19b1 : ((rd l1 (rd (rd_L1 t473 x17_1) 0)) != (rd l1 (rd (rd_L1 t473 x17_1) 1))) = true := bne_iff_ne.mpr c19
   have H' := Aside0.mk H
   clear H
   have p476 : 0 ≤ (x17_1 : Int) := of_decide_eq_true zt9
   have q476 : x17_1 < (t473.length : Int) := of_decide_eq_true zt9
   obtain ⟨ad476, A476_0, c476_0, e476, hx476_0, hl476_0, hi476_0⟩ := at_L1 (Kd.S_reads' HO_15.out).2.2 x17_1 p476 q476
   cases e476
   obtain ⟨ce476, hce476, hMe476, hcc476⟩ := Kd.S_get HO_15.out [] x17_1 p476 (by first | exact q476 | exact of_decide_eq_true zt9 | (have e_ := (Kd.S_reads' HO_15.out).1; omega))
   obtain ⟨ve476_0, rfl, ge476_0⟩ := hMe476
   have hv476_0 := hcc476 0 _ rfl
   rw [Nat.add_zero, show ((Kd.slice 3 (Kd.int .i64))).sz = 1 from rfl, Nat.mul_one] at hv476_0
   replace hv476_0 := Option.some.inj (hv476_0.symm.trans hx476_0)
   rw [hv476_0] at ge476_0
   have HL476_0 := Aside0.mk (show Kd.R (Kd.int .i64) 3 _ _ _ _ (rd_L1 t473 x17_1) from ge476_0)
   clear hv476_0 ge476_0
   clear hcc476 hce476
   have HR476_0 := Aside0.mk hi476_0
   have HC476_0 := Aside0.mk hl476_0
   clear hi476_0 hl476_0
   replace p476 := eq_true p476
   replace q476 := eq_true q476
   have p477 : 0 ≤ (0 : Int) := (by omega)
   have q477 : 0 < ((rd_L1 t473 x17_1).length : Int) := of_decide_eq_true zt9
   obtain ⟨ad477, e477, hx477_0⟩ := Kd.at_int zt13 0 p477 q477
   cases e477
   have qi477 : (0 < (rd_L1 t473 x17_1).length) = True := eq_true (by omega)
   (try rw [show ((0 : Int)).toNat = 0 from rfl] at hx477_0)
   (try rw [Addr.add_zero'] at hx477_0)
   replace p477 := eq_true p477
   replace q477 := eq_true q477
   have p478 : 0 ≤ ((rd (rd_L1 t473 x17_1) 0) : Int) := of_decide_eq_true zt9
   have q478 : (rd (rd_L1 t473 x17_1) 0) < (l1.length : Int) := of_decide_eq_true zt9
   obtain ⟨ad478, e478, hx478_0⟩ := Kd.at_int HR1.out (rd (rd_L1 t473 x17_1) 0) p478 q478
   cases e478
   (first | replace hx478_0 := (HB.out.cell (World.block_lt_of_cell? w _ hx478_0)).trans hx478_0 | skip)
   replace p478 := eq_true p478
   replace q478 := eq_true q478
   have p479 : 0 ≤ (1 : Int) := (by omega)
   have q479 : 1 < ((rd_L1 t473 x17_1).length : Int) := of_decide_eq_true zt9
   obtain ⟨ad479, e479, hx479_0⟩ := Kd.at_int zt13 1 p479 q479
   obtain rfl : ad477 = ad479 := (by injection e479)
   (try simp only [show (1 : Int).toNat = 1 from rfl, Nat.reduceMul, Nat.reduceEqDiff, Go.Addr.add, ↓reduceIte] at hx479_0)
   have qi479 : (1 < (rd_L1 t473 x17_1).length) = True := eq_true (by omega)
   (try rw [show ((1 : Int)).toNat = 1 from rfl] at hx479_0)
   replace p479 := eq_true p479
   replace q479 := eq_true q479
   have p480 : 0 ≤ ((rd (rd_L1 t473 x17_1) 1) : Int) := of_decide_eq_true zt9
   have q480 : (rd (rd_L1 t473 x17_1) 1) < (l1.length : Int) := of_decide_eq_true zt9
   obtain ⟨ad480, e480, hx480_0⟩ := Kd.at_int HR1.out (rd (rd_L1 t473 x17_1) 1) p480 q480
   obtain rfl : ad478 = ad480 := (by injection e480)
   (first | replace hx480_0 := (HB.out.cell (World.block_lt_of_cell? w _ hx480_0)).trans hx480_0 | skip)
   replace p480 := eq_true p480
   replace q480 := eq_true q480
   go_wp2
   repeat ((first | go_quiet (fail) | (refine wp_region_quiet_lit (by kernel_rfl) (by kernel_rfl) ?_; (repeat (any_goals (first | go_big_quiet_step (fail) | quiet_step (fail)))); all_goals (refine wpQuiet_nil ?_; intro _ hw2_; obtain ⟨nq, hw3_⟩ := hw2_; subst hw3_))); try go_wp2)
   go_roundg k1
   case measure => have := HK1.out; omega
   case rel => exact ⟨(wrap64 (x17_1 + 1)), (by first | rfl | (simp; done) | (simp [*]; done)), H', ⟨by have := HK1.out; omega⟩, ⟨by (with_reducible repeat (first | apply Kd.S_alloc | apply Kd.S_drewN | apply Kd.S_drew)); exact HO_15.out⟩, ⟨zt2⟩, ⟨zt1⟩⟩

/-! ### impl_IsPainting: function 26 -/
def impl_IsPainting.f (k : Nat) (a0_0 : Int) (a0_1 : Int) (l0_2 : List Int) (a1_0 : Int) (a1_1 : Int) (l2 : List Int) : Option (Bool × Bool) := (impl_graphOf.f k a0_0 a0_1 l0_2 a1_0 a1_1).bind fun bt483 => (if bt483.2.2 = true then ((impl_graph_isPainting.f k a0_0 a0_1 l0_2 a1_0 a1_1 bt483.1 bt483.2.1 l2).bind fun t492 => (some (t492, true))) else (some (false, false)))
set_option maxHeartbeats 8000000 in
set_option maxRecDepth 100000 in
theorem impl_IsPainting.calls (k : Nat) (a0_0 : Int) (a0_1 : Int) (A0_2 : Option Addr) (c0_2 : Nat) (l0_2 : List Int) (a1_0 : Int) (a1_1 : Int) (A2 : Option Addr) (c2 : Nat) (l2 : List Int) (r1 : Bool) (r2 : Bool) (w : World) (hr0_2 : Kd.C (Kd.int .i64) w A0_2 l0_2.length l0_2) (hc0_2 : l0_2.length ≤ c0_2) (hr2 : Kd.C (Kd.int .i64) w A2 l2.length l2) (hc2 : l2.length ≤ c2) (h : impl_IsPainting.f k a0_0 a0_1 l0_2 a1_0 a1_1 l2 = some (r1, r2)) :
  Calls Try.prog 26 #[.agg #[.int .i64 a0_0, .int .i64 a0_1, .slice A0_2 l0_2.length c0_2], .agg #[.int .i64 a1_0, .int .i64 a1_1], .slice A2 l2.length c2] w fun e w' => e = .returned (.tuple #[.bool r1, .bool r2]) ∧ Below w.heap.size w w' := by
 have hu30 := Try.underlying30
 have hu32 := Try.underlying32
 have HR0_2 := Aside0.mk hr0_2
 have HC0_2 := Aside0.mk hc0_2
 clear hr0_2 hc0_2
 have HR2 := Aside0.mk hr2
 have HC2 := Aside0.mk hc2
 clear hr2 hc2
 have HB := Aside0.mk (Below.refl w.heap.size w)
 have H : ((impl_graphOf.f k a0_0 a0_1 l0_2 a1_0 a1_1).bind fun bt483 => (if bt483.2.2 = true then ((impl_graph_isPainting.f k a0_0 a0_1 l0_2 a1_0 a1_1 bt483.1 bt483.2.1 l2).bind fun t492 => (some (t492, true))) else (some (false, false)))) = some (r1, r2) := h
 clear h
 replace H := Option.bind_eq_some_iff.mp H
 obtain ⟨⟨t483, t486, t491⟩, A40, H⟩ := H
 replace H : (if t491 = true then ((impl_graph_isPainting.f k a0_0 a0_1 l0_2 a1_0 a1_1 t483 t486 l2).bind fun t492 => (some (t492, true))) else (some (false, false))) = some (r1, r2) := H
 have A4 := Aside0.mk A40
 clear A40
 by_cases c5 : t491 = true
 rotate_left
 ·replace c5 := Bool.eq_false_iff.mpr c5
  subst c5
  have H1 : (some (false, false)) = some (r1, r2) := by rw [if_neg (show ¬ (false = true) by decide)] at H; exact H
  clear H
  have H := H1
  clear H1
  simp only [Option.some.injEq, Prod.mk.injEq] at H
  obtain ⟨rfl, rfl⟩ := H
  go_enter Try.func26, Try.ntmps26
  go_wp2_with (first | ((with_reducible refine gate_dst (N := 3) rfl ?_); refine box_event ?hg (N := 3) ?hd (cs := #[.int .i64 a0_0, .int .i64 a0_1, .slice A0_2 l0_2.length c0_2]) (t := 30) ?hr ?_; (case hd => rfl); (case hg => rfl); (case hr => first | (go_simp; done) | (go_simp; rfl)); intro gb481 hg w16 hbox hb; have n0_ := Aside0.mk (below_step zt12 hb); have n1_ := Aside0.mk (hbox); have n2_ := Aside0.mk ((by rw [hg]; exact (below_size zt12) : w.heap.size ≤ gb481)); have n3_ := Aside0.mk ((by rw [hg]; exact (below_size zt12) : w.heap.size ≤ gb481)); clear HB; have HB := n0_; have BK481 := n1_; have GW481 := n2_; have GE481 := n3_; clear n0_ n1_ n2_ n3_; clear hb hbox hg) | ((with_reducible refine gate_dst (N := 4) rfl ?_); refine box_event ?hg (N := 4) ?hd (cs := #[.int .i64 a1_0, .int .i64 a1_1]) (t := 32) ?hr ?_; (case hd => rfl); (case hg => rfl); (case hr => first | (go_simp; done) | (go_simp; rfl)); intro gb482 hg w17 hbox hb; have n0_ := Aside0.mk (blk_below (g := gb481) (o := .cells #[.int .i64 a0_0, .int .i64 a0_1, .slice A0_2 l0_2.length c0_2] 30 (0, 0)) zt7 hb); have n1_ := Aside0.mk (below_step zt8 hb); have n2_ := Aside0.mk (hbox); have n3_ := Aside0.mk ((by rw [hg]; exact (below_size zt8) : w.heap.size ≤ gb482)); have n4_ := Aside0.mk ((by rw [hg]; exact (below_size zt8) : w.heap.size ≤ gb482)); have n5_ := Aside0.mk ((zt19 : gb481 ≠ gb482)); have n6_ := Aside0.mk ((zt20 : gb482 ≠ gb481)); clear BK481; clear HB; have BK481 := n0_; have HB := n1_; have BK482 := n2_; have GW482 := n3_; have GE482 := n4_; have NB481_482 := n5_; have NB482_481 := n6_; clear n0_ n1_ n2_ n3_ n4_ n5_ n6_; clear hb hbox hg; have hnb18 := NB481_482.out; have hnc18 := NB482_481.out; have hcz19_0 : w17.cell? ⟨gb481, 0, none⟩ = some (.int .i64 a0_0) := (blk_cell BK481.out 0).trans rfl; have hcz19_1 : w17.cell? ⟨gb481, 1, none⟩ = some (.int .i64 a0_1) := (blk_cell BK481.out 1).trans rfl; have hcz19_2 : w17.cell? ⟨gb481, 2, none⟩ = some (.slice A0_2 l0_2.length c0_2) := (blk_cell BK481.out 2).trans rfl; have hfz19_0 := blk_frozen BK481.out 0; have hfz19_1 := blk_frozen BK481.out 1; have hfz19_2 := blk_frozen BK481.out 2; have hcz20_0 : w17.cell? ⟨gb482, 0, none⟩ = some (.int .i64 a1_0) := (blk_cell BK482.out 0).trans rfl; have hcz20_1 : w17.cell? ⟨gb482, 1, none⟩ = some (.int .i64 a1_1) := (blk_cell BK482.out 1).trans rfl; have hfz20_0 := blk_frozen BK482.out 0; have hfz20_1 := blk_frozen BK482.out 1) | ((with_reducible refine gate_callee (f := 60) rfl ?_); refine goesL_ (some 13) rfl rfl Try.func60 (by kernel_rfl) rfl #[.agg #[.int .i64 a0_0, .int .i64 a0_1, .slice A0_2 l0_2.length c0_2], .agg #[.int .i64 a1_0, .int .i64 a1_1]] rfl zt16 ?_; (with_reducible refine (impl_graphOf.calls k a0_0 a0_1 _ _ l0_2 a1_0 a1_1 t483 t486 false _ ?side1 ?side2 A4.out).mono ?_); (case side1 => exact zt6); (case side2 => exact HC0_2.out); rintro e w21 ⟨v484, v487, pv490, rfl, hgp, ho0, ho1, hb⟩; refine ⟨_, rfl, ?_⟩; obtain rfl := hgp.2 rfl; have n0_ := Aside0.mk (Kd.R_lower ho0 (below_size zt3)); have n1_ := Aside0.mk (Kd.S_lower ho1 (below_size zt3)); have n2_ := Aside0.mk (blk_below (g := gb481) (o := .cells #[.int .i64 a0_0, .int .i64 a0_1, .slice A0_2 l0_2.length c0_2] 30 (0, 0)) zt7 hb); have n3_ := Aside0.mk (blk_below (g := gb482) (o := .cells #[.int .i64 a1_0, .int .i64 a1_1] 32 (0, 0)) zt14 hb); have n4_ := Aside0.mk (below_step zt3 hb); clear BK481; clear BK482; clear HB; have HO485 := n0_; have HO488 := n1_; have BK481 := n2_; have BK482 := n3_; have HB := n4_; clear n0_ n1_ n2_ n3_ n4_; (try clear hb); (try clear hb2); (try clear hk); (try clear hi); (try clear ho0); (try clear ho1); (try clear hgp); (try clear hbox); (try clear hge); (try clear hna_); (try clear hnb_)))
  go_ret2
  exact ⟨zt15, zt3⟩
 subst c5
 have H1 : ((impl_graph_isPainting.f k a0_0 a0_1 l0_2 a1_0 a1_1 t483 t486 l2).bind fun t492 => (some (t492, true))) = some (r1, r2) := by rw [if_pos rfl] at H; exact H
 clear H
 have H := H1
 clear H1
 replace H := Option.bind_eq_some_iff.mp H
 obtain ⟨t492, A60, H⟩ := H
 replace H : (some (t492, true)) = some (r1, r2) := H
 have A6 := Aside0.mk A60
 clear A60
 simp only [Option.some.injEq, Prod.mk.injEq] at H
 obtain ⟨rfl, rfl⟩ := H
 go_enter Try.func26, Try.ntmps26
 go_wp2_with (first | ((with_reducible refine gate_dst (N := 3) rfl ?_); refine box_event ?hg (N := 3) ?hd (cs := #[.int .i64 a0_0, .int .i64 a0_1, .slice A0_2 l0_2.length c0_2]) (t := 30) ?hr ?_; (case hd => rfl); (case hg => rfl); (case hr => first | (go_simp; done) | (go_simp; rfl)); intro gb481 hg w7 hbox hb; have n0_ := Aside0.mk (below_step zt12 hb); have n1_ := Aside0.mk (hbox); have n2_ := Aside0.mk ((by rw [hg]; exact (below_size zt12) : w.heap.size ≤ gb481)); have n3_ := Aside0.mk ((by rw [hg]; exact (below_size zt12) : w.heap.size ≤ gb481)); clear HB; have HB := n0_; have BK481 := n1_; have GW481 := n2_; have GE481 := n3_; clear n0_ n1_ n2_ n3_; clear hb hbox hg) | ((with_reducible refine gate_dst (N := 4) rfl ?_); refine box_event ?hg (N := 4) ?hd (cs := #[.int .i64 a1_0, .int .i64 a1_1]) (t := 32) ?hr ?_; (case hd => rfl); (case hg => rfl); (case hr => first | (go_simp; done) | (go_simp; rfl)); intro gb482 hg w8 hbox hb; have n0_ := Aside0.mk (blk_below (g := gb481) (o := .cells #[.int .i64 a0_0, .int .i64 a0_1, .slice A0_2 l0_2.length c0_2] 30 (0, 0)) zt7 hb); have n1_ := Aside0.mk (below_step zt8 hb); have n2_ := Aside0.mk (hbox); have n3_ := Aside0.mk ((by rw [hg]; exact (below_size zt8) : w.heap.size ≤ gb482)); have n4_ := Aside0.mk ((by rw [hg]; exact (below_size zt8) : w.heap.size ≤ gb482)); have n5_ := Aside0.mk ((zt19 : gb481 ≠ gb482)); have n6_ := Aside0.mk ((zt20 : gb482 ≠ gb481)); clear BK481; clear HB; have BK481 := n0_; have HB := n1_; have BK482 := n2_; have GW482 := n3_; have GE482 := n4_; have NB481_482 := n5_; have NB482_481 := n6_; clear n0_ n1_ n2_ n3_ n4_ n5_ n6_; clear hb hbox hg; have hnb9 := NB481_482.out; have hnc9 := NB482_481.out; have hcz10_0 : w8.cell? ⟨gb481, 0, none⟩ = some (.int .i64 a0_0) := (blk_cell BK481.out 0).trans rfl; have hcz10_1 : w8.cell? ⟨gb481, 1, none⟩ = some (.int .i64 a0_1) := (blk_cell BK481.out 1).trans rfl; have hcz10_2 : w8.cell? ⟨gb481, 2, none⟩ = some (.slice A0_2 l0_2.length c0_2) := (blk_cell BK481.out 2).trans rfl; have hfz10_0 := blk_frozen BK481.out 0; have hfz10_1 := blk_frozen BK481.out 1; have hfz10_2 := blk_frozen BK481.out 2; have hcz11_0 : w8.cell? ⟨gb482, 0, none⟩ = some (.int .i64 a1_0) := (blk_cell BK482.out 0).trans rfl; have hcz11_1 : w8.cell? ⟨gb482, 1, none⟩ = some (.int .i64 a1_1) := (blk_cell BK482.out 1).trans rfl; have hfz11_0 := blk_frozen BK482.out 0; have hfz11_1 := blk_frozen BK482.out 1) | ((with_reducible refine gate_callee (f := 60) rfl ?_); refine goesL_ (some 13) rfl rfl Try.func60 (by kernel_rfl) rfl #[.agg #[.int .i64 a0_0, .int .i64 a0_1, .slice A0_2 l0_2.length c0_2], .agg #[.int .i64 a1_0, .int .i64 a1_1]] rfl zt16 ?_; (with_reducible refine (impl_graphOf.calls k a0_0 a0_1 _ _ l0_2 a1_0 a1_1 t483 t486 true _ ?side1 ?side2 A4.out).mono ?_); (case side1 => exact zt6); (case side2 => exact HC0_2.out); rintro e w12 ⟨v484, v487, pv490, rfl, hgp, ho0, ho1, hb⟩; refine ⟨_, rfl, ?_⟩; obtain ⟨gb489, rfl, hbox, hge⟩ := hgp.1 rfl; have n0_ := Aside0.mk (Kd.R_lower ho0 (below_size zt3)); have n1_ := Aside0.mk (Kd.S_lower ho1 (below_size zt3)); have n2_ := Aside0.mk (blk_below (g := gb481) (o := .cells #[.int .i64 a0_0, .int .i64 a0_1, .slice A0_2 l0_2.length c0_2] 30 (0, 0)) zt7 hb); have n3_ := Aside0.mk (blk_below (g := gb482) (o := .cells #[.int .i64 a1_0, .int .i64 a1_1] 32 (0, 0)) zt14 hb); have n4_ := Aside0.mk (hbox); have n5_ := Aside0.mk ((Nat.le_trans (by exact (below_size zt3)) hge : w.heap.size ≤ gb489)); have n6_ := Aside0.mk ((Nat.le_trans (by exact (below_size zt3)) hge : w.heap.size ≤ gb489)); have n7_ := Aside0.mk ((Nat.ne_of_lt (Nat.lt_of_lt_of_le (blk_lt (g := gb481) (o := .cells #[.int .i64 a0_0, .int .i64 a0_1, .slice A0_2 l0_2.length c0_2] 30 (0, 0)) zt7) hge) : gb481 ≠ gb489)); have n8_ := Aside0.mk ((Nat.ne_of_gt (Nat.lt_of_lt_of_le (blk_lt (g := gb481) (o := .cells #[.int .i64 a0_0, .int .i64 a0_1, .slice A0_2 l0_2.length c0_2] 30 (0, 0)) zt7) hge) : gb489 ≠ gb481)); have n9_ := Aside0.mk ((Nat.ne_of_lt (Nat.lt_of_lt_of_le (blk_lt (g := gb482) (o := .cells #[.int .i64 a1_0, .int .i64 a1_1] 32 (0, 0)) zt14) hge) : gb482 ≠ gb489)); have n10_ := Aside0.mk ((Nat.ne_of_gt (Nat.lt_of_lt_of_le (blk_lt (g := gb482) (o := .cells #[.int .i64 a1_0, .int .i64 a1_1] 32 (0, 0)) zt14) hge) : gb489 ≠ gb482)); have n11_ := Aside0.mk (below_step zt3 hb); clear BK481; clear BK482; clear HB; have HO485 := n0_; have HO488 := n1_; have BK481 := n2_; have BK482 := n3_; have BK489 := n4_; have GW489 := n5_; have GE489 := n6_; have NB481_489 := n7_; have NB489_481 := n8_; have NB482_489 := n9_; have NB489_482 := n10_; have HB := n11_; clear n0_ n1_ n2_ n3_ n4_ n5_ n6_ n7_ n8_ n9_ n10_ n11_; (try clear hb); (try clear hb2); (try clear hk); (try clear hi); (try clear ho0); (try clear ho1); (try clear hgp); (try clear hbox); (try clear hge); (try clear hna_); (try clear hnb_); obtain ⟨Ao13, co13, eo13⟩ := Kd.R_slice HO485.out; subst eo13; obtain ⟨Ao14, co14, eo14⟩ := Kd.S_slice HO488.out; subst eo14) | ((with_reducible refine gate_callee (f := 61) rfl ?_); refine goesL_ (some 20) rfl rfl Try.func61 (by kernel_rfl) rfl #[.pointer (some ⟨gb489, 0, none⟩), .slice A2 l2.length c2] rfl zt16 ?_; (with_reducible refine (impl_graph_isPainting.calls k gb489 a0_0 a0_1 A0_2 c0_2 l0_2 a1_0 a1_1 Ao13 co13 t483 Ao14 co14 t486 _ _ l2 t492 _ ?side1 ?side2 ?side3 ?side4 ?side5 ?side6 ?side7 ?side8 ?side9 A6.out).mono ?_); (case side1 => exact zt18); (case side2 => exact zt6); (case side3 => exact HC0_2.out); (case side4 => repeat (first | exact (Kd.R_reads' HO485.out).2.2 | (with_reducible refine Kd.C_alloc ?_ _) | (with_reducible refine Kd.C_drewN ?_ _) | (with_reducible refine Kd.C_drew ?_))); (case side5 => exact (Kd.R_reads' HO485.out).2.1); (case side6 => repeat (first | exact (Kd.S_reads' HO488.out).2.2 | (with_reducible refine Kd.C_alloc ?_ _) | (with_reducible refine Kd.C_drewN ?_ _) | (with_reducible refine Kd.C_drew ?_))); (case side7 => exact (Kd.S_reads' HO488.out).2.1); (case side8 => repeat (first | exact (Kd.C_below HR2.out HB.out) | (with_reducible refine Kd.C_alloc ?_ _) | (with_reducible refine Kd.C_drewN ?_ _) | (with_reducible refine Kd.C_drew ?_))); (case side9 => exact HC2.out); rintro e w15 ⟨rfl, hb⟩; refine ⟨_, rfl, ?_⟩; have n0_ := Aside0.mk (Kd.R_below (by (with_reducible repeat (first | apply Kd.R_alloc | apply Kd.R_drewN | apply Kd.R_drew)); exact HO485.out) hb); have n1_ := Aside0.mk (Kd.S_below (by (with_reducible repeat (first | apply Kd.S_alloc | apply Kd.S_drewN | apply Kd.S_drew)); exact HO488.out) hb); have n2_ := Aside0.mk (blk_below (g := gb481) (o := .cells #[.int .i64 a0_0, .int .i64 a0_1, .slice A0_2 l0_2.length c0_2] 30 (0, 0)) zt7 hb); have n3_ := Aside0.mk (blk_below (g := gb482) (o := .cells #[.int .i64 a1_0, .int .i64 a1_1] 32 (0, 0)) zt14 hb); have n4_ := Aside0.mk (blk_below (g := gb489) (o := .cells #[.int .i64 a0_0, .int .i64 a0_1, .slice A0_2 l0_2.length c0_2, .int .i64 a1_0, .int .i64 a1_1, .slice Ao13 t483.length co13, .slice Ao14 t486.length co14] 60 (0, 0)) zt18 hb); have n5_ := Aside0.mk (below_step zt17 hb); clear HO485; clear HO488; clear BK481; clear BK482; clear BK489; clear HB; have HO485 := n0_; have HO488 := n1_; have BK481 := n2_; have BK482 := n3_; have BK489 := n4_; have HB := n5_; clear n0_ n1_ n2_ n3_ n4_ n5_; (try clear hb); (try clear hb2); (try clear hk); (try clear hi); (try clear hna_); (try clear hnb_)))
 go_ret2
 exact ⟨zt15, zt17⟩

end Go.Proofs.Ythoklbeenjppbaa.Q

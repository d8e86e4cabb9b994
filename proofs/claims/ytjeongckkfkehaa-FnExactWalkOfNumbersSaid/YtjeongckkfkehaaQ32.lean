/- Written by a program of this session: functions of the translation as plain Lean functions, each with a proof that the call does what the plain function says; the conditions stand in each theorem. -/
import Derived.Test.YtjeongckkfkehaaQ0
import Derived.Test.YtjeongckkfkehaaQ1
import Derived.Test.YtjeongckkfkehaaQ18
namespace Go.Proofs.Ytjeongckkfkehaa.Q
open Go.RowKit Go.Proofs.YtjeongckkfkehaaW.PrintWords Go.Proofs.YtjeongckkfkehaaW.PrintLast Go.Proofs.YtjeongckkfkehaaW.PrintMore
attribute [local go_sem] max2_int min2_int max_two min_two max_three min_three max_four min_four   -- for this text's walks alone
set_option linter.unusedVariables false
set_option linter.unusedSimpArgs false

theorem zag1 {p : Prop} (h : p := by repeat (first | (with_reducible first | exact HB.out | apply below_alloc | apply pw_below_drewN | apply below_drew1 | refine below_set ?_ GE884.out | refine below_set ?_ GE885.out) | exact HB.out)) : p := h
theorem zag2 {p : Prop} (h : p := by (with_reducible repeat (first | refine blk_drewN ?_ _ | refine blk_drew ?_ | refine blk_alloc ?_ _)); exact BK884.out) : p := h
theorem zag3 {p : Prop} (h : p := by (with_reducible repeat (first | refine blk_drewN ?_ _ | refine blk_drew ?_ | refine blk_alloc ?_ _)); exact BK885.out) : p := h
theorem zag4 {p : Prop} (h : p := by first | (with_reducible assumption) | assumption) : p := h
theorem zag5 {p : Prop} (h : p := by (with_reducible repeat (first | apply Kd.R_alloc | apply Kd.R_drewN | apply Kd.R_drew)); exact HO_11.out) : p := h
theorem zag6 {p : Prop} (h : p := by repeat (first | exact (Kd.C_below HR0_2.out HB.out) | (with_reducible refine Kd.C_alloc ?_ _) | (with_reducible refine Kd.C_drewN ?_ _) | (with_reducible refine Kd.C_drew ?_))) : p := h
theorem zag7 {p : Prop} (h : p := by first | rfl | (simp; done) | (simp [*]; done)) : p := h
theorem zag8 {p : Prop} (h : p := by (try simp only [List.map_toArray, List.map_cons, List.map_nil]); first | done | rfl | (simp only [List.length_drop, List.length_take]; rfl)) : p := h
theorem zag9 {p : Prop} (h : p := by first | exact Kd.R_nil _ _ _ _ _ | exact Kd.N_nil _ _ _ _ _ | exact Kd.V_nil _ _ _ _ _ | exact Kd.Q_nil _ _ _ _ _ | exact Kd.S_nil _ _ _ _ _) : p := h
theorem zag10 {p : Prop} (h : p := by first | rfl | (simp [errW_none, errW_some] <;> rfl) | (simp [*, errW_none, errW_some] <;> rfl)) : p := h
theorem zag11 {p : Prop} (h : p := by repeat (first | (with_reducible first | exact HB.out | apply below_alloc | apply pw_below_drewN | apply below_drew1 | refine below_set ?_ GE884.out) | exact HB.out)) : p := h
theorem zag12 {p : Prop} (h : p := by repeat (first | (with_reducible first | exact HB.out | apply below_alloc | apply pw_below_drewN | apply below_drew1) | exact HB.out)) : p := h
theorem zag13 {p : Prop} (h : p := by (with_reducible repeat (first | apply Kd.R_alloc | apply Kd.R_drewN | apply Kd.R_drew)); exact HO_68.out) : p := h
theorem zag14 {p : Prop} (h : p := by repeat (first | exact (Kd.R_reads' HO_11.out).2.2 | (with_reducible refine Kd.C_alloc ?_ _) | (with_reducible refine Kd.C_drewN ?_ _) | (with_reducible refine Kd.C_drew ?_))) : p := h
/-! ### spec_WalkOfNumbers: function 36 -/
mutual
def spec_WalkOfNumbers.j0 : Nat → List Int → Bool → Int → Int → List Int → Int → Int → Option (List Int × Bool)
 | 0, _, _, _, _, _, _, _ => none
 | k + 1, x2, x36, x885000, x885001, x885002, x886000, x886001 => if x36 = true then (some (([] : List Int), false)) else (spec_WalkOfNumbers.l0 k x2 0 x2 (x2.length : Int) 0 x885000 x885001 x885002 x886000 x886001)
def spec_WalkOfNumbers.l0 : Nat → List Int → Int → List Int → Int → Int → Int → Int → List Int → Int → Int → Option (List Int × Bool)
 | 0, _, _, _, _, _, _, _, _, _, _ => none
 | k + 1, x2, x8, x37, x38, x39, x885000, x885001, x885002, x886000, x886001 => if x39 < x38 then (if 0 ≤ x39 then (if x39 < (x37.length : Int) then (if (rd x37 x39) > 0 then (spec_WalkOfNumbers.l0 k x2 (wrap64 (x8 + 1)) x37 x38 (wrap64 (x39 + 1)) x885000 x885001 x885002 x886000 x886001) else (spec_WalkOfNumbers.l0 k x2 x8 x37 x38 (wrap64 (x39 + 1)) x885000 x885001 x885002 x886000 x886001)) else (none)) else (none)) else (if 0 ≤ x8 then (if (x8 : Int).toNat ≤ 35184372088832 then (spec_WalkOfNumbers.l1 k x2 x8 (List.replicate (x8 : Int).toNat 0) x2 (x2.length : Int) 0 x885000 x885001 x885002 x886000 x886001) else (none)) else (none))
def spec_WalkOfNumbers.l1 : Nat → List Int → Int → List Int → List Int → Int → Int → Int → Int → List Int → Int → Int → Option (List Int × Bool)
 | 0, _, _, _, _, _, _, _, _, _, _, _ => none
 | k + 1, x2, x8, x11, x50, x51, x52, x885000, x885001, x885002, x886000, x886001 => if x52 < x51 then (if 0 ≤ x52 then (if x52 < (x50.length : Int) then (if (rd x50 x52) > x8 then (some (([] : List Int), false)) else (if (rd x50 x52) > 0 then (if 0 ≤ (wrap64 ((rd x50 x52) - 1)) then (if (wrap64 ((rd x50 x52) - 1)) < (x11.length : Int) then (spec_WalkOfNumbers.l1 k x2 x8 (x11.set ((wrap64 ((rd x50 x52) - 1)) : Int).toNat x52) x50 x51 (wrap64 (x52 + 1)) x885000 x885001 x885002 x886000 x886001) else (none)) else (none)) else (spec_WalkOfNumbers.l1 k x2 x8 x11 x50 x51 (wrap64 (x52 + 1)) x885000 x885001 x885002 x886000 x886001))) else (none)) else (none)) else (spec_WalkOfNumbers.l2 k x2 x11 x11 (x11.length : Int) 0 x885000 x885001 x885002 x886000 x886001)
def spec_WalkOfNumbers.l2 : Nat → List Int → List Int → List Int → Int → Int → Int → Int → List Int → Int → Int → Option (List Int × Bool)
 | 0, _, _, _, _, _, _, _, _, _, _ => none
 | k + 1, x2, x11, x68, x69, x70, x885000, x885001, x885002, x886000, x886001 => if x70 < x69 then (if 0 ≤ x70 then (if x70 < (x68.length : Int) then (if 0 ≤ (rd x68 x70) then (if (rd x68 x70) < (x2.length : Int) then (if (rd x2 (rd x68 x70)) = (wrap64 (x70 + 1)) then (spec_WalkOfNumbers.l2 k x2 x11 x68 x69 (wrap64 (x70 + 1)) x885000 x885001 x885002 x886000 x886001) else (some (([] : List Int), false))) else (none)) else (none)) else (none)) else (none)) else ((spec_toWalk.f k x885000 x885001 x885002 x886000 x886001 x11).bind fun t896 => (if t896 = true then (some (x11, true)) else (some (([] : List Int), false))))
end
def spec_WalkOfNumbers.f (k : Nat) (a0_0 : Int) (a0_1 : Int) (l0_2 : List Int) (a1_0 : Int) (a1_1 : Int) (l2 : List Int) : Option (List Int × Bool) := (spec_boTwo.f k a0_0 a0_1 l0_2 a1_0 a1_1).bind fun t886 => (if t886 = true then (if (l2.length : Int) = (wrap64 (a0_0 * a0_1)) then ((spec_l1All.f k l2 0 (l2.length : Int)).bind fun t887 => (spec_WalkOfNumbers.j0 k l2 (!t887) a0_0 a0_1 l0_2 a1_0 a1_1)) else (spec_WalkOfNumbers.j0 k l2 true a0_0 a0_1 l0_2 a1_0 a1_1)) else (spec_WalkOfNumbers.j0 k l2 true a0_0 a0_1 l0_2 a1_0 a1_1))
set_option maxHeartbeats 8000000 in
set_option maxRecDepth 100000 in
theorem spec_WalkOfNumbers.calls (k : Nat) (a0_0 : Int) (a0_1 : Int) (A0_2 : Option Addr) (c0_2 : Nat) (l0_2 : List Int) (a1_0 : Int) (a1_1 : Int) (A2 : Option Addr) (c2 : Nat) (l2 : List Int) (r1 : List Int) (r2 : Bool) (w : World) (hr0_2 : Kd.C (Kd.int .i64) w A0_2 l0_2.length l0_2) (hc0_2 : l0_2.length ≤ c0_2) (hr2 : Kd.C (Kd.int .i64) w A2 l2.length l2) (hc2 : l2.length ≤ c2) (h : spec_WalkOfNumbers.f k a0_0 a0_1 l0_2 a1_0 a1_1 l2 = some (r1, r2)) :
  Calls Try.prog 36 #[.agg #[.int .i64 a0_0, .int .i64 a0_1, .slice A0_2 l0_2.length c0_2], .agg #[.int .i64 a1_0, .int .i64 a1_1], .slice A2 l2.length c2] w fun e w' => ∃ v0_ : Value, e = .returned (.tuple #[v0_, .bool r2]) ∧ Kd.R (Kd.int .i64) 3 w' w.heap.size (fun _ => True) v0_ r1 ∧ Below w.heap.size w w' := by
 have hu30 := Try.underlying30
 have hu32 := Try.underlying32
 have HR0_2 := Aside0.mk hr0_2
 have HC0_2 := Aside0.mk hc0_2
 clear hr0_2 hc0_2
 have HR2 := Aside0.mk hr2
 have HC2 := Aside0.mk hc2
 clear hr2 hc2
 have HB := Aside0.mk (Below.refl w.heap.size w)
 have H : ((spec_boTwo.f k a0_0 a0_1 l0_2 a1_0 a1_1).bind fun t886 => (if t886 = true then (if (l2.length : Int) = (wrap64 (a0_0 * a0_1)) then ((spec_l1All.f k l2 0 (l2.length : Int)).bind fun t887 => (spec_WalkOfNumbers.j0 k l2 (!t887) a0_0 a0_1 l0_2 a1_0 a1_1)) else (spec_WalkOfNumbers.j0 k l2 true a0_0 a0_1 l0_2 a1_0 a1_1)) else (spec_WalkOfNumbers.j0 k l2 true a0_0 a0_1 l0_2 a1_0 a1_1))) = some (r1, r2) := h
 clear h
 have HC4 := Aside0.mk H
 clear H
 go_enter Try.func36, Try.ntmps36
 go_upto_region 1 with (first | ((with_reducible refine gate_dst (N := 3) rfl ?_); (try (refine gate_guard (by rfl) ?_; dsimp only)); refine box_event ?hg (N := 3) ?hd (cs := #[.int .i64 a0_0, .int .i64 a0_1, .slice A0_2 l0_2.length c0_2]) (t := 30) ?hr ?_; (case hd => rfl); (case hg => rfl); (case hr => first | (go_simp; done) | (go_simp; rfl)); intro gb884 hg w5 hbox hb; have n0_ := Aside0.mk (below_step zag12 hb); have n1_ := Aside0.mk (hbox); have n2_ := Aside0.mk ((by rw [hg]; exact (below_size zag12) : w.heap.size ≤ gb884)); have n3_ := Aside0.mk ((by rw [hg]; exact (below_size zag12) : w.heap.size ≤ gb884)); clear HB; have HB := n0_; have BK884 := n1_; have GW884 := n2_; have GE884 := n3_; clear n0_ n1_ n2_ n3_; clear hb hbox hg) | ((with_reducible refine gate_dst (N := 4) rfl ?_); (try (refine gate_guard (by rfl) ?_; dsimp only)); refine box_event ?hg (N := 4) ?hd (cs := #[.int .i64 a1_0, .int .i64 a1_1]) (t := 32) ?hr ?_; (case hd => rfl); (case hg => rfl); (case hr => first | (go_simp; done) | (go_simp; rfl)); intro gb885 hg w6 hbox hb; have n0_ := Aside0.mk (blk_below (g := gb884) (o := .cells #[.int .i64 a0_0, .int .i64 a0_1, .slice A0_2 l0_2.length c0_2] 30 (0, 0)) zag2 hb); have n1_ := Aside0.mk (below_step zag11 hb); have n2_ := Aside0.mk (hbox); have n3_ := Aside0.mk ((by rw [hg]; exact (below_size zag11) : w.heap.size ≤ gb885)); have n4_ := Aside0.mk ((by rw [hg]; exact (below_size zag11) : w.heap.size ≤ gb885)); have n5_ := Aside0.mk ((by rw [hg]; exact Nat.ne_of_lt (blk_lt (g := gb884) (o := .cells #[.int .i64 a0_0, .int .i64 a0_1, .slice A0_2 l0_2.length c0_2] 30 (0, 0)) zag2) : gb884 ≠ gb885)); have n6_ := Aside0.mk ((by rw [hg]; exact Nat.ne_of_gt (blk_lt (g := gb884) (o := .cells #[.int .i64 a0_0, .int .i64 a0_1, .slice A0_2 l0_2.length c0_2] 30 (0, 0)) zag2) : gb885 ≠ gb884)); clear BK884; clear HB; have BK884 := n0_; have HB := n1_; have BK885 := n2_; have GW885 := n3_; have GE885 := n4_; have NB884_885 := n5_; have NB885_884 := n6_; clear n0_ n1_ n2_ n3_ n4_ n5_ n6_; clear hb hbox hg))
 (try simp only [Act.put, List.setIfInBounds_toArray, List.set_cons_zero, List.set_cons_succ])
 go_cut [36] (fun v36 wc => ∃ (kq : Nat) (x36_3 : Bool), v36 = .bool x36_3 ∧ Aside0 (spec_WalkOfNumbers.j0 kq l2 x36_3 a0_0 a0_1 l0_2 a1_0 a1_1 = some (r1, r2)) ∧ Aside0 (kq ≤ k) ∧ Aside0 (wc.heap[gb884]? = some (.cells #[.int .i64 a0_0, .int .i64 a0_1, (.slice A0_2 l0_2.length c0_2)] 30 (0, 0))) ∧ Aside0 (wc.heap[gb885]? = some (.cells #[.int .i64 a1_0, .int .i64 a1_1] 32 (0, 0))) ∧ Aside0 (Below w.heap.size w wc))
 case first =>
  have H := HC4.out
  clear HC4
  replace H := Option.bind_eq_some_iff.mp H
  obtain ⟨t886, A70, H⟩ := H
  replace H : (if t886 = true then (if (l2.length : Int) = (wrap64 (a0_0 * a0_1)) then ((spec_l1All.f k l2 0 (l2.length : Int)).bind fun t887 => (spec_WalkOfNumbers.j0 k l2 (!t887) a0_0 a0_1 l0_2 a1_0 a1_1)) else (spec_WalkOfNumbers.j0 k l2 true a0_0 a0_1 l0_2 a1_0 a1_1)) else (spec_WalkOfNumbers.j0 k l2 true a0_0 a0_1 l0_2 a1_0 a1_1)) = some (r1, r2) := H
  have A7 := Aside0.mk A70
  clear A70
  by_cases c8 : t886 = true
  rotate_left
  ·replace c8 := Bool.eq_false_iff.mpr c8
   subst c8
   have H1 : (spec_WalkOfNumbers.j0 k l2 true a0_0 a0_1 l0_2 a1_0 a1_1) = some (r1, r2) := by rw [if_neg (show ¬ (false = true) by decide)] at H; exact H
   clear H
   have H := H1
   clear H1
   have H' := Aside0.mk H
   clear H
   have hnb21 := NB884_885.out
   have hnc21 := NB885_884.out
   have hcz22_0 : w6.cell? ⟨gb884, 0, none⟩ = some (.int .i64 a0_0) := (blk_cell BK884.out 0).trans rfl
   have hcz22_1 : w6.cell? ⟨gb884, 1, none⟩ = some (.int .i64 a0_1) := (blk_cell BK884.out 1).trans rfl
   have hcz22_2 : w6.cell? ⟨gb884, 2, none⟩ = some (.slice A0_2 l0_2.length c0_2) := (blk_cell BK884.out 2).trans rfl
   have hfz22_0 := blk_frozen BK884.out 0
   have hfz22_1 := blk_frozen BK884.out 1
   have hfz22_2 := blk_frozen BK884.out 2
   have hcz23_0 : w6.cell? ⟨gb885, 0, none⟩ = some (.int .i64 a1_0) := (blk_cell BK885.out 0).trans rfl
   have hcz23_1 : w6.cell? ⟨gb885, 1, none⟩ = some (.int .i64 a1_1) := (blk_cell BK885.out 1).trans rfl
   have hfz23_0 := blk_frozen BK885.out 0
   have hfz23_1 := blk_frozen BK885.out 1
   go_wp2_with (first | ((with_reducible refine gate_callee (f := 53) rfl ?_); refine goesL_ (some 18) rfl rfl Try.func53 (by kernel_rfl) rfl #[.agg #[.int .i64 a0_0, .int .i64 a0_1, .slice A0_2 l0_2.length c0_2], .agg #[.int .i64 a1_0, .int .i64 a1_1]] rfl zag8 ?_; (with_reducible refine (spec_boTwo.calls k a0_0 a0_1 _ _ l0_2 a1_0 a1_1 false _ ?side1 ?side2 A7.out).mono ?_); (case side1 => exact zag6); (case side2 => exact HC0_2.out); rintro e w24 ⟨rfl, hb⟩; refine ⟨_, rfl, ?_⟩; have n0_ := Aside0.mk (blk_below (g := gb884) (o := .cells #[.int .i64 a0_0, .int .i64 a0_1, .slice A0_2 l0_2.length c0_2] 30 (0, 0)) zag2 hb); have n1_ := Aside0.mk (blk_below (g := gb885) (o := .cells #[.int .i64 a1_0, .int .i64 a1_1] 32 (0, 0)) zag3 hb); have n2_ := Aside0.mk (below_step zag1 hb); clear BK884; clear BK885; clear HB; have BK884 := n0_; have BK885 := n1_; have HB := n2_; clear n0_ n1_ n2_; (try clear hb); (try clear hb2); (try clear hk); (try clear hi); (try clear hna_); (try clear hnb_)))
   go_meet
   case rel => exact ⟨_, (true), zag7, H', ⟨by first | omega | exact Nat.le_refl _⟩, ⟨zag2⟩, ⟨zag3⟩, ⟨zag1⟩⟩
  subst c8
  have H1 : (if (l2.length : Int) = (wrap64 (a0_0 * a0_1)) then ((spec_l1All.f k l2 0 (l2.length : Int)).bind fun t887 => (spec_WalkOfNumbers.j0 k l2 (!t887) a0_0 a0_1 l0_2 a1_0 a1_1)) else (spec_WalkOfNumbers.j0 k l2 true a0_0 a0_1 l0_2 a1_0 a1_1)) = some (r1, r2) := by rw [if_pos rfl] at H; exact H
  clear H
  have H := H1
  clear H1
  by_cases c9 : (l2.length : Int) = (wrap64 (a0_0 * a0_1))
  rotate_left
  ·rw [if_neg c9] at H
   have c9b0 : ((l2.length : Int) == (wrap64 (a0_0 * a0_1))) = false := beq_eq_false_iff_ne.mpr c9
   have c9b1 : ((l2.length : Int) != (wrap64 (a0_0 * a0_1))) = true := bne_iff_ne.mpr c9
   (first | rw [c9b0] | (simp only [i64_w, i32_w]; rw [c9b0]) | skip)
   have H' := Aside0.mk H
   clear H
   have hnb16 := NB884_885.out
   have hnc16 := NB885_884.out
   have hcz17_0 : w6.cell? ⟨gb884, 0, none⟩ = some (.int .i64 a0_0) := (blk_cell BK884.out 0).trans rfl
   have hcz17_1 : w6.cell? ⟨gb884, 1, none⟩ = some (.int .i64 a0_1) := (blk_cell BK884.out 1).trans rfl
   have hcz17_2 : w6.cell? ⟨gb884, 2, none⟩ = some (.slice A0_2 l0_2.length c0_2) := (blk_cell BK884.out 2).trans rfl
   have hfz17_0 := blk_frozen BK884.out 0
   have hfz17_1 := blk_frozen BK884.out 1
   have hfz17_2 := blk_frozen BK884.out 2
   have hcz18_0 : w6.cell? ⟨gb885, 0, none⟩ = some (.int .i64 a1_0) := (blk_cell BK885.out 0).trans rfl
   have hcz18_1 : w6.cell? ⟨gb885, 1, none⟩ = some (.int .i64 a1_1) := (blk_cell BK885.out 1).trans rfl
   have hfz18_0 := blk_frozen BK885.out 0
   have hfz18_1 := blk_frozen BK885.out 1
   go_wp2_with (first | ((with_reducible refine gate_callee (f := 53) rfl ?_); refine goesL_ (some 18) rfl rfl Try.func53 (by kernel_rfl) rfl #[.agg #[.int .i64 a0_0, .int .i64 a0_1, .slice A0_2 l0_2.length c0_2], .agg #[.int .i64 a1_0, .int .i64 a1_1]] rfl zag8 ?_; (with_reducible refine (spec_boTwo.calls k a0_0 a0_1 _ _ l0_2 a1_0 a1_1 true _ ?side1 ?side2 A7.out).mono ?_); (case side1 => exact zag6); (case side2 => exact HC0_2.out); rintro e w19 ⟨rfl, hb⟩; refine ⟨_, rfl, ?_⟩; have n0_ := Aside0.mk (blk_below (g := gb884) (o := .cells #[.int .i64 a0_0, .int .i64 a0_1, .slice A0_2 l0_2.length c0_2] 30 (0, 0)) zag2 hb); have n1_ := Aside0.mk (blk_below (g := gb885) (o := .cells #[.int .i64 a1_0, .int .i64 a1_1] 32 (0, 0)) zag3 hb); have n2_ := Aside0.mk (below_step zag1 hb); clear BK884; clear BK885; clear HB; have BK884 := n0_; have BK885 := n1_; have HB := n2_; clear n0_ n1_ n2_; (try clear hb); (try clear hb2); (try clear hk); (try clear hi); (try clear hna_); (try clear hnb_); have hcz20_0 : w19.cell? ⟨gb884, 0, none⟩ = some (.int .i64 a0_0) := (blk_cell BK884.out 0).trans rfl; have hcz20_1 : w19.cell? ⟨gb884, 1, none⟩ = some (.int .i64 a0_1) := (blk_cell BK884.out 1).trans rfl; have hcz20_2 : w19.cell? ⟨gb884, 2, none⟩ = some (.slice A0_2 l0_2.length c0_2) := (blk_cell BK884.out 2).trans rfl; have hfz20_0 := blk_frozen BK884.out 0; have hfz20_1 := blk_frozen BK884.out 1; have hfz20_2 := blk_frozen BK884.out 2))
   go_meet
   case rel => exact ⟨_, (true), zag7, H', ⟨by first | omega | exact Nat.le_refl _⟩, ⟨zag2⟩, ⟨zag3⟩, ⟨zag1⟩⟩
  rw [if_pos c9] at H
  have c9b0 : ((l2.length : Int) == (wrap64 (a0_0 * a0_1))) = true := beq_iff_eq.mpr c9
  have c9b1 : ((l2.length : Int) != (wrap64 (a0_0 * a0_1))) = false := bne_eq_false_iff_eq.mpr c9
  clear c9
  (first | rw [c9b0] | (simp only [i64_w, i32_w]; rw [c9b0]) | skip)
  replace H := Option.bind_eq_some_iff.mp H
  obtain ⟨t887, A100, H⟩ := H
  replace H : (spec_WalkOfNumbers.j0 k l2 (!t887) a0_0 a0_1 l0_2 a1_0 a1_1) = some (r1, r2) := H
  have A10 := Aside0.mk A100
  clear A100
  have H' := Aside0.mk H
  clear H
  have hnb11 := NB884_885.out
  have hnc11 := NB885_884.out
  have hcz12_0 : w6.cell? ⟨gb884, 0, none⟩ = some (.int .i64 a0_0) := (blk_cell BK884.out 0).trans rfl
  have hcz12_1 : w6.cell? ⟨gb884, 1, none⟩ = some (.int .i64 a0_1) := (blk_cell BK884.out 1).trans rfl
  have hcz12_2 : w6.cell? ⟨gb884, 2, none⟩ = some (.slice A0_2 l0_2.length c0_2) := (blk_cell BK884.out 2).trans rfl
  have hfz12_0 := blk_frozen BK884.out 0
  have hfz12_1 := blk_frozen BK884.out 1
  have hfz12_2 := blk_frozen BK884.out 2
  have hcz13_0 : w6.cell? ⟨gb885, 0, none⟩ = some (.int .i64 a1_0) := (blk_cell BK885.out 0).trans rfl
  have hcz13_1 : w6.cell? ⟨gb885, 1, none⟩ = some (.int .i64 a1_1) := (blk_cell BK885.out 1).trans rfl
  have hfz13_0 := blk_frozen BK885.out 0
  have hfz13_1 := blk_frozen BK885.out 1
  go_wp2_with (first | ((with_reducible refine gate_callee (f := 53) rfl ?_); refine goesL_ (some 18) rfl rfl Try.func53 (by kernel_rfl) rfl #[.agg #[.int .i64 a0_0, .int .i64 a0_1, .slice A0_2 l0_2.length c0_2], .agg #[.int .i64 a1_0, .int .i64 a1_1]] rfl zag8 ?_; (with_reducible refine (spec_boTwo.calls k a0_0 a0_1 _ _ l0_2 a1_0 a1_1 true _ ?side1 ?side2 A7.out).mono ?_); (case side1 => exact zag6); (case side2 => exact HC0_2.out); rintro e w14 ⟨rfl, hb⟩; refine ⟨_, rfl, ?_⟩; have n0_ := Aside0.mk (blk_below (g := gb884) (o := .cells #[.int .i64 a0_0, .int .i64 a0_1, .slice A0_2 l0_2.length c0_2] 30 (0, 0)) zag2 hb); have n1_ := Aside0.mk (blk_below (g := gb885) (o := .cells #[.int .i64 a1_0, .int .i64 a1_1] 32 (0, 0)) zag3 hb); have n2_ := Aside0.mk (below_step zag1 hb); clear BK884; clear BK885; clear HB; have BK884 := n0_; have BK885 := n1_; have HB := n2_; clear n0_ n1_ n2_; (try clear hb); (try clear hb2); (try clear hk); (try clear hi); (try clear hna_); (try clear hnb_); have hcz15_0 : w14.cell? ⟨gb884, 0, none⟩ = some (.int .i64 a0_0) := (blk_cell BK884.out 0).trans rfl; have hcz15_1 : w14.cell? ⟨gb884, 1, none⟩ = some (.int .i64 a0_1) := (blk_cell BK884.out 1).trans rfl; have hcz15_2 : w14.cell? ⟨gb884, 2, none⟩ = some (.slice A0_2 l0_2.length c0_2) := (blk_cell BK884.out 2).trans rfl; have hfz15_0 := blk_frozen BK884.out 0; have hfz15_1 := blk_frozen BK884.out 1; have hfz15_2 := blk_frozen BK884.out 2) | (go_at_call 70; (with_reducible refine (spec_l1All.calls k _ _ l2 0 (l2.length : Int) t887 _ ?side1 ?side2 A10.out).mono ?_); (case side1 => repeat (first | exact (Kd.C_below HR2.out HB.out) | (with_reducible refine Kd.C_alloc ?_ _) | (with_reducible refine Kd.C_drewN ?_ _) | (with_reducible refine Kd.C_drew ?_))); (case side2 => exact HC2.out); rintro e w' ⟨rfl, ⟨nd, rfl⟩⟩))
  go_meet
  case rel => exact ⟨_, (!t887), zag7, H', ⟨by first | omega | exact Nat.le_refl _⟩, ⟨zag2⟩, ⟨zag3⟩, ⟨zag1⟩⟩
 case rest =>
  clear HC4
  try clear c1; try clear c2; try clear p2; try clear c3; try clear c5; try clear p6; try clear c8; try clear c9; try clear c9b0; try clear c9b1; try clear c11; try clear c16; try clear c21; try clear hcz12_0; try clear hcz12_1; try clear hcz12_2; try clear hcz13_0; try clear hcz13_1; try clear hcz15_0; try clear hcz15_1; try clear hcz15_2; try clear hcz17_0; try clear hcz17_1; try clear hcz17_2; try clear hcz18_0; try clear hcz18_1; try clear hcz20_0; try clear hcz20_1; try clear hcz20_2; try clear hcz22_0; try clear hcz22_1; try clear hcz22_2; try clear hcz23_0; try clear hcz23_1; try clear hfz12_0
  try clear hfz12_1; try clear hfz12_2; try clear hfz13_0; try clear hfz13_1; try clear hfz15_0; try clear hfz15_1; try clear hfz15_2; try clear hfz17_0; try clear hfz17_1; try clear hfz17_2; try clear hfz18_0; try clear hfz18_1; try clear hfz20_0; try clear hfz20_1; try clear hfz20_2; try clear hfz22_0; try clear hfz22_1; try clear hfz22_2; try clear hfz23_0; try clear hfz23_1
  obtain ⟨kq, x36_3, rfl, HA, HJ3, BK884, BK885, HB⟩ := hcut
  cases kq with
  | zero => exact absurd HA.out (by simp [spec_WalkOfNumbers.j0])
  | succ kj3 =>
   have H := HA.out
   clear HA
   simp only [spec_WalkOfNumbers.j0] at H
   by_cases c25 : x36_3 = true
   ·subst c25
    have H1 : (some (([] : List Int), false)) = some (r1, r2) := by rw [if_pos rfl] at H; exact H
    clear H
    have H := H1
    clear H1
    simp only [Option.some.injEq, Prod.mk.injEq] at H
    obtain ⟨rfl, rfl⟩ := H
    go_wp2
    go_ret2
    exact ⟨_, zag10, zag9, zag1⟩
   replace c25 := Bool.eq_false_iff.mpr c25
   subst c25
   have H1 : (spec_WalkOfNumbers.l0 kj3 l2 0 l2 (l2.length : Int) 0 a0_0 a0_1 l0_2 a1_0 a1_1) = some (r1, r2) := by rw [if_neg (show ¬ (false = true) by decide)] at H; exact H
   clear H
   have H := H1
   clear H1
   have H' := Aside0.mk H
   clear H
   go_wp2
   go_loopg [8, 39] kj3 (fun kq v8 v39 w' => ∃ (x8_2 : Int) (x39_2 : Int), v8 = .int .i64 x8_2 ∧ v39 = .int .i64 x39_2 ∧ Aside0 (spec_WalkOfNumbers.l0 kq l2 x8_2 l2 (l2.length : Int) x39_2 a0_0 a0_1 l0_2 a1_0 a1_1 = some (r1, r2)) ∧ Aside0 (kq ≤ kj3) ∧ Aside0 (w'.heap[gb884]? = some (.cells #[.int .i64 a0_0, .int .i64 a0_1, (.slice A0_2 l0_2.length c0_2)] 30 (0, 0))) ∧ Aside0 (w'.heap[gb885]? = some (.cells #[.int .i64 a1_0, .int .i64 a1_1] 32 (0, 0))) ∧ Aside0 (Below w.heap.size w w'))
   case atStart => exact ⟨(0), (0), zag7, zag7, H', ⟨Nat.le_refl _⟩, ⟨zag2⟩, ⟨zag3⟩, ⟨zag1⟩⟩
   case round =>
    clear H'
    try clear c1; try clear c2; try clear p2; try clear c3; try clear c5; try clear p6; try clear c8; try clear c9; try clear c9b0; try clear c9b1; try clear c11; try clear c16; try clear c21; try clear c25; try clear hcz12_0; try clear hcz12_1; try clear hcz12_2; try clear hcz13_0; try clear hcz13_1; try clear hcz15_0; try clear hcz15_1; try clear hcz15_2; try clear hcz17_0; try clear hcz17_1; try clear hcz17_2; try clear hcz18_0; try clear hcz18_1; try clear hcz20_0; try clear hcz20_1; try clear hcz20_2; try clear hcz22_0; try clear hcz22_1; try clear hcz22_2; try clear hcz23_0; try clear hcz23_1
    try clear hfz12_0; try clear hfz12_1; try clear hfz12_2; try clear hfz13_0; try clear hfz13_1; try clear hfz15_0; try clear hfz15_1; try clear hfz15_2; try clear hfz17_0; try clear hfz17_1; try clear hfz17_2; try clear hfz18_0; try clear hfz18_1; try clear hfz20_0; try clear hfz20_1; try clear hfz20_2; try clear hfz22_0; try clear hfz22_1; try clear hfz22_2; try clear hfz23_0; try clear hfz23_1; try clear p2; try clear p6
    obtain ⟨x8_2, x39_2, rfl, rfl, HA, HK2, BK884, BK885, HB⟩ := hrel
    cases gk with
    | zero => exact absurd HA.out (by simp [spec_WalkOfNumbers.l0])
    | succ k2 =>
     have H := HA.out
     clear HA
     simp only [spec_WalkOfNumbers.l0] at H
     by_cases c26 : x39_2 < (l2.length : Int)
     ·rw [if_pos c26] at H
      have c26b0 : decide (x39_2 < (l2.length : Int)) = true := decide_eq_true c26
      clear c26
      by_cases c27 : 0 ≤ x39_2
      rotate_left
      ·rw [if_neg c27] at H
       exact absurd H (by simp)
      rw [if_pos c27] at H
      have c27b0 : decide (0 ≤ x39_2) = true := decide_eq_true c27
      clear c27
      by_cases c28 : x39_2 < (l2.length : Int)
      rotate_left
      ·rw [if_neg c28] at H
       exact absurd H (by simp)
      rw [if_pos c28] at H
      have c28b0 : decide (x39_2 < (l2.length : Int)) = true := decide_eq_true c28
      clear c28
      by_cases c29 : (rd l2 x39_2) > 0
      ·rw [if_pos c29] at H
       have c29b0 : decide (0 < (rd l2 x39_2)) = true := decide_eq_true c29
       clear c29
       have H' := Aside0.mk H
       clear H
       have p888 : 0 ≤ (x39_2 : Int) := of_decide_eq_true zag4
       have q888 : x39_2 < (l2.length : Int) := of_decide_eq_true zag4
       obtain ⟨ad888, e888, hx888_0⟩ := Kd.at_int HR2.out x39_2 p888 q888
       cases e888
       (first | replace hx888_0 := (HB.out.cell (World.block_lt_of_cell? w _ hx888_0)).trans hx888_0 | skip)
       replace p888 := eq_true p888
       replace q888 := eq_true q888
       go_wp2
       go_roundg k2
       case measure => have := HJ3.out; have := HK2.out; omega
       case rel => exact ⟨(wrap64 (x8_2 + 1)), (wrap64 (x39_2 + 1)), zag7, zag7, H', ⟨by have := HJ3.out; have := HK2.out; omega⟩, ⟨zag2⟩, ⟨zag3⟩, ⟨zag1⟩⟩
      rw [if_neg c29] at H
      have c29b0 : decide (0 < (rd l2 x39_2)) = false := decide_eq_false c29
      clear c29
      have H' := Aside0.mk H
      clear H
      have p888 : 0 ≤ (x39_2 : Int) := of_decide_eq_true zag4
      have q888 : x39_2 < (l2.length : Int) := of_decide_eq_true zag4
      obtain ⟨ad888, e888, hx888_0⟩ := Kd.at_int HR2.out x39_2 p888 q888
      cases e888
      (first | replace hx888_0 := (HB.out.cell (World.block_lt_of_cell? w _ hx888_0)).trans hx888_0 | skip)
      replace p888 := eq_true p888
      replace q888 := eq_true q888
      go_wp2
      go_roundg k2
      case measure => have := HJ3.out; have := HK2.out; omega
      case rel => exact ⟨(x8_2), (wrap64 (x39_2 + 1)), zag7, zag7, H', ⟨by have := HJ3.out; have := HK2.out; omega⟩, ⟨zag2⟩, ⟨zag3⟩, ⟨zag1⟩⟩
     rw [if_neg c26] at H
     have c26b0 : decide (x39_2 < (l2.length : Int)) = false := decide_eq_false c26
     clear c26
     by_cases c30 : 0 ≤ x8_2
     rotate_left
     ·rw [if_neg c30] at H
      exact absurd H (by simp)
     rw [if_pos c30] at H
     have c30b0 := eq_true c30
     have c30b1 : decide (0 ≤ x8_2) = true := decide_eq_true c30
     clear c30
     by_cases c31 : (x8_2 : Int).toNat ≤ 35184372088832
     rotate_left
     ·rw [if_neg c31] at H
      exact absurd H (by simp)
     rw [if_pos c31] at H
     have c31b0 := eq_true c31
     have c31b1 : decide ((x8_2 : Int).toNat ≤ 35184372088832) = true := decide_eq_true c31
     clear c31
     obtain ⟨y889, hy889⟩ : ∃ y_ : List Int, y_ = (List.replicate (x8_2 : Int).toNat 0) := ⟨_, rfl⟩
     replace H : (spec_WalkOfNumbers.l1 k2 l2 x8_2 y889 l2 (l2.length : Int) 0 a0_0 a0_1 l0_2 a1_0 a1_1) = some (r1, r2) := by first | (rw [hy889]; with_reducible exact H) | (have H2_ := (Option.bind_some _ _).symm.trans H; rw [hy889]; with_reducible exact H2_) | (have H2_ := (Option.bind_some _ _).symm.trans H; with_reducible exact H2_) | with_reducible exact H | (rw [hy889]; exact H) | exact H
     have Ny889 := Aside0.mk hy889
     clear hy889
     have H' := Aside0.mk H
     clear H
     go_wp2_with (first | ((with_reducible refine gate_dst (N := 49) rfl ?_); (try (refine gate_guard (by rfl) ?_; dsimp only)); refine Kd.R_make (Kd.int .i64) _ 3 rfl (N := 49) rfl 22 _ _ rfl x8_2 rfl rfl Try.underlying22 (.int .i64 0) 8 info3 rfl (by decide) (by omega) 0 (ok := fun _ => True) (okp := fun _ => True) rfl (fun _ hk => hk) trivial (of_decide_eq_true zag4) (Nat.le_trans (Nat.mul_le_mul_right _ (of_decide_eq_true zag4 : x8_2.toNat ≤ 35184372088832)) (by omega)) (Below.refl _ _) (Nat.le_refl _) ?_; intro v890 w32 ho33 hb hg_ hnew_; clear hg_ hnew_; (first | rw [← Ny889.out] at ho33 | (simp only [Int.reduceToNat] at ho33; rw [← Ny889.out] at ho33)); have n0_ := Aside0.mk (Kd.R_lower ho33 (below_size zag1)); have n1_ := Aside0.mk (blk_below (g := gb884) (o := .cells #[.int .i64 a0_0, .int .i64 a0_1, .slice A0_2 l0_2.length c0_2] 30 (0, 0)) zag2 hb); have n2_ := Aside0.mk (blk_below (g := gb885) (o := .cells #[.int .i64 a1_0, .int .i64 a1_1] 32 (0, 0)) zag3 hb); have n3_ := Aside0.mk (below_step zag1 hb); clear BK884; clear BK885; clear HB; have HO891 := n0_; have BK884 := n1_; have BK885 := n2_; have HB := n3_; clear n0_ n1_ n2_ n3_; clear hb ho33))
     go_loopg [52] k2 (fun kq v52 w' => ∃ (x11_3 : List Int) (x52_3 : Int), v52 = .int .i64 x52_3 ∧ Aside0 (spec_WalkOfNumbers.l1 kq l2 x8_2 x11_3 l2 (l2.length : Int) x52_3 a0_0 a0_1 l0_2 a1_0 a1_1 = some (r1, r2)) ∧ Aside0 (kq ≤ k2) ∧ Aside0 (Kd.R (Kd.int .i64) 3 w' w.heap.size (fun _ => True) v890 x11_3) ∧ Aside0 (w'.heap[gb884]? = some (.cells #[.int .i64 a0_0, .int .i64 a0_1, (.slice A0_2 l0_2.length c0_2)] 30 (0, 0))) ∧ Aside0 (w'.heap[gb885]? = some (.cells #[.int .i64 a1_0, .int .i64 a1_1] 32 (0, 0))) ∧ Aside0 (Below w.heap.size w w'))
     case atStart => exact ⟨(y889), (0), zag7, H', ⟨Nat.le_refl _⟩, ⟨by (with_reducible repeat (first | apply Kd.R_alloc | apply Kd.R_drewN | apply Kd.R_drew)); exact HO891.out⟩, ⟨zag2⟩, ⟨zag3⟩, ⟨zag1⟩⟩
     case round =>
      clear H'
      try clear c1; try clear c2; try clear p2; try clear c3; try clear c5; try clear p6; try clear c8; try clear p8; try clear q8; try clear hx8; try clear c9; try clear c9b0; try clear c9b1; try clear c11; try clear c16; try clear c21; try clear c25; try clear c26; try clear c26b0; try clear c27; try clear c27b0; try clear c28; try clear c28b0; try clear c29; try clear c29b0; try clear c30; try clear c30b0; try clear c30b1; try clear c31; try clear c31b0; try clear c31b1; try clear hcz12_0; try clear hcz12_1; try clear hcz12_2; try clear hcz13_0; try clear hcz13_1; try clear hcz15_0; try clear hcz15_1
      try clear hcz15_2; try clear hcz17_0; try clear hcz17_1; try clear hcz17_2; try clear hcz18_0; try clear hcz18_1; try clear hcz20_0; try clear hcz20_1; try clear hcz20_2; try clear hcz22_0; try clear hcz22_1; try clear hcz22_2; try clear hcz23_0; try clear hcz23_1; try clear hfz12_0; try clear hfz12_1; try clear hfz12_2; try clear hfz13_0; try clear hfz13_1; try clear hfz15_0; try clear hfz15_1; try clear hfz15_2; try clear hfz17_0; try clear hfz17_1; try clear hfz17_2; try clear hfz18_0; try clear hfz18_1; try clear hfz20_0; try clear hfz20_1; try clear hfz20_2; try clear hfz22_0; try clear hfz22_1
      try clear hfz22_2; try clear hfz23_0; try clear hfz23_1; try clear hx888_0; try clear p2; try clear p6; try clear p888; try clear q888
      obtain ⟨x11_3, x52_3, rfl, HA, HK3, HO_11, BK884, BK885, HB⟩ := hrel
      cases gk with
      | zero => exact absurd HA.out (by simp [spec_WalkOfNumbers.l1])
      | succ k3 =>
       have H := HA.out
       clear HA
       simp only [spec_WalkOfNumbers.l1] at H
       by_cases c34 : x52_3 < (l2.length : Int)
       ·rw [if_pos c34] at H
        have c34b0 : decide (x52_3 < (l2.length : Int)) = true := decide_eq_true c34
        clear c34
        by_cases c35 : 0 ≤ x52_3
        rotate_left
        ·rw [if_neg c35] at H
         exact absurd H (by simp)
        rw [if_pos c35] at H
        have c35b0 : decide (0 ≤ x52_3) = true := decide_eq_true c35
        clear c35
        by_cases c36 : x52_3 < (l2.length : Int)
        rotate_left
        ·rw [if_neg c36] at H
         exact absurd H (by simp)
        rw [if_pos c36] at H
        have c36b0 : decide (x52_3 < (l2.length : Int)) = true := decide_eq_true c36
        clear c36
        by_cases c37 : (rd l2 x52_3) > x8_2
        ·rw [if_pos c37] at H
         have c37b0 : decide (x8_2 < (rd l2 x52_3)) = true := decide_eq_true c37
         clear c37
         simp only [Option.some.injEq, Prod.mk.injEq] at H
         obtain ⟨rfl, rfl⟩ := H
         have p892 : 0 ≤ (x52_3 : Int) := of_decide_eq_true zag4
         have q892 : x52_3 < (l2.length : Int) := of_decide_eq_true zag4
         obtain ⟨ad892, e892, hx892_0⟩ := Kd.at_int HR2.out x52_3 p892 q892
         cases e892
         (first | replace hx892_0 := (HB.out.cell (World.block_lt_of_cell? w _ hx892_0)).trans hx892_0 | skip)
         replace p892 := eq_true p892
         replace q892 := eq_true q892
         go_wp2
         go_ret2
         exact ⟨_, zag10, zag9, zag1⟩
        rw [if_neg c37] at H
        have c37b0 : decide (x8_2 < (rd l2 x52_3)) = false := decide_eq_false c37
        clear c37
        by_cases c38 : (rd l2 x52_3) > 0
        rotate_left
        ·rw [if_neg c38] at H
         have c38b0 : decide (0 < (rd l2 x52_3)) = false := decide_eq_false c38
         clear c38
         have H' := Aside0.mk H
         clear H
         have p892 : 0 ≤ (x52_3 : Int) := of_decide_eq_true zag4
         have q892 : x52_3 < (l2.length : Int) := of_decide_eq_true zag4
         obtain ⟨ad892, e892, hx892_0⟩ := Kd.at_int HR2.out x52_3 p892 q892
         cases e892
         (first | replace hx892_0 := (HB.out.cell (World.block_lt_of_cell? w _ hx892_0)).trans hx892_0 | skip)
         replace p892 := eq_true p892
         replace q892 := eq_true q892
         go_wp2
         go_roundg k3
         case measure => have := HJ3.out; have := HK2.out; have := HK3.out; omega
         case rel => exact ⟨(x11_3), (wrap64 (x52_3 + 1)), zag7, H', ⟨by have := HJ3.out; have := HK2.out; have := HK3.out; omega⟩, ⟨zag5⟩, ⟨zag2⟩, ⟨zag3⟩, ⟨zag1⟩⟩
        rw [if_pos c38] at H
        have c38b0 : decide (0 < (rd l2 x52_3)) = true := decide_eq_true c38
        clear c38
        obtain ⟨ji39, hji39⟩ : ∃ j_ : Int, (wrap64 ((rd l2 x52_3) - 1)) = j_ := ⟨_, rfl⟩
        replace H : (if 0 ≤ (ji39) then (if (ji39) < (x11_3.length : Int) then (spec_WalkOfNumbers.l1 k3 l2 x8_2 (x11_3.set ((ji39) : Int).toNat x52_3) l2 (l2.length : Int) (wrap64 (x52_3 + 1)) a0_0 a0_1 l0_2 a1_0 a1_1) else (none)) else (none)) = some (r1, r2) := by first | (rw [hji39] at H; exact H) | (simp only [hji39] at H ⊢; exact H)
        have hji39w : (IntKind.i64.wrap ((rd l2 x52_3) - 1)) = ji39 := (i64_w _).trans hji39
        by_cases c40 : 0 ≤ (ji39)
        rotate_left
        ·rw [if_neg c40] at H
         exact absurd H (by simp)
        rw [if_pos c40] at H
        have c40b0 : decide (0 ≤ (ji39)) = true := decide_eq_true c40
        clear c40
        by_cases c41 : (ji39) < (x11_3.length : Int)
        rotate_left
        ·rw [if_neg c41] at H
         exact absurd H (by simp)
        rw [if_pos c41] at H
        have c41b0 : decide ((ji39) < (x11_3.length : Int)) = true := decide_eq_true c41
        clear c41
        obtain ⟨y893, hy893⟩ : ∃ y_ : List Int, y_ = (x11_3.set ((ji39) : Int).toNat x52_3) := ⟨_, rfl⟩
        replace H : (spec_WalkOfNumbers.l1 k3 l2 x8_2 y893 l2 (l2.length : Int) (wrap64 (x52_3 + 1)) a0_0 a0_1 l0_2 a1_0 a1_1) = some (r1, r2) := by first | (rw [hy893]; with_reducible exact H) | (have H2_ := (Option.bind_some _ _).symm.trans H; rw [hy893]; with_reducible exact H2_) | (have H2_ := (Option.bind_some _ _).symm.trans H; with_reducible exact H2_) | with_reducible exact H | (rw [hy893]; exact H) | exact H
        have Ny893 := Aside0.mk hy893
        clear hy893
        have H' := Aside0.mk H
        clear H
        have p892 : 0 ≤ (x52_3 : Int) := of_decide_eq_true zag4
        have q892 : x52_3 < (l2.length : Int) := of_decide_eq_true zag4
        obtain ⟨ad892, e892, hx892_0⟩ := Kd.at_int HR2.out x52_3 p892 q892
        cases e892
        (first | replace hx892_0 := (HB.out.cell (World.block_lt_of_cell? w _ hx892_0)).trans hx892_0 | skip)
        replace p892 := eq_true p892
        replace q892 := eq_true q892
        have p42 : 0 ≤ ((ji39) : Int) := of_decide_eq_true zag4
        have q42 : ((ji39) : Int) < ((x11_3.length : Int) : Int) := of_decide_eq_true zag4
        obtain ⟨go42, co42, eo42, gb42, gl42, cl42, HG42⟩ := Kd.R_form HO_11.out (by omega)
        (first | cases eo42 | (injection eo42 with ea_ en_ ec_; (first | subst ea_ | (injection ea_ with ea_; subst ea_)); subst ec_; clear en_))
        have GB42 := Aside0.mk gb42
        have GG42 := Aside0.mk HG42
        clear gb42 gl42 HG42
        obtain ⟨hx42_0, hf42_0⟩ := Kd.R_celln 0 HO_11.out ((ji39) : Int) p42 q42
        replace p42 := eq_true p42
        replace q42 := eq_true q42
        have HP43 := Kd.R_putg HO_11.out ((ji39) : Int) x52_3
        go_wp2_with (first | ((with_reducible refine gate_store (t := 3) (p := 66) rfl ?_); refine store_event (t := 3) (p := 66) (v := ?vo_w44) (w1 := (wr.setCell ⟨go42, ((ji39) : Int).toNat, none⟩ (.int .i64 x52_3))) ?hg ?ho ?hn ?hr ?_; (case ho => rfl); (case hg => rfl); (case hn => rfl); (case hr => first | (go_simp; done) | (go_simp; rfl)); intro w44 hw; have hg : wr.grownBy w44 (some go42) := (by rw [hw]; exact HP43.2); have hp_ : Kd.R (Kd.int .i64) 3 w44 w.heap.size (fun _ => True) (.slice (some ⟨go42, 0, none⟩) x11_3.length co42) y893 := (by rw [hw, Ny893.out]; exact HP43.1); clear HP43; have n0_ := Aside0.mk (hp_); have n1_ := Aside0.mk (blk_grown (g := gb884) (o := .cells #[.int .i64 a0_0, .int .i64 a0_1, .slice A0_2 l0_2.length c0_2] 30 (0, 0)) zag2 hg (Kd.R_ne HO_11.out BK884.out (by decide))); have n2_ := Aside0.mk (blk_grown (g := gb885) (o := .cells #[.int .i64 a1_0, .int .i64 a1_1] 32 (0, 0)) zag3 hg (Kd.R_ne HO_11.out BK885.out (by decide))); have n3_ := Aside0.mk ((by rw [hw]; exact below_set (HB.out) GB42.out : Below w.heap.size w w44)); clear HO_11; clear BK884; clear BK885; clear HB; have HO_11 := n0_; have BK884 := n1_; have BK885 := n2_; have HB := n3_; clear n0_ n1_ n2_ n3_; clear hg hw hp_))
        go_roundg k3
        case measure => have := HJ3.out; have := HK2.out; have := HK3.out; omega
        case rel => exact ⟨(y893), (wrap64 (x52_3 + 1)), zag7, H', ⟨by have := HJ3.out; have := HK2.out; have := HK3.out; omega⟩, ⟨zag5⟩, ⟨zag2⟩, ⟨zag3⟩, ⟨zag1⟩⟩
       rw [if_neg c34] at H
       have c34b0 : decide (x52_3 < (l2.length : Int)) = false := decide_eq_false c34
       clear c34
       have H' := Aside0.mk H
       clear H
       obtain ⟨Ao45, co45, eo45⟩ := Kd.R_slice HO_11.out
       subst eo45
       go_wp2
       go_loopg [70] k3 (fun kq v70 w' => ∃ (x70_4 : Int), v70 = .int .i64 x70_4 ∧ Aside0 (spec_WalkOfNumbers.l2 kq l2 x11_3 x11_3 (x11_3.length : Int) x70_4 a0_0 a0_1 l0_2 a1_0 a1_1 = some (r1, r2)) ∧ Aside0 (kq ≤ k3) ∧ Aside0 (Kd.R (Kd.int .i64) 3 w' w.heap.size (fun _ => True) (.slice Ao45 x11_3.length co45) x11_3) ∧ Aside0 (Kd.R (Kd.int .i64) 3 w' w.heap.size (fun _ => True) (.slice Ao45 x11_3.length co45) x11_3) ∧ Aside0 (w'.heap[gb884]? = some (.cells #[.int .i64 a0_0, .int .i64 a0_1, (.slice A0_2 l0_2.length c0_2)] 30 (0, 0))) ∧ Aside0 (w'.heap[gb885]? = some (.cells #[.int .i64 a1_0, .int .i64 a1_1] 32 (0, 0))) ∧ Aside0 (Below w.heap.size w w'))
       case atStart => exact ⟨(0), zag7, H', ⟨Nat.le_refl _⟩, ⟨zag5⟩, ⟨zag5⟩, ⟨zag2⟩, ⟨zag3⟩, ⟨zag1⟩⟩
       case round =>
        clear H'
        try clear c1; try clear c2; try clear p2; try clear c3; try clear c4; try clear p4; try clear q4; try clear hx4; try clear hf4; try clear c5; try clear p6; try clear c8; try clear p8; try clear q8; try clear hx8; try clear c9; try clear c9b0; try clear c9b1; try clear c11; try clear c16; try clear c21; try clear c25; try clear c26; try clear c26b0; try clear c27; try clear c27b0; try clear c28; try clear c28b0; try clear c29; try clear c29b0; try clear c30; try clear c30b0; try clear c30b1; try clear c31; try clear c31b0; try clear c31b1; try clear c34; try clear c34b0; try clear c35; try clear c35b0
        try clear c36; try clear c36b0; try clear c37; try clear c37b0; try clear c38; try clear c38b0; try clear c40; try clear c40b0; try clear c41; try clear c41b0; try clear p42; try clear q42; try clear hx42; try clear hf42; try clear hcz12_0; try clear hcz12_1; try clear hcz12_2; try clear hcz13_0; try clear hcz13_1; try clear hcz15_0; try clear hcz15_1; try clear hcz15_2; try clear hcz17_0; try clear hcz17_1; try clear hcz17_2; try clear hcz18_0; try clear hcz18_1; try clear hcz20_0; try clear hcz20_1; try clear hcz20_2; try clear hcz22_0; try clear hcz22_1; try clear hcz22_2; try clear hcz23_0
        try clear hcz23_1; try clear hfz12_0; try clear hfz12_1; try clear hfz12_2; try clear hfz13_0; try clear hfz13_1; try clear hfz15_0; try clear hfz15_1; try clear hfz15_2; try clear hfz17_0; try clear hfz17_1; try clear hfz17_2; try clear hfz18_0; try clear hfz18_1; try clear hfz20_0; try clear hfz20_1; try clear hfz20_2; try clear hfz22_0; try clear hfz22_1; try clear hfz22_2; try clear hfz23_0; try clear hfz23_1; try clear hx42_0; try clear hx888_0; try clear hx892_0; try clear p2; try clear p42; try clear p6; try clear p8; try clear p888; try clear p892; try clear q42; try clear q8; try clear q888
        try clear q892
        obtain ⟨x70_4, rfl, HA, HK4, HO_11, HO_68, BK884, BK885, HB⟩ := hrel
        cases gk with
        | zero => exact absurd HA.out (by simp [spec_WalkOfNumbers.l2])
        | succ k4 =>
         have H := HA.out
         clear HA
         simp only [spec_WalkOfNumbers.l2] at H
         by_cases c46 : x70_4 < (x11_3.length : Int)
         rotate_left
         ·rw [if_neg c46] at H
          have c46b0 : decide (x70_4 < (x11_3.length : Int)) = false := decide_eq_false c46
          clear c46
          replace H := Option.bind_eq_some_iff.mp H
          obtain ⟨t896, A520, H⟩ := H
          replace H : (if t896 = true then (some (x11_3, true)) else (some (([] : List Int), false))) = some (r1, r2) := H
          have A52 := Aside0.mk A520
          clear A520
          by_cases c53 : t896 = true
          ·subst c53
           have H1 : (some (x11_3, true)) = some (r1, r2) := by rw [if_pos rfl] at H; exact H
           clear H
           have H := H1
           clear H1
           simp only [Option.some.injEq, Prod.mk.injEq] at H
           obtain ⟨rfl, rfl⟩ := H
           have hnb54 := NB884_885.out
           have hnc54 := NB885_884.out
           have hcz55_0 : wr.cell? ⟨gb884, 0, none⟩ = some (.int .i64 a0_0) := (blk_cell BK884.out 0).trans rfl
           have hcz55_1 : wr.cell? ⟨gb884, 1, none⟩ = some (.int .i64 a0_1) := (blk_cell BK884.out 1).trans rfl
           have hcz55_2 : wr.cell? ⟨gb884, 2, none⟩ = some (.slice A0_2 l0_2.length c0_2) := (blk_cell BK884.out 2).trans rfl
           have hfz55_0 := blk_frozen BK884.out 0
           have hfz55_1 := blk_frozen BK884.out 1
           have hfz55_2 := blk_frozen BK884.out 2
           have hcz56_0 : wr.cell? ⟨gb885, 0, none⟩ = some (.int .i64 a1_0) := (blk_cell BK885.out 0).trans rfl
           have hcz56_1 : wr.cell? ⟨gb885, 1, none⟩ = some (.int .i64 a1_1) := (blk_cell BK885.out 1).trans rfl
           have hfz56_0 := blk_frozen BK885.out 0
           have hfz56_1 := blk_frozen BK885.out 1
           go_wp2_with (first | ((with_reducible refine gate_callee (f := 71) rfl ?_); refine goesL_ (some 86) rfl rfl Try.func71 (by kernel_rfl) rfl #[.agg #[.int .i64 a0_0, .int .i64 a0_1, .slice A0_2 l0_2.length c0_2], .agg #[.int .i64 a1_0, .int .i64 a1_1], .slice Ao45 x11_3.length co45] rfl zag8 ?_; (with_reducible refine (spec_toWalk.calls k4 a0_0 a0_1 _ _ l0_2 a1_0 a1_1 _ _ x11_3 true _ ?side1 ?side2 ?side3 ?side4 A52.out).mono ?_); (case side1 => exact zag6); (case side2 => exact HC0_2.out); (case side3 => exact zag14); (case side4 => exact (Kd.R_reads' HO_11.out).2.1); rintro e w57 ⟨rfl, hb⟩; refine ⟨_, rfl, ?_⟩; have n0_ := Aside0.mk (Kd.R_below zag5 hb); have n1_ := Aside0.mk (Kd.R_below zag13 hb); have n2_ := Aside0.mk (blk_below (g := gb884) (o := .cells #[.int .i64 a0_0, .int .i64 a0_1, .slice A0_2 l0_2.length c0_2] 30 (0, 0)) zag2 hb); have n3_ := Aside0.mk (blk_below (g := gb885) (o := .cells #[.int .i64 a1_0, .int .i64 a1_1] 32 (0, 0)) zag3 hb); have n4_ := Aside0.mk (below_step zag1 hb); clear HO_11; clear HO_68; clear BK884; clear BK885; clear HB; have HO_11 := n0_; have HO_68 := n1_; have BK884 := n2_; have BK885 := n3_; have HB := n4_; clear n0_ n1_ n2_ n3_ n4_; (try clear hb); (try clear hb2); (try clear hk); (try clear hi); (try clear hna_); (try clear hnb_)))
           go_ret2
           exact ⟨_, zag10, zag5, zag1⟩
          replace c53 := Bool.eq_false_iff.mpr c53
          subst c53
          have H1 : (some (([] : List Int), false)) = some (r1, r2) := by rw [if_neg (show ¬ (false = true) by decide)] at H; exact H
          clear H
          have H := H1
          clear H1
          simp only [Option.some.injEq, Prod.mk.injEq] at H
          obtain ⟨rfl, rfl⟩ := H
          have hnb58 := NB884_885.out
          have hnc58 := NB885_884.out
          have hcz59_0 : wr.cell? ⟨gb884, 0, none⟩ = some (.int .i64 a0_0) := (blk_cell BK884.out 0).trans rfl
          have hcz59_1 : wr.cell? ⟨gb884, 1, none⟩ = some (.int .i64 a0_1) := (blk_cell BK884.out 1).trans rfl
          have hcz59_2 : wr.cell? ⟨gb884, 2, none⟩ = some (.slice A0_2 l0_2.length c0_2) := (blk_cell BK884.out 2).trans rfl
          have hfz59_0 := blk_frozen BK884.out 0
          have hfz59_1 := blk_frozen BK884.out 1
          have hfz59_2 := blk_frozen BK884.out 2
          have hcz60_0 : wr.cell? ⟨gb885, 0, none⟩ = some (.int .i64 a1_0) := (blk_cell BK885.out 0).trans rfl
          have hcz60_1 : wr.cell? ⟨gb885, 1, none⟩ = some (.int .i64 a1_1) := (blk_cell BK885.out 1).trans rfl
          have hfz60_0 := blk_frozen BK885.out 0
          have hfz60_1 := blk_frozen BK885.out 1
          go_wp2_with (first | ((with_reducible refine gate_callee (f := 71) rfl ?_); refine goesL_ (some 86) rfl rfl Try.func71 (by kernel_rfl) rfl #[.agg #[.int .i64 a0_0, .int .i64 a0_1, .slice A0_2 l0_2.length c0_2], .agg #[.int .i64 a1_0, .int .i64 a1_1], .slice Ao45 x11_3.length co45] rfl zag8 ?_; (with_reducible refine (spec_toWalk.calls k4 a0_0 a0_1 _ _ l0_2 a1_0 a1_1 _ _ x11_3 false _ ?side1 ?side2 ?side3 ?side4 A52.out).mono ?_); (case side1 => exact zag6); (case side2 => exact HC0_2.out); (case side3 => exact zag14); (case side4 => exact (Kd.R_reads' HO_11.out).2.1); rintro e w61 ⟨rfl, hb⟩; refine ⟨_, rfl, ?_⟩; have n0_ := Aside0.mk (Kd.R_below zag5 hb); have n1_ := Aside0.mk (Kd.R_below zag13 hb); have n2_ := Aside0.mk (blk_below (g := gb884) (o := .cells #[.int .i64 a0_0, .int .i64 a0_1, .slice A0_2 l0_2.length c0_2] 30 (0, 0)) zag2 hb); have n3_ := Aside0.mk (blk_below (g := gb885) (o := .cells #[.int .i64 a1_0, .int .i64 a1_1] 32 (0, 0)) zag3 hb); have n4_ := Aside0.mk (below_step zag1 hb); clear HO_11; clear HO_68; clear BK884; clear BK885; clear HB; have HO_11 := n0_; have HO_68 := n1_; have BK884 := n2_; have BK885 := n3_; have HB := n4_; clear n0_ n1_ n2_ n3_ n4_; (try clear hb); (try clear hb2); (try clear hk); (try clear hi); (try clear hna_); (try clear hnb_)))
          go_ret2
          exact ⟨_, zag10, zag9, zag1⟩
         rw [if_pos c46] at H
         have c46b0 : decide (x70_4 < (x11_3.length : Int)) = true := decide_eq_true c46
         clear c46
         by_cases c47 : 0 ≤ x70_4
         rotate_left
         ·rw [if_neg c47] at H
          exact absurd H (by simp)
         rw [if_pos c47] at H
         have c47b0 : decide (0 ≤ x70_4) = true := decide_eq_true c47
         clear c47
         by_cases c48 : x70_4 < (x11_3.length : Int)
         rotate_left
         ·rw [if_neg c48] at H
          exact absurd H (by simp)
         rw [if_pos c48] at H
         have c48b0 : decide (x70_4 < (x11_3.length : Int)) = true := decide_eq_true c48
         clear c48
         by_cases c49 : 0 ≤ (rd x11_3 x70_4)
         rotate_left
         ·rw [if_neg c49] at H
          exact absurd H (by simp)
         rw [if_pos c49] at H
         have c49b0 : decide (0 ≤ (rd x11_3 x70_4)) = true := decide_eq_true c49
         clear c49
         by_cases c50 : (rd x11_3 x70_4) < (l2.length : Int)
         rotate_left
         ·rw [if_neg c50] at H
          exact absurd H (by simp)
         rw [if_pos c50] at H
         have c50b0 : decide ((rd x11_3 x70_4) < (l2.length : Int)) = true := decide_eq_true c50
         clear c50
         by_cases c51 : (rd l2 (rd x11_3 x70_4)) = (wrap64 (x70_4 + 1))
         rotate_left
         ·rw [if_neg c51] at H
          have c51b0 : ((rd l2 (rd x11_3 x70_4)) == (wrap64 (x70_4 + 1))) = false := beq_eq_false_iff_ne.mpr c51
          have c51b1 : ((rd l2 (rd x11_3 x70_4)) != (wrap64 (x70_4 + 1))) = true := bne_iff_ne.mpr c51
          simp only [Option.some.injEq, Prod.mk.injEq] at H
          obtain ⟨rfl, rfl⟩ := H
          have p894 : 0 ≤ (x70_4 : Int) := of_decide_eq_true zag4
          have q894 : x70_4 < (x11_3.length : Int) := of_decide_eq_true zag4
          obtain ⟨ad894, e894, hx894_0⟩ := Kd.at_int (Kd.R_reads' HO_68.out).2.2 x70_4 p894 q894
          cases e894
          replace p894 := eq_true p894
          replace q894 := eq_true q894
          have p895 : 0 ≤ ((rd x11_3 x70_4) : Int) := of_decide_eq_true zag4
          have q895 : (rd x11_3 x70_4) < (l2.length : Int) := of_decide_eq_true zag4
          obtain ⟨ad895, e895, hx895_0⟩ := Kd.at_int HR2.out (rd x11_3 x70_4) p895 q895
          cases e895
          (first | replace hx895_0 := (HB.out.cell (World.block_lt_of_cell? w _ hx895_0)).trans hx895_0 | skip)
          replace p895 := eq_true p895
          replace q895 := eq_true q895
          go_wp2
          go_ret2
          exact ⟨_, zag10, zag9, zag1⟩
         rw [if_pos c51] at H
         have c51b0 : ((rd l2 (rd x11_3 x70_4)) == (wrap64 (x70_4 + 1))) = true := beq_iff_eq.mpr c51
         have c51b1 : ((rd l2 (rd x11_3 x70_4)) != (wrap64 (x70_4 + 1))) = false := bne_eq_false_iff_eq.mpr c51
         clear c51
         have H' := Aside0.mk H
         clear H
         have p894 : 0 ≤ (x70_4 : Int) := of_decide_eq_true zag4
         have q894 : x70_4 < (x11_3.length : Int) := of_decide_eq_true zag4
         obtain ⟨ad894, e894, hx894_0⟩ := Kd.at_int (Kd.R_reads' HO_68.out).2.2 x70_4 p894 q894
         cases e894
         replace p894 := eq_true p894
         replace q894 := eq_true q894
         have p895 : 0 ≤ ((rd x11_3 x70_4) : Int) := of_decide_eq_true zag4
         have q895 : (rd x11_3 x70_4) < (l2.length : Int) := of_decide_eq_true zag4
         obtain ⟨ad895, e895, hx895_0⟩ := Kd.at_int HR2.out (rd x11_3 x70_4) p895 q895
         cases e895
         (first | replace hx895_0 := (HB.out.cell (World.block_lt_of_cell? w _ hx895_0)).trans hx895_0 | skip)
         replace p895 := eq_true p895
         replace q895 := eq_true q895
         go_wp2
         go_roundg k4
         case measure => have := HJ3.out; have := HK2.out; have := HK3.out; have := HK4.out; omega
         case rel => exact ⟨(wrap64 (x70_4 + 1)), zag7, H', ⟨by have := HJ3.out; have := HK2.out; have := HK3.out; have := HK4.out; omega⟩, ⟨zag5⟩, ⟨zag13⟩, ⟨zag2⟩, ⟨zag3⟩, ⟨zag1⟩⟩

end Go.Proofs.Ytjeongckkfkehaa.Q

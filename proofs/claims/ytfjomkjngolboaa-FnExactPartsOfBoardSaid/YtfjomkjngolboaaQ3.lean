/- Written by a program of this session: functions of the translation as plain Lean functions, each with a proof that the call does what the plain function says; the conditions stand in each theorem. -/
import Derived.Test.YtfjomkjngolboaaQ0
import Derived.Test.YtfjomkjngolboaaQ2
namespace Go.Proofs.Ytfjomkjngolboaa.Q
open Go.RowKit Go.Proofs.YtfjomkjngolboaaW.PrintWords Go.Proofs.YtfjomkjngolboaaW.PrintLast Go.Proofs.YtfjomkjngolboaaW.PrintMore
attribute [local go_sem] max2_int min2_int max_two min_two max_three min_three max_four min_four   -- for this text's walks alone
set_option linter.unusedVariables false
set_option linter.unusedSimpArgs false

theorem zd1 {p : Prop} (h : p := by repeat (first | (with_reducible first | exact HB.out | apply below_alloc | apply pw_below_drewN | apply below_drew1 | refine below_set ?_ GE162.out | refine below_set ?_ GE163.out) | exact HB.out)) : p := h
theorem zd2 {p : Prop} (h : p := by repeat (first | (with_reducible first | exact HB.out | apply below_alloc | apply pw_below_drewN | apply below_drew1 | refine below_set ?_ GE152.out | refine below_set ?_ GE153.out) | exact HB.out)) : p := h
theorem zd3 {p : Prop} (h : p := by first | exact BK162.out | ((with_reducible repeat (first | refine blk_drewN ?_ _ | refine blk_drew ?_ | refine blk_alloc ?_ _)); exact BK162.out)) : p := h
theorem zd4 {p : Prop} (h : p := by first | (with_reducible assumption) | assumption) : p := h
theorem zd5 {p : Prop} (h : p := by first | exact BK152.out | ((with_reducible repeat (first | refine blk_drewN ?_ _ | refine blk_drew ?_ | refine blk_alloc ?_ _)); exact BK152.out)) : p := h
theorem zd6 {p : Prop} (h : p := by first | exact HO_7.out | ((with_reducible repeat (first | apply Kd.R_alloc | apply Kd.R_drewN | apply Kd.R_drew)); exact HO_7.out)) : p := h
theorem zd7 {p : Prop} (h : p := by first | exact BK163.out | ((with_reducible repeat (first | refine blk_drewN ?_ _ | refine blk_drew ?_ | refine blk_alloc ?_ _)); exact BK163.out)) : p := h
theorem zd8 {p : Prop} (h : p := by first | exact BK153.out | ((with_reducible repeat (first | refine blk_drewN ?_ _ | refine blk_drew ?_ | refine blk_alloc ?_ _)); exact BK153.out)) : p := h
theorem zd9 {p : Prop} (h : p := by repeat (first | (with_reducible first | exact HB.out | apply below_alloc | apply pw_below_drewN | apply below_drew1) | exact HB.out)) : p := h
theorem zd10 {p : Prop} (h : p := by repeat (first | exact (Kd.C_below HR0_2.out HB.out) | (with_reducible refine Kd.C_alloc ?_ _) | (with_reducible refine Kd.C_drewN ?_ _) | (with_reducible refine Kd.C_drew ?_))) : p := h
theorem zd11 {p : Prop} (h : p := by (try simp only [List.map_toArray, List.map_cons, List.map_nil]); first | done | rfl | (simp only [List.length_drop, List.length_take]; rfl)) : p := h
theorem zd12 {p : Prop} (h : p := by first | rfl | (simp; done) | (simp [*]; done)) : p := h
theorem zd13 {p : Prop} (h : p := by (try simp only [hl7_1]); (try simp only [hl7_2]); (try simp only [hl7_3]); first | exact BK163.out | ((with_reducible repeat (first | refine blk_drewN ?_ _ | refine blk_drew ?_ | refine blk_alloc ?_ _)); exact BK163.out)) : p := h
theorem zd14 {p : Prop} (h : p := by (try simp only [hl7_1]); (try simp only [hl7_2]); (try simp only [hl7_3]); first | exact BK162.out | ((with_reducible repeat (first | refine blk_drewN ?_ _ | refine blk_drew ?_ | refine blk_alloc ?_ _)); exact BK162.out)) : p := h
theorem zd15 {p : Prop} (h : p := by repeat (first | (with_reducible first | exact HB.out | apply below_alloc | apply pw_below_drewN | apply below_drew1 | refine below_set ?_ GE162.out) | exact HB.out)) : p := h
theorem zd16 {p : Prop} (h : p := by repeat (first | (with_reducible first | exact HB.out | apply below_alloc | apply pw_below_drewN | apply below_drew1 | refine below_set ?_ GE152.out) | exact HB.out)) : p := h
theorem zd17 {p : Prop} (h : p := by first | exact HO_11.out | ((with_reducible repeat (first | apply Kd.R_alloc | apply Kd.R_drewN | apply Kd.R_drew)); exact HO_11.out)) : p := h
theorem zd18 {p : Prop} (h : p := by (try simp only [hl7_1]); (try simp only [hl7_2]); (try simp only [hl7_3]); first | exact HO_45.out | ((with_reducible repeat (first | apply Kd.R_alloc | apply Kd.R_drewN | apply Kd.R_drew)); exact HO_45.out)) : p := h
theorem zd19 {p : Prop} (h : p := by (with_reducible repeat (first | apply Kd.R_alloc | apply Kd.R_drewN | apply Kd.R_drew)); exact Kd.R_mono HO_45.out (fun _ hk => ⟨hk.2, hk.1⟩)) : p := h
theorem zd20 {p : Prop} (h : p := by (with_reducible repeat (first | apply Kd.R_alloc | apply Kd.R_drewN | apply Kd.R_drew)); exact Kd.R_mono HO_9.out (fun _ hk => ⟨hk.2, hk.1⟩)) : p := h
theorem zd21 {p : Prop} (h : p := by (try simp only [hl7_1]); first | exact BK163.out | ((with_reducible repeat (first | refine blk_drewN ?_ _ | refine blk_drew ?_ | refine blk_alloc ?_ _)); exact BK163.out)) : p := h
theorem zd22 {p : Prop} (h : p := by (try simp only [hl7_1]); first | exact BK162.out | ((with_reducible repeat (first | refine blk_drewN ?_ _ | refine blk_drew ?_ | refine blk_alloc ?_ _)); exact BK162.out)) : p := h
theorem zd23 {p : Prop} (h : p := by (with_reducible repeat (first | apply Kd.R_alloc | apply Kd.R_drewN | apply Kd.R_drew)); exact Kd.R_mono HO_7.out (fun _ hk => trivial)) : p := h
/-! ### spec_boLeaps: function 50 -/
def spec_boLeaps.l0 : Nat → Int → List Int → List Int → Int → Int → Int → Int → List Int → Int → Int → Option (List Int)
 | 0, _, _, _, _, _, _, _, _, _, _ => none
 | k + 1, x2, x7, x11, x12, x13, x153000, x153001, x153002, x154000, x154001 => if x13 < x12 then (if 0 ≤ x13 then (if x13 < (x11.length : Int) then ((spec_boIs.f x153000 x153001 x153002 x154000 x154001 x2 (rd x11 x13)).bind fun t158 => (if t158 = true then (if x7.length < 17592186044416 then (spec_boLeaps.l0 k x2 (x7 ++ [rd x11 x13]) x11 x12 (wrap64 (x13 + 1)) x153000 x153001 x153002 x154000 x154001) else (none)) else (spec_boLeaps.l0 k x2 x7 x11 x12 (wrap64 (x13 + 1)) x153000 x153001 x153002 x154000 x154001))) else (none)) else (none)) else (some x7)
def spec_boLeaps.f (k : Nat) (a0_0 : Int) (a0_1 : Int) (l0_2 : List Int) (a1_0 : Int) (a1_1 : Int) (a2 : Int) : Option (List Int) := (spec_boCells.f k a0_0 a0_1 l0_2).bind fun t154 => (spec_boLeaps.l0 k a2 ([] : List Int) t154 (t154.length : Int) 0 a0_0 a0_1 l0_2 a1_0 a1_1)
set_option maxHeartbeats 8000000 in
set_option maxRecDepth 100000 in
theorem spec_boLeaps.calls (k : Nat) (a0_0 : Int) (a0_1 : Int) (A0_2 : Option Addr) (c0_2 : Nat) (l0_2 : List Int) (a1_0 : Int) (a1_1 : Int) (a2 : Int) (r : List Int) (w : World) (hr0_2 : Kd.C (Kd.int .i64) w A0_2 l0_2.length l0_2) (hc0_2 : l0_2.length ≤ c0_2) (h : spec_boLeaps.f k a0_0 a0_1 l0_2 a1_0 a1_1 a2 = some r) :
  Calls Try.prog 50 #[.agg #[.int .i64 a0_0, .int .i64 a0_1, .slice A0_2 l0_2.length c0_2], .agg #[.int .i64 a1_0, .int .i64 a1_1], .int .i64 a2] w fun e w' => ∃ v0_ : Value, e = .returned (v0_) ∧ Kd.R (Kd.int .i64) 3 w' w.heap.size (fun _ => True) v0_ r ∧ Below w.heap.size w w' := by
 have hu30 := Try.underlying30
 have hu32 := Try.underlying32
 have HR0_2 := Aside0.mk hr0_2
 have HC0_2 := Aside0.mk hc0_2
 clear hr0_2 hc0_2
 have HB := Aside0.mk (Below.refl w.heap.size w)
 have H : ((spec_boCells.f k a0_0 a0_1 l0_2).bind fun t154 => (spec_boLeaps.l0 k a2 ([] : List Int) t154 (t154.length : Int) 0 a0_0 a0_1 l0_2 a1_0 a1_1)) = some r := h
 clear h
 replace H := Option.bind_eq_some_iff.mp H
 obtain ⟨t154, A40, H⟩ := H
 replace H : (spec_boLeaps.l0 k a2 ([] : List Int) t154 (t154.length : Int) 0 a0_0 a0_1 l0_2 a1_0 a1_1) = some r := H
 have A4 := Aside0.mk A40
 clear A40
 have H' := Aside0.mk H
 clear H
 go_enter Try.func50, Try.ntmps50
 go_wp2_with (first | ((with_reducible refine gate_dst (N := 3) rfl ?_); refine box_event ?hg (N := 3) ?hd (cs := #[.int .i64 a0_0, .int .i64 a0_1, .slice A0_2 l0_2.length c0_2]) (t := 30) ?hr ?_; (case hd => rfl); (case hg => rfl); (case hr => first | (go_simp; done) | (go_simp; rfl)); intro gb152 hg w5 hbox hb; have n0_ := Aside0.mk (below_step zd9 hb); have n1_ := Aside0.mk (hbox); have n2_ := Aside0.mk ((by rw [hg]; exact (below_size zd9) : w.heap.size ≤ gb152)); have n3_ := Aside0.mk ((by rw [hg]; exact (below_size zd9) : w.heap.size ≤ gb152)); clear HB; have HB := n0_; have BK152 := n1_; have GW152 := n2_; have GE152 := n3_; clear n0_ n1_ n2_ n3_; clear hb hbox hg) | ((with_reducible refine gate_dst (N := 4) rfl ?_); refine box_event ?hg (N := 4) ?hd (cs := #[.int .i64 a1_0, .int .i64 a1_1]) (t := 32) ?hr ?_; (case hd => rfl); (case hg => rfl); (case hr => first | (go_simp; done) | (go_simp; rfl)); intro gb153 hg w6 hbox hb; have n0_ := Aside0.mk (blk_below (g := gb152) (o := .cells #[.int .i64 a0_0, .int .i64 a0_1, .slice A0_2 l0_2.length c0_2] 30 (0, 0)) zd5 hb); have n1_ := Aside0.mk (below_step zd16 hb); have n2_ := Aside0.mk (hbox); have n3_ := Aside0.mk ((by rw [hg]; exact (below_size zd16) : w.heap.size ≤ gb153)); have n4_ := Aside0.mk ((by rw [hg]; exact (below_size zd16) : w.heap.size ≤ gb153)); have n5_ := Aside0.mk ((by rw [hg]; exact Nat.ne_of_lt (blk_lt (g := gb152) (o := .cells #[.int .i64 a0_0, .int .i64 a0_1, .slice A0_2 l0_2.length c0_2] 30 (0, 0)) zd5) : gb152 ≠ gb153)); have n6_ := Aside0.mk ((by rw [hg]; exact Nat.ne_of_gt (blk_lt (g := gb152) (o := .cells #[.int .i64 a0_0, .int .i64 a0_1, .slice A0_2 l0_2.length c0_2] 30 (0, 0)) zd5) : gb153 ≠ gb152)); clear BK152; clear HB; have BK152 := n0_; have HB := n1_; have BK153 := n2_; have GW153 := n3_; have GE153 := n4_; have NB152_153 := n5_; have NB153_152 := n6_; clear n0_ n1_ n2_ n3_ n4_ n5_ n6_; clear hb hbox hg; have hnb7 := NB152_153.out; have hnc7 := NB153_152.out; have hcz8_0 : w6.cell? ⟨gb152, 0, none⟩ = some (.int .i64 a0_0) := (blk_cell BK152.out 0).trans rfl; have hcz8_1 : w6.cell? ⟨gb152, 1, none⟩ = some (.int .i64 a0_1) := (blk_cell BK152.out 1).trans rfl; have hcz8_2 : w6.cell? ⟨gb152, 2, none⟩ = some (.slice A0_2 l0_2.length c0_2) := (blk_cell BK152.out 2).trans rfl; have hfz8_0 := blk_frozen BK152.out 0; have hfz8_1 := blk_frozen BK152.out 1; have hfz8_2 := blk_frozen BK152.out 2) | ((with_reducible refine gate_callee (f := 32) rfl ?_); refine goesL_ (some 11) rfl rfl Try.func32 (by kernel_rfl) rfl #[.agg #[.int .i64 a0_0, .int .i64 a0_1, .slice A0_2 l0_2.length c0_2]] rfl zd11 ?_; (with_reducible refine (spec_boCells.calls k a0_0 a0_1 _ _ l0_2 t154 _ ?side1 ?side2 A4.out).mono ?_); (case side1 => exact zd10); (case side2 => exact HC0_2.out); rintro e w9 ⟨v155, rfl, ho0, hb⟩; refine ⟨_, rfl, ?_⟩; have n0_ := Aside0.mk (Kd.R_lower ho0 (below_size zd2)); have n1_ := Aside0.mk (blk_below (g := gb152) (o := .cells #[.int .i64 a0_0, .int .i64 a0_1, .slice A0_2 l0_2.length c0_2] 30 (0, 0)) zd5 hb); have n2_ := Aside0.mk (blk_below (g := gb153) (o := .cells #[.int .i64 a1_0, .int .i64 a1_1] 32 (0, 0)) zd8 hb); have n3_ := Aside0.mk (below_step zd2 hb); clear BK152; clear BK153; clear HB; have HO156 := n0_; have BK152 := n1_; have BK153 := n2_; have HB := n3_; clear n0_ n1_ n2_ n3_; (try clear hb); (try clear hb2); (try clear hk); (try clear hi); (try clear ho0); (try clear hna_); (try clear hnb_); obtain ⟨Ao10, co10, eo10⟩ := Kd.R_slice HO156.out; subst eo10))
 go_loopg [7, 13] k (fun kq v7 v13 w' => ∃ (x7_1 : List Int) (x13_1 : Int), v13 = .int .i64 x13_1 ∧ Aside0 (spec_boLeaps.l0 kq a2 x7_1 t154 (t154.length : Int) x13_1 a0_0 a0_1 l0_2 a1_0 a1_1 = some r) ∧ Aside0 (kq ≤ k) ∧ Aside0 (Kd.R (Kd.int .i64) 3 w' w.heap.size (fun k_ => some k_ ≠ ((.slice Ao10 t154.length co10) : Value).ownBlock) v7 x7_1) ∧ Aside0 (Kd.R (Kd.int .i64) 3 w' w.heap.size (fun k_ => some k_ ≠ (v7 : Value).ownBlock) (.slice Ao10 t154.length co10) t154) ∧ Aside0 (w'.heap[gb152]? = some (.cells #[.int .i64 a0_0, .int .i64 a0_1, (.slice A0_2 l0_2.length c0_2)] 30 (0, 0))) ∧ Aside0 (w'.heap[gb153]? = some (.cells #[.int .i64 a1_0, .int .i64 a1_1] 32 (0, 0))) ∧ Aside0 (Below w.heap.size w w'))
 case atStart => exact ⟨(([] : List Int)), (0), zd12, H', ⟨Nat.le_refl _⟩, ⟨by first | exact Kd.R_nil _ _ _ _ _ | exact Kd.N_nil _ _ _ _ _ | exact Kd.V_nil _ _ _ _ _ | exact Kd.Q_nil _ _ _ _ _ | exact Kd.S_nil _ _ _ _ _⟩, ⟨by (with_reducible repeat (first | apply Kd.R_alloc | apply Kd.R_drewN | apply Kd.R_drew)); exact Kd.R_mono HO156.out (fun _ hk => (by simp [Value.ownBlock]))⟩, ⟨zd5⟩, ⟨zd8⟩, ⟨zd2⟩⟩
 case round =>
  clear H'
  try clear p2; try clear c3; try clear c5; try clear c7; try clear hcz8_0; try clear hcz8_1; try clear hcz8_2; try clear hfz8_0; try clear hfz8_1; try clear hfz8_2
  obtain ⟨x7_1, x13_1, rfl, HA, HK1, HO_7, HO_11, BK152, BK153, HB⟩ := hrel
  cases gk with
  | zero => exact absurd HA.out (by simp [spec_boLeaps.l0])
  | succ k1 =>
   have H := HA.out
   clear HA
   simp only [spec_boLeaps.l0] at H
   by_cases c11 : x13_1 < (t154.length : Int)
   rotate_left
   ·rw [if_neg c11] at H
    have c11b0 : decide (x13_1 < (t154.length : Int)) = false := decide_eq_false c11
    clear c11
    obtain rfl := Option.some.inj H
    go_wp2
    go_ret
    exact ⟨_, by first | rfl | (simp [errW_none, errW_some] <;> rfl) | (simp [*, errW_none, errW_some] <;> rfl), zd23, zd2⟩
   rw [if_pos c11] at H
   have c11b0 : decide (x13_1 < (t154.length : Int)) = true := decide_eq_true c11
   clear c11
   by_cases c12 : 0 ≤ x13_1
   rotate_left
   ·rw [if_neg c12] at H
    exact absurd H (by simp)
   rw [if_pos c12] at H
   have c12b0 : decide (0 ≤ x13_1) = true := decide_eq_true c12
   clear c12
   by_cases c13 : x13_1 < (t154.length : Int)
   rotate_left
   ·rw [if_neg c13] at H
    exact absurd H (by simp)
   rw [if_pos c13] at H
   have c13b0 : decide (x13_1 < (t154.length : Int)) = true := decide_eq_true c13
   clear c13
   replace H := Option.bind_eq_some_iff.mp H
   obtain ⟨t158, A140, H⟩ := H
   replace H : (if t158 = true then (if x7_1.length < 17592186044416 then (spec_boLeaps.l0 k1 a2 (x7_1 ++ [rd t154 x13_1]) t154 (t154.length : Int) (wrap64 (x13_1 + 1)) a0_0 a0_1 l0_2 a1_0 a1_1) else (none)) else (spec_boLeaps.l0 k1 a2 x7_1 t154 (t154.length : Int) (wrap64 (x13_1 + 1)) a0_0 a0_1 l0_2 a1_0 a1_1)) = some r := H
   have A14 := Aside0.mk A140
   clear A140
   by_cases c15 : t158 = true
   rotate_left
   ·replace c15 := Bool.eq_false_iff.mpr c15
    subst c15
    have H1 : (spec_boLeaps.l0 k1 a2 x7_1 t154 (t154.length : Int) (wrap64 (x13_1 + 1)) a0_0 a0_1 l0_2 a1_0 a1_1) = some r := by rw [if_neg (show ¬ (false = true) by decide)] at H; exact H
    clear H
    have H := H1
    clear H1
    have H' := Aside0.mk H
    clear H
    have p157 : 0 ≤ (x13_1 : Int) := of_decide_eq_true zd4
    have q157 : x13_1 < (t154.length : Int) := of_decide_eq_true zd4
    obtain ⟨ad157, e157, hx157_0⟩ := Kd.at_int (Kd.R_reads' HO_11.out).2.2 x13_1 p157 q157
    cases e157
    replace p157 := eq_true p157
    replace q157 := eq_true q157
    have hnb22 := NB152_153.out
    have hnc22 := NB153_152.out
    have hcz23_0 : wr.cell? ⟨gb152, 0, none⟩ = some (.int .i64 a0_0) := (blk_cell BK152.out 0).trans rfl
    have hcz23_1 : wr.cell? ⟨gb152, 1, none⟩ = some (.int .i64 a0_1) := (blk_cell BK152.out 1).trans rfl
    have hcz23_2 : wr.cell? ⟨gb152, 2, none⟩ = some (.slice A0_2 l0_2.length c0_2) := (blk_cell BK152.out 2).trans rfl
    have hfz23_0 := blk_frozen BK152.out 0
    have hfz23_1 := blk_frozen BK152.out 1
    have hfz23_2 := blk_frozen BK152.out 2
    have hcz24_0 : wr.cell? ⟨gb153, 0, none⟩ = some (.int .i64 a1_0) := (blk_cell BK153.out 0).trans rfl
    have hcz24_1 : wr.cell? ⟨gb153, 1, none⟩ = some (.int .i64 a1_1) := (blk_cell BK153.out 1).trans rfl
    have hfz24_0 := blk_frozen BK153.out 0
    have hfz24_1 := blk_frozen BK153.out 1
    go_wp2_with (first | ((with_reducible refine gate_callee (f := 33) rfl ?_); refine goesL_ (some 21) rfl rfl Try.func33 (by kernel_rfl) rfl #[.agg #[.int .i64 a0_0, .int .i64 a0_1, .slice A0_2 l0_2.length c0_2], .agg #[.int .i64 a1_0, .int .i64 a1_1], .int .i64 a2, .int .i64 (rd t154 x13_1)] rfl zd11 ?_; (with_reducible refine (spec_boIs.calls a0_0 a0_1 _ _ l0_2 a1_0 a1_1 a2 (rd t154 x13_1) false _ ?side1 ?side2 A14.out).mono ?_); (case side1 => exact zd10); (case side2 => exact HC0_2.out); rintro e w25 ⟨rfl, hb⟩; refine ⟨_, rfl, ?_⟩; have n0_ := Aside0.mk (Kd.R_below zd6 hb); have n1_ := Aside0.mk (Kd.R_below zd17 hb); have n2_ := Aside0.mk (blk_below (g := gb152) (o := .cells #[.int .i64 a0_0, .int .i64 a0_1, .slice A0_2 l0_2.length c0_2] 30 (0, 0)) zd5 hb); have n3_ := Aside0.mk (blk_below (g := gb153) (o := .cells #[.int .i64 a1_0, .int .i64 a1_1] 32 (0, 0)) zd8 hb); have n4_ := Aside0.mk (below_step zd2 hb); clear HO_7; clear HO_11; clear BK152; clear BK153; clear HB; have HO_7 := n0_; have HO_11 := n1_; have BK152 := n2_; have BK153 := n3_; have HB := n4_; clear n0_ n1_ n2_ n3_ n4_; (try clear hb); (try clear hb2); (try clear hk); (try clear hi); (try clear hna_); (try clear hnb_)))
    go_roundg k1
    case measure => have := HK1.out; omega
    case rel => exact ⟨(x7_1), (wrap64 (x13_1 + 1)), zd12, H', ⟨by have := HK1.out; omega⟩, ⟨zd6⟩, ⟨zd17⟩, ⟨zd5⟩, ⟨zd8⟩, ⟨zd2⟩⟩
   subst c15
   have H1 : (if x7_1.length < 17592186044416 then (spec_boLeaps.l0 k1 a2 (x7_1 ++ [rd t154 x13_1]) t154 (t154.length : Int) (wrap64 (x13_1 + 1)) a0_0 a0_1 l0_2 a1_0 a1_1) else (none)) = some r := by rw [if_pos rfl] at H; exact H
   clear H
   have H := H1
   clear H1
   by_cases c16 : x7_1.length < 17592186044416
   rotate_left
   ·rw [if_neg c16] at H
    exact absurd H (by simp)
   rw [if_pos c16] at H
   have LMc16 := Aside0.mk c16
   clear c16
   obtain ⟨y159, hy159⟩ : ∃ y_ : List Int, y_ = (x7_1 ++ [rd t154 x13_1]) := ⟨_, rfl⟩
   replace H : (spec_boLeaps.l0 k1 a2 y159 t154 (t154.length : Int) (wrap64 (x13_1 + 1)) a0_0 a0_1 l0_2 a1_0 a1_1) = some r := by first | (rw [hy159]; with_reducible exact H) | (have H2_ := (Option.bind_some _ _).symm.trans H; rw [hy159]; with_reducible exact H2_) | (have H2_ := (Option.bind_some _ _).symm.trans H; with_reducible exact H2_) | with_reducible exact H | (rw [hy159]; exact H) | exact H
   have Ny159 := Aside0.mk hy159
   clear hy159
   have H' := Aside0.mk H
   clear H
   have p157 : 0 ≤ (x13_1 : Int) := of_decide_eq_true zd4
   have q157 : x13_1 < (t154.length : Int) := of_decide_eq_true zd4
   obtain ⟨ad157, e157, hx157_0⟩ := Kd.at_int (Kd.R_reads' HO_11.out).2.2 x13_1 p157 q157
   cases e157
   replace p157 := eq_true p157
   replace q157 := eq_true q157
   have hnb17 := NB152_153.out
   have hnc17 := NB153_152.out
   have hcz18_0 : wr.cell? ⟨gb152, 0, none⟩ = some (.int .i64 a0_0) := (blk_cell BK152.out 0).trans rfl
   have hcz18_1 : wr.cell? ⟨gb152, 1, none⟩ = some (.int .i64 a0_1) := (blk_cell BK152.out 1).trans rfl
   have hcz18_2 : wr.cell? ⟨gb152, 2, none⟩ = some (.slice A0_2 l0_2.length c0_2) := (blk_cell BK152.out 2).trans rfl
   have hfz18_0 := blk_frozen BK152.out 0
   have hfz18_1 := blk_frozen BK152.out 1
   have hfz18_2 := blk_frozen BK152.out 2
   have hcz19_0 : wr.cell? ⟨gb153, 0, none⟩ = some (.int .i64 a1_0) := (blk_cell BK153.out 0).trans rfl
   have hcz19_1 : wr.cell? ⟨gb153, 1, none⟩ = some (.int .i64 a1_1) := (blk_cell BK153.out 1).trans rfl
   have hfz19_0 := blk_frozen BK153.out 0
   have hfz19_1 := blk_frozen BK153.out 1
   go_wp2_with (first | ((with_reducible refine gate_callee (f := 33) rfl ?_); refine goesL_ (some 21) rfl rfl Try.func33 (by kernel_rfl) rfl #[.agg #[.int .i64 a0_0, .int .i64 a0_1, .slice A0_2 l0_2.length c0_2], .agg #[.int .i64 a1_0, .int .i64 a1_1], .int .i64 a2, .int .i64 (rd t154 x13_1)] rfl zd11 ?_; (with_reducible refine (spec_boIs.calls a0_0 a0_1 _ _ l0_2 a1_0 a1_1 a2 (rd t154 x13_1) true _ ?side1 ?side2 A14.out).mono ?_); (case side1 => exact zd10); (case side2 => exact HC0_2.out); rintro e w20 ⟨rfl, hb⟩; refine ⟨_, rfl, ?_⟩; have n0_ := Aside0.mk (Kd.R_below zd6 hb); have n1_ := Aside0.mk (Kd.R_below zd17 hb); have n2_ := Aside0.mk (blk_below (g := gb152) (o := .cells #[.int .i64 a0_0, .int .i64 a0_1, .slice A0_2 l0_2.length c0_2] 30 (0, 0)) zd5 hb); have n3_ := Aside0.mk (blk_below (g := gb153) (o := .cells #[.int .i64 a1_0, .int .i64 a1_1] 32 (0, 0)) zd8 hb); have n4_ := Aside0.mk (below_step zd2 hb); clear HO_7; clear HO_11; clear BK152; clear BK153; clear HB; have HO_7 := n0_; have HO_11 := n1_; have BK152 := n2_; have BK153 := n3_; have HB := n4_; clear n0_ n1_ n2_ n3_ n4_; (try clear hb); (try clear hb2); (try clear hk); (try clear hi); (try clear hna_); (try clear hnb_)) | ((with_reducible refine gate_builtin (b := .append) (xs := #[.tmp 22, .tmp 24]) rfl ?_); at_builtin; refine Kd.R_append (Kd.int .i64) (w0 := w) w.heap.size rfl (.tmp 22) (.tmp 24) 22 3 (.int .i64 0) 8 rfl Try.underlying22 info3 rfl (by decide) (by omega) u7 x7_1 (rd t154 x13_1) [.int .i64 (rd t154 x13_1)] (fun k_ => some k_ ≠ (.slice (some ad157) t154.length co10 : Value).ownBlock) (fun _ => False) rfl rfl ?aP (fun _ hk => hk.elim) ?aF ?aO ?aB ?aS ?aL ?_; (case aP => exact rfl); (case aB => exact zd2); (case aF => exact (fun k_ hk => Kd.fresh' (Kd.R_lt zd17) k_ hk)); (case aO => exact zd6); (case aS => exact (below_size zd2)); (case aL => have := LMc16.out; omega); intro v160 w21 ho hb hg hat; rw [← Ny159.out] at ho; have n0_ := Aside0.mk (Kd.R_after (ok := (fun _ => True)) (by (with_reducible repeat (first | apply Kd.R_alloc | apply Kd.R_drewN | apply Kd.R_drew)); exact Kd.R_mono HO_11.out (fun _ hk => ⟨trivial, hk⟩)) hg hat); have n1_ := Aside0.mk (blk_grown (g := gb152) (o := .cells #[.int .i64 a0_0, .int .i64 a0_1, .slice A0_2 l0_2.length c0_2] 30 (0, 0)) zd5 hg (Kd.R_ne HO_7.out BK152.out (by decide))); have n2_ := Aside0.mk (blk_grown (g := gb153) (o := .cells #[.int .i64 a1_0, .int .i64 a1_1] 32 (0, 0)) zd8 hg (Kd.R_ne HO_7.out BK153.out (by decide))); have n3_ := Aside0.mk (hb); have n4_ := Aside0.mk (ho); clear HO_11; clear BK152; clear BK153; clear HB; clear HO_7; have HO_11 := n0_; have BK152 := n1_; have BK153 := n2_; have HB := n3_; have HO161 := n4_; clear n0_ n1_ n2_ n3_ n4_; clear ho hb hg hat))
   go_roundg k1
   case measure => have := HK1.out; omega
   case rel => exact ⟨(y159), (wrap64 (x13_1 + 1)), zd12, H', ⟨by have := HK1.out; omega⟩, ⟨by first | exact HO161.out | ((with_reducible repeat (first | apply Kd.R_alloc | apply Kd.R_drewN | apply Kd.R_drew)); exact HO161.out)⟩, ⟨by (with_reducible repeat (first | apply Kd.R_alloc | apply Kd.R_drewN | apply Kd.R_drew)); exact Kd.R_mono HO_11.out (fun _ hk => hk.2)⟩, ⟨zd5⟩, ⟨zd8⟩, ⟨zd2⟩⟩

/-! ### spec_faFrom: function 38 -/
mutual
def spec_faFrom.l0 : Nat → Int → List Int → Int → Int → Int → Int → List Int → Int → Int → Option (List Int)
 | 0, _, _, _, _, _, _, _, _, _ => none
 | k + 1, x2, x7, x20, x21, x163000, x163001, x163002, x164000, x164001 => if x21 < x20 then (if 0 ≤ x21 then (if x21 < (x7.length : Int) then (spec_faFrom.l0 k x2 (x7.set (x21 : Int).toNat (-1)) x20 (wrap64 (x21 + 1)) x163000 x163001 x163002 x164000 x164001) else (none)) else (none)) else (if 0 ≤ x2 then (if x2 < (x7.length : Int) then (spec_faFrom.l1 k (x7.set (x2 : Int).toNat 0) (([x2] : List Int)) 0 x163000 x163001 x163002 x164000 x164001) else (none)) else (none))
def spec_faFrom.l1 : Nat → List Int → List Int → Int → Int → Int → List Int → Int → Int → Option (List Int)
 | 0, _, _, _, _, _, _, _, _ => none
 | k + 1, x7, x9, x10, x163000, x163001, x163002, x164000, x164001 => if x10 < (x9.length : Int) then (if 0 ≤ x10 then ((spec_boLeaps.f k x163000 x163001 x163002 x164000 x164001 (rd x9 x10)).bind fun t173 => (spec_faFrom.l2 k x7 x9 x10 t173 (t173.length : Int) 0 x163000 x163001 x163002 x164000 x164001)) else (none)) else (some x7)
def spec_faFrom.l2 : Nat → List Int → List Int → Int → List Int → Int → Int → Int → Int → List Int → Int → Int → Option (List Int)
 | 0, _, _, _, _, _, _, _, _, _, _, _ => none
 | k + 1, x7, x9, x10, x45, x46, x47, x163000, x163001, x163002, x164000, x164001 => if x47 < x46 then (if 0 ≤ x47 then (if x47 < (x45.length : Int) then (if 0 ≤ (rd x45 x47) then (if (rd x45 x47) < (x7.length : Int) then (if (rd x7 (rd x45 x47)) < 0 then (if 0 ≤ x10 then (if x10 < (x9.length : Int) then (if 0 ≤ (rd x9 x10) then (if (rd x9 x10) < (x7.length : Int) then (if x9.length < 17592186044416 then (spec_faFrom.l2 k (x7.set ((rd x45 x47) : Int).toNat (wrap64 ((rd x7 (rd x9 x10)) + 1))) (x9 ++ [rd x45 x47]) x10 x45 x46 (wrap64 (x47 + 1)) x163000 x163001 x163002 x164000 x164001) else (none)) else (none)) else (none)) else (none)) else (none)) else (spec_faFrom.l2 k x7 x9 x10 x45 x46 (wrap64 (x47 + 1)) x163000 x163001 x163002 x164000 x164001)) else (none)) else (none)) else (none)) else (none)) else (spec_faFrom.l1 k x7 x9 (wrap64 (x10 + 1)) x163000 x163001 x163002 x164000 x164001)
end
def spec_faFrom.f (k : Nat) (a0_0 : Int) (a0_1 : Int) (l0_2 : List Int) (a1_0 : Int) (a1_1 : Int) (a2 : Int) : Option (List Int) := if 0 ≤ (wrap64 (a0_0 * a0_1)) then (if (wrap64 (a0_0 * a0_1) : Int).toNat ≤ 35184372088832 then ((some (List.replicate (wrap64 (a0_0 * a0_1) : Int).toNat 0 : List Int)).bind fun y164 => (spec_faFrom.l0 k a2 y164 (y164.length : Int) 0 a0_0 a0_1 l0_2 a1_0 a1_1)) else (none)) else (none)
def spec_faFrom.T12 : Bool × List (List Nat × List Nat) := (true, [([], []), ([], []), ([], []), ([], []), ([2, 3], [2, 3]), ([4], [4]), ([0, 1, 5], [0, 1, 5]), ([6], [6]), ([], [])])
def spec_faFrom.B12 : List Nat := [0, 0, 0, 0, 12, 28, 63, 127, 0]
theorem spec_faFrom.tab12 : rtab .any (opsOf Try.f38 12) = spec_faFrom.T12 := by kernel_rfl
theorem spec_faFrom.bits12 : waitsOk spec_faFrom.T12.2 spec_faFrom.B12 = true := by kernel_rfl
set_option maxHeartbeats 8000000 in
set_option maxRecDepth 100000 in
theorem spec_faFrom.calls (k : Nat) (a0_0 : Int) (a0_1 : Int) (A0_2 : Option Addr) (c0_2 : Nat) (l0_2 : List Int) (a1_0 : Int) (a1_1 : Int) (a2 : Int) (r : List Int) (w : World) (hr0_2 : Kd.C (Kd.int .i64) w A0_2 l0_2.length l0_2) (hc0_2 : l0_2.length ≤ c0_2) (h : spec_faFrom.f k a0_0 a0_1 l0_2 a1_0 a1_1 a2 = some r) :
  Calls Try.prog 38 #[.agg #[.int .i64 a0_0, .int .i64 a0_1, .slice A0_2 l0_2.length c0_2], .agg #[.int .i64 a1_0, .int .i64 a1_1], .int .i64 a2] w fun e w' => ∃ v0_ : Value, e = .returned (v0_) ∧ Kd.R (Kd.int .i64) 3 w' w.heap.size (fun _ => True) v0_ r ∧ Below w.heap.size w w' := by
 have hu30 := Try.underlying30
 have hu32 := Try.underlying32
 have HR0_2 := Aside0.mk hr0_2
 have HC0_2 := Aside0.mk hc0_2
 clear hr0_2 hc0_2
 have HB := Aside0.mk (Below.refl w.heap.size w)
 have H : (if 0 ≤ (wrap64 (a0_0 * a0_1)) then (if (wrap64 (a0_0 * a0_1) : Int).toNat ≤ 35184372088832 then ((some (List.replicate (wrap64 (a0_0 * a0_1) : Int).toNat 0 : List Int)).bind fun y164 => (spec_faFrom.l0 k a2 y164 (y164.length : Int) 0 a0_0 a0_1 l0_2 a1_0 a1_1)) else (none)) else (none)) = some r := h
 clear h
 obtain ⟨ji4, hji4⟩ : ∃ j_ : Int, (wrap64 (a0_0 * a0_1)) = j_ := ⟨_, rfl⟩
 replace H : (if 0 ≤ (ji4) then (if (ji4 : Int).toNat ≤ 35184372088832 then ((some (List.replicate (ji4 : Int).toNat 0 : List Int)).bind fun y164 => (spec_faFrom.l0 k a2 y164 (y164.length : Int) 0 a0_0 a0_1 l0_2 a1_0 a1_1)) else (none)) else (none)) = some r := by first | (rw [hji4] at H; exact H) | (simp only [hji4] at H ⊢; exact H)
 have hji4w : (IntKind.i64.wrap (a0_0 * a0_1)) = ji4 := (i64_w _).trans hji4
 by_cases c5 : 0 ≤ (ji4)
 rotate_left
 ·rw [if_neg c5] at H
  exact absurd H (by simp)
 rw [if_pos c5] at H
 have c5b0 := eq_true c5
 have c5b1 : decide (0 ≤ (ji4)) = true := decide_eq_true c5
 clear c5
 by_cases c6 : (ji4 : Int).toNat ≤ 35184372088832
 rotate_left
 ·rw [if_neg c6] at H
  exact absurd H (by simp)
 rw [if_pos c6] at H
 have c6b0 := eq_true c6
 have c6b1 : decide ((ji4 : Int).toNat ≤ 35184372088832) = true := decide_eq_true c6
 clear c6
 obtain ⟨y164, hy164⟩ : ∃ y_ : List Int, y_ = (List.replicate (ji4 : Int).toNat 0) := ⟨_, rfl⟩
 replace H : (spec_faFrom.l0 k a2 y164 (y164.length : Int) 0 a0_0 a0_1 l0_2 a1_0 a1_1) = some r := by first | (rw [hy164]; with_reducible exact H) | (have H2_ := (Option.bind_some _ _).symm.trans H; rw [hy164]; with_reducible exact H2_) | (have H2_ := (Option.bind_some _ _).symm.trans H; with_reducible exact H2_) | with_reducible exact H | (rw [hy164]; exact H) | exact H
 have Ny164 := Aside0.mk hy164
 clear hy164
 have H' := Aside0.mk H
 clear H
 go_enter Try.func38, Try.ntmps38
 go_wp2_with (first | ((with_reducible refine gate_dst (N := 3) rfl ?_); refine box_event ?hg (N := 3) ?hd (cs := #[.int .i64 a0_0, .int .i64 a0_1, .slice A0_2 l0_2.length c0_2]) (t := 30) ?hr ?_; (case hd => rfl); (case hg => rfl); (case hr => first | (go_simp; done) | (go_simp; rfl)); intro gb162 hg w7 hbox hb; have n0_ := Aside0.mk (below_step zd9 hb); have n1_ := Aside0.mk (hbox); have n2_ := Aside0.mk ((by rw [hg]; exact (below_size zd9) : w.heap.size ≤ gb162)); have n3_ := Aside0.mk ((by rw [hg]; exact (below_size zd9) : w.heap.size ≤ gb162)); clear HB; have HB := n0_; have BK162 := n1_; have GW162 := n2_; have GE162 := n3_; clear n0_ n1_ n2_ n3_; clear hb hbox hg) | ((with_reducible refine gate_dst (N := 4) rfl ?_); refine box_event ?hg (N := 4) ?hd (cs := #[.int .i64 a1_0, .int .i64 a1_1]) (t := 32) ?hr ?_; (case hd => rfl); (case hg => rfl); (case hr => first | (go_simp; done) | (go_simp; rfl)); intro gb163 hg w8 hbox hb; have n0_ := Aside0.mk (blk_below (g := gb162) (o := .cells #[.int .i64 a0_0, .int .i64 a0_1, .slice A0_2 l0_2.length c0_2] 30 (0, 0)) zd3 hb); have n1_ := Aside0.mk (below_step zd15 hb); have n2_ := Aside0.mk (hbox); have n3_ := Aside0.mk ((by rw [hg]; exact (below_size zd15) : w.heap.size ≤ gb163)); have n4_ := Aside0.mk ((by rw [hg]; exact (below_size zd15) : w.heap.size ≤ gb163)); have n5_ := Aside0.mk ((by rw [hg]; exact Nat.ne_of_lt (blk_lt (g := gb162) (o := .cells #[.int .i64 a0_0, .int .i64 a0_1, .slice A0_2 l0_2.length c0_2] 30 (0, 0)) zd3) : gb162 ≠ gb163)); have n6_ := Aside0.mk ((by rw [hg]; exact Nat.ne_of_gt (blk_lt (g := gb162) (o := .cells #[.int .i64 a0_0, .int .i64 a0_1, .slice A0_2 l0_2.length c0_2] 30 (0, 0)) zd3) : gb163 ≠ gb162)); clear BK162; clear HB; have BK162 := n0_; have HB := n1_; have BK163 := n2_; have GW163 := n3_; have GE163 := n4_; have NB162_163 := n5_; have NB163_162 := n6_; clear n0_ n1_ n2_ n3_ n4_ n5_ n6_; clear hb hbox hg; have hnb9 := NB162_163.out; have hnc9 := NB163_162.out; have hcz10_0 : w8.cell? ⟨gb162, 0, none⟩ = some (.int .i64 a0_0) := (blk_cell BK162.out 0).trans rfl; have hcz10_1 : w8.cell? ⟨gb162, 1, none⟩ = some (.int .i64 a0_1) := (blk_cell BK162.out 1).trans rfl; have hcz10_2 : w8.cell? ⟨gb162, 2, none⟩ = some (.slice A0_2 l0_2.length c0_2) := (blk_cell BK162.out 2).trans rfl; have hfz10_0 := blk_frozen BK162.out 0; have hfz10_1 := blk_frozen BK162.out 1; have hfz10_2 := blk_frozen BK162.out 2) | ((with_reducible refine gate_dst (N := 18) rfl ?_); refine Kd.R_make (Kd.int .i64) _ 3 rfl (N := 18) rfl 22 _ _ rfl ji4 rfl rfl Try.underlying22 (.int .i64 0) 8 info3 rfl (by decide) (by omega) 0 (ok := fun _ => True) (okp := fun _ => True) rfl (fun _ hk => hk) trivial (of_decide_eq_true zd4) (Nat.le_trans (Nat.mul_le_mul_right _ (of_decide_eq_true zd4 : ji4.toNat ≤ 35184372088832)) (by omega)) (Below.refl _ _) (Nat.le_refl _) ?_; intro v165 w11 ho12 hb hg_ hnew_; clear hg_ hnew_; (first | rw [← Ny164.out] at ho12 | (simp only [Int.reduceToNat] at ho12; rw [← Ny164.out] at ho12)); have n0_ := Aside0.mk (Kd.R_lower ho12 (below_size zd1)); have n1_ := Aside0.mk (blk_below (g := gb162) (o := .cells #[.int .i64 a0_0, .int .i64 a0_1, .slice A0_2 l0_2.length c0_2] 30 (0, 0)) zd3 hb); have n2_ := Aside0.mk (blk_below (g := gb163) (o := .cells #[.int .i64 a1_0, .int .i64 a1_1] 32 (0, 0)) zd7 hb); have n3_ := Aside0.mk (below_step zd1 hb); clear BK162; clear BK163; clear HB; have HO166 := n0_; have BK162 := n1_; have BK163 := n2_; have HB := n3_; clear n0_ n1_ n2_ n3_; clear hb ho12; obtain ⟨Ao13, co13, eo13⟩ := Kd.R_slice HO166.out; subst eo13))
 go_loopg [21] k (fun kq v21 w' => ∃ (x7_1 : List Int) (x21_1 : Int), v21 = .int .i64 x21_1 ∧ Aside0 (spec_faFrom.l0 kq a2 x7_1 (y164.length : Int) x21_1 a0_0 a0_1 l0_2 a1_0 a1_1 = some r) ∧ Aside0 (kq ≤ k) ∧ Aside0 (Kd.R (Kd.int .i64) 3 w' w.heap.size (fun _ => True) (.slice Ao13 y164.length co13) x7_1) ∧ Aside0 (w'.heap[gb162]? = some (.cells #[.int .i64 a0_0, .int .i64 a0_1, (.slice A0_2 l0_2.length c0_2)] 30 (0, 0))) ∧ Aside0 (w'.heap[gb163]? = some (.cells #[.int .i64 a1_0, .int .i64 a1_1] 32 (0, 0))) ∧ Aside0 (Below w.heap.size w w'))
 case atStart => exact ⟨(y164), (0), zd12, H', ⟨Nat.le_refl _⟩, ⟨by first | exact HO166.out | ((with_reducible repeat (first | apply Kd.R_alloc | apply Kd.R_drewN | apply Kd.R_drew)); exact HO166.out)⟩, ⟨zd3⟩, ⟨zd7⟩, ⟨zd1⟩⟩
 case round =>
  clear H'
  try clear p2; try clear c3; try clear c5; try clear c5b0; try clear c5b1; try clear c6; try clear c6b0; try clear c6b1; try clear p6; try clear c9; try clear hcz10_0; try clear hcz10_1; try clear hcz10_2; try clear hfz10_0; try clear hfz10_1; try clear hfz10_2
  obtain ⟨x7_1, x21_1, rfl, HA, HK1, HO_7, BK162, BK163, HB⟩ := hrel
  have hl7_1 := (Kd.R_reads' HO_7.out).1
  rw [hl7_1] at HO_7
  (try simp only [hl7_1])
  (try simp only [hl7_1] at BK162)
  (try simp only [hl7_1] at BK163)
  cases gk with
  | zero => exact absurd HA.out (by simp [spec_faFrom.l0])
  | succ k1 =>
   have H := HA.out
   clear HA
   simp only [spec_faFrom.l0] at H
   by_cases c14 : x21_1 < (y164.length : Int)
   ·rw [if_pos c14] at H
    have c14b0 : decide (x21_1 < (y164.length : Int)) = true := decide_eq_true c14
    have c14b8 := c14b0
    (try simp only [hl7_1] at c14b8)
    clear c14
    by_cases c15 : 0 ≤ x21_1
    rotate_left
    ·rw [if_neg c15] at H
     exact absurd H (by simp)
    rw [if_pos c15] at H
    have c15b0 : decide (0 ≤ x21_1) = true := decide_eq_true c15
    clear c15
    by_cases c16 : x21_1 < (x7_1.length : Int)
    rotate_left
    ·rw [if_neg c16] at H
     exact absurd H (by simp)
    rw [if_pos c16] at H
    have c16b0 : decide (x21_1 < (x7_1.length : Int)) = true := decide_eq_true c16
    have c16b8 := c16b0
    (try simp only [hl7_1] at c16b8)
    clear c16
    obtain ⟨y167, hy167⟩ : ∃ y_ : List Int, y_ = (x7_1.set (x21_1 : Int).toNat (-1)) := ⟨_, rfl⟩
    replace H : (spec_faFrom.l0 k1 a2 y167 (y164.length : Int) (wrap64 (x21_1 + 1)) a0_0 a0_1 l0_2 a1_0 a1_1) = some r := by first | (rw [hy167]; with_reducible exact H) | (have H2_ := (Option.bind_some _ _).symm.trans H; rw [hy167]; with_reducible exact H2_) | (have H2_ := (Option.bind_some _ _).symm.trans H; with_reducible exact H2_) | with_reducible exact H | (rw [hy167]; exact H) | exact H
    have Ny167 := Aside0.mk hy167
    clear hy167
    have H' := Aside0.mk H
    clear H
    have p17 : 0 ≤ (x21_1 : Int) := of_decide_eq_true zd4
    have q17 : (x21_1 : Int) < ((x7_1.length : Int) : Int) := of_decide_eq_true zd4
    obtain ⟨go17, co17, eo17, gb17, gl17, cl17, HG17⟩ := Kd.R_form HO_7.out (by omega)
    (first | cases eo17 | (injection eo17 with ea_ en_ ec_; (first | subst ea_ | (injection ea_ with ea_; subst ea_)); subst ec_; clear en_))
    have GB17 := Aside0.mk gb17
    have GG17 := Aside0.mk HG17
    clear gb17 gl17 HG17
    obtain ⟨hx17_0, hf17_0⟩ := Kd.R_celln 0 HO_7.out (x21_1 : Int) p17 q17
    replace p17 := eq_true p17
    replace q17 := eq_true q17
    have HP18 := Kd.R_putg HO_7.out (x21_1 : Int) (-1)
    go_wp2_with (first | ((with_reducible refine gate_store (t := 3) (p := 26) rfl ?_); refine store_event (t := 3) (p := 26) (v := ?vo_w19) (w1 := (wr.setCell ⟨go17, (x21_1 : Int).toNat, none⟩ (.int .i64 (-1)))) ?hg ?ho ?hn ?hr ?_; (case ho => rfl); (case hg => rfl); (case hn => rfl); (case hr => first | (go_simp; done) | (go_simp; rfl)); intro w19 hw; have hg : wr.grownBy w19 (some go17) := (by rw [hw]; exact HP18.2); have hp_ : Kd.R (Kd.int .i64) 3 w19 w.heap.size (fun _ => True) (.slice (some ⟨go17, 0, none⟩) x7_1.length co13) y167 := (by rw [hw, Ny167.out]; exact HP18.1); clear HP18; have n0_ := Aside0.mk (hp_); have n1_ := Aside0.mk (blk_grown (g := gb162) (o := .cells #[.int .i64 a0_0, .int .i64 a0_1, .slice A0_2 l0_2.length c0_2] 30 (0, 0)) zd3 hg (Kd.R_ne HO_7.out BK162.out (by decide))); have n2_ := Aside0.mk (blk_grown (g := gb163) (o := .cells #[.int .i64 a1_0, .int .i64 a1_1] 32 (0, 0)) zd7 hg (Kd.R_ne HO_7.out BK163.out (by decide))); have n3_ := Aside0.mk ((by rw [hw]; exact below_set (HB.out) GB17.out : Below w.heap.size w w19)); clear HO_7; clear BK162; clear BK163; clear HB; have HO_7 := n0_; have BK162 := n1_; have BK163 := n2_; have HB := n3_; clear n0_ n1_ n2_ n3_; clear hg hw hp_))
    (try simp only [← hl7_1])
    go_roundg k1
    case measure => have := HK1.out; omega
    case rel => exact ⟨(y167), (wrap64 (x21_1 + 1)), zd12, H', ⟨by have := HK1.out; omega⟩, ⟨by (try simp only [hl7_1]); first | exact HO_7.out | ((with_reducible repeat (first | apply Kd.R_alloc | apply Kd.R_drewN | apply Kd.R_drew)); exact HO_7.out)⟩, ⟨zd22⟩, ⟨zd21⟩, ⟨zd1⟩⟩
   rw [if_neg c14] at H
   have c14b0 : decide (x21_1 < (y164.length : Int)) = false := decide_eq_false c14
   have c14b8 := c14b0
   (try simp only [hl7_1] at c14b8)
   clear c14
   by_cases c20 : 0 ≤ a2
   rotate_left
   ·rw [if_neg c20] at H
    exact absurd H (by simp)
   rw [if_pos c20] at H
   have c20b0 : decide (0 ≤ a2) = true := decide_eq_true c20
   clear c20
   by_cases c21 : a2 < (x7_1.length : Int)
   rotate_left
   ·rw [if_neg c21] at H
    exact absurd H (by simp)
   rw [if_pos c21] at H
   have c21b0 : decide (a2 < (x7_1.length : Int)) = true := decide_eq_true c21
   have c21b8 := c21b0
   (try simp only [hl7_1] at c21b8)
   clear c21
   obtain ⟨y168, hy168⟩ : ∃ y_ : List Int, y_ = (x7_1.set (a2 : Int).toNat 0) := ⟨_, rfl⟩
   replace H : (spec_faFrom.l1 k1 y168 (([a2] : List Int)) 0 a0_0 a0_1 l0_2 a1_0 a1_1) = some r := by first | (rw [hy168]; with_reducible exact H) | (have H2_ := (Option.bind_some _ _).symm.trans H; rw [hy168]; with_reducible exact H2_) | (have H2_ := (Option.bind_some _ _).symm.trans H; with_reducible exact H2_) | with_reducible exact H | (rw [hy168]; exact H) | exact H
   have Ny168 := Aside0.mk hy168
   clear hy168
   obtain ⟨y169, hy169⟩ : ∃ y_ : List Int, y_ = (([a2] : List Int)) := ⟨_, rfl⟩
   replace H : (spec_faFrom.l1 k1 y168 y169 0 a0_0 a0_1 l0_2 a1_0 a1_1) = some r := by first | (rw [hy169]; with_reducible exact H) | (have H2_ := (Option.bind_some _ _).symm.trans H; rw [hy169]; with_reducible exact H2_) | (have H2_ := (Option.bind_some _ _).symm.trans H; with_reducible exact H2_) | with_reducible exact H | (rw [hy169]; exact H) | exact H
   have Ny169 := Aside0.mk hy169
   clear hy169
   have H' := Aside0.mk H
   clear H
   have p22 : 0 ≤ (a2 : Int) := of_decide_eq_true zd4
   have q22 : (a2 : Int) < ((x7_1.length : Int) : Int) := of_decide_eq_true zd4
   obtain ⟨go22, co22, eo22, gb22, gl22, cl22, HG22⟩ := Kd.R_form HO_7.out (by omega)
   (first | cases eo22 | (injection eo22 with ea_ en_ ec_; (first | subst ea_ | (injection ea_ with ea_; subst ea_)); subst ec_; clear en_))
   have GB22 := Aside0.mk gb22
   have GG22 := Aside0.mk HG22
   clear gb22 gl22 HG22
   obtain ⟨hx22_0, hf22_0⟩ := Kd.R_celln 0 HO_7.out (a2 : Int) p22 q22
   replace p22 := eq_true p22
   replace q22 := eq_true q22
   have HP23 := Kd.R_putg HO_7.out (a2 : Int) 0
   go_wp2_with (first | ((with_reducible refine gate_store (t := 3) (p := 30) rfl ?_); refine store_event (t := 3) (p := 30) (v := ?vo_w24) (w1 := (wr.setCell ⟨go22, (a2 : Int).toNat, none⟩ (.int .i64 0))) ?hg ?ho ?hn ?hr ?_; (case ho => rfl); (case hg => rfl); (case hn => rfl); (case hr => first | (go_simp; done) | (go_simp; rfl)); intro w24 hw; have hg : wr.grownBy w24 (some go22) := (by rw [hw]; exact HP23.2); have hp_ : Kd.R (Kd.int .i64) 3 w24 w.heap.size (fun _ => True) (.slice (some ⟨go22, 0, none⟩) x7_1.length co13) y168 := (by rw [hw, Ny168.out]; exact HP23.1); clear HP23; have n0_ := Aside0.mk (hp_); have n1_ := Aside0.mk (blk_grown (g := gb162) (o := .cells #[.int .i64 a0_0, .int .i64 a0_1, .slice A0_2 l0_2.length c0_2] 30 (0, 0)) zd3 hg (Kd.R_ne HO_7.out BK162.out (by decide))); have n2_ := Aside0.mk (blk_grown (g := gb163) (o := .cells #[.int .i64 a1_0, .int .i64 a1_1] 32 (0, 0)) zd7 hg (Kd.R_ne HO_7.out BK163.out (by decide))); have n3_ := Aside0.mk ((by rw [hw]; exact below_set (HB.out) GB22.out : Below w.heap.size w w24)); clear HO_7; clear BK162; clear BK163; clear HB; have HO_7 := n0_; have BK162 := n1_; have BK163 := n2_; have HB := n3_; clear n0_ n1_ n2_ n3_; clear hg hw hp_) | ((with_reducible refine gate_dst (N := 32) rfl ?_); refine Kd.R_lit (Kd.int .i64) _ 3 ?hg (N := 32) ?hd (xs := ([a2] : List Int)) (inner := [.int .i64 a2]) (ok := fun _ => True) (okp := fun _ => True) ?hr ?hp (fun _ hk => hk) trivial (Below.refl _ _) (Nat.le_refl _) (by simp) ?_; (case hd => rfl); (case hg => rfl); (case hr => first | (go_simp; done) | (go_simp; rfl)); (case hp => exact (Reps.one (show Kd.M (Kd.int .i64) _ _ _ a2 [.int .i64 a2] from rfl) (Reps.none _ _))); intro v170 w25 ho26 hb hg_ hnew_; clear hg_ hnew_; (first | rw [← Ny169.out] at ho26 | (simp only [Int.reduceToNat] at ho26; rw [← Ny169.out] at ho26)); have n0_ := Aside0.mk (Kd.R_elder' zd6 (Kd.R_base ho26) hb); have n1_ := Aside0.mk (Kd.R_lower (Kd.R_new' ho26 (Kd.R_lt zd6)) (below_size zd1)); have n2_ := Aside0.mk (blk_below (g := gb162) (o := .cells #[.int .i64 a0_0, .int .i64 a0_1, .slice A0_2 l0_2.length c0_2] 30 (0, 0)) zd3 hb); have n3_ := Aside0.mk (blk_below (g := gb163) (o := .cells #[.int .i64 a1_0, .int .i64 a1_1] 32 (0, 0)) zd7 hb); have n4_ := Aside0.mk (below_step zd1 hb); clear HO_7; clear BK162; clear BK163; clear HB; have HO_7 := n0_; have HO171 := n1_; have BK162 := n2_; have BK163 := n3_; have HB := n4_; clear n0_ n1_ n2_ n3_ n4_; clear hb ho26))
   go_loopg [9, 10] k1 (fun kq v9 v10 w' => ∃ (x7_2 : List Int) (x9_2 : List Int) (x10_2 : Int), v10 = .int .i64 x10_2 ∧ Aside0 (spec_faFrom.l1 kq x7_2 x9_2 x10_2 a0_0 a0_1 l0_2 a1_0 a1_1 = some r) ∧ Aside0 (kq ≤ k1) ∧ Aside0 (Kd.R (Kd.int .i64) 3 w' w.heap.size (fun k_ => some k_ ≠ (v9 : Value).ownBlock) (.slice (some ⟨go22, 0, none⟩) x7_1.length co13) x7_2) ∧ Aside0 (Kd.R (Kd.int .i64) 3 w' w.heap.size (fun k_ => some k_ ≠ ((.slice (some ⟨go22, 0, none⟩) x7_1.length co13) : Value).ownBlock) v9 x9_2) ∧ Aside0 (w'.heap[gb162]? = some (.cells #[.int .i64 a0_0, .int .i64 a0_1, (.slice A0_2 l0_2.length c0_2)] 30 (0, 0))) ∧ Aside0 (w'.heap[gb163]? = some (.cells #[.int .i64 a1_0, .int .i64 a1_1] 32 (0, 0))) ∧ Aside0 (Below w.heap.size w w'))
   case atStart => exact ⟨(y168), (y169), (0), zd12, H', ⟨Nat.le_refl _⟩, ⟨by (try simp only [hl7_1]); (with_reducible repeat (first | apply Kd.R_alloc | apply Kd.R_drewN | apply Kd.R_drew)); exact Kd.R_mono HO_7.out (fun _ hk => hk.2)⟩, ⟨by (try simp only [hl7_1]); (with_reducible repeat (first | apply Kd.R_alloc | apply Kd.R_drewN | apply Kd.R_drew)); exact Kd.R_mono HO171.out (fun _ hk => hk.2)⟩, ⟨zd22⟩, ⟨zd21⟩, ⟨zd1⟩⟩
   case round =>
    clear H'
    try clear c1; try clear p1; try clear q1; try clear hx1; try clear c2; try clear p2; try clear q2; try clear hx2; try clear c3; try clear c5; try clear c5b0; try clear c5b1; try clear c6; try clear c6b0; try clear c6b1; try clear p6; try clear c9; try clear c14; try clear c14b0; try clear c14b8; try clear c15; try clear c15b0; try clear c16; try clear c16b0; try clear c16b8; try clear p17; try clear q17; try clear hx17; try clear hf17; try clear c20; try clear c20b0; try clear c21; try clear c21b0; try clear c21b8; try clear p22; try clear q22; try clear hx22; try clear hf22; try clear hcz10_0
    try clear hcz10_1; try clear hcz10_2; try clear hfz10_0; try clear hfz10_1; try clear hfz10_2; try clear hx17_0; try clear hx22_0; try clear p17; try clear p2; try clear p22; try clear p6; try clear q17; try clear q22
    obtain ⟨x7_2, x9_2, x10_2, rfl, HA, HK2, HO_7, HO_9, BK162, BK163, HB⟩ := hrel
    have hl7_2 := (Kd.R_reads' HO_7.out).1
    rw [hl7_2] at HO_7
    (try simp only [hl7_2])
    (try simp only [hl7_2] at BK162)
    (try simp only [hl7_2] at BK163)
    (try simp only [hl7_2] at HO_9)
    cases gk with
    | zero => exact absurd HA.out (by simp [spec_faFrom.l1])
    | succ k2 =>
     have H := HA.out
     clear HA
     simp only [spec_faFrom.l1] at H
     by_cases c27 : x10_2 < (x9_2.length : Int)
     rotate_left
     ·rw [if_neg c27] at H
      have c27b0 : decide (x10_2 < (x9_2.length : Int)) = false := decide_eq_false c27
      have c27b8 := c27b0
      (try simp only [hl7_1, hl7_2] at c27b8)
      clear c27
      obtain rfl := Option.some.inj H
      obtain ⟨Ao50, co50, eo50⟩ := Kd.R_slice HO_9.out
      subst eo50
      go_wp2
      go_ret
      exact ⟨_, by first | rfl | (simp [errW_none, errW_some] <;> rfl) | (simp only [← hji4]; first | rfl | (simp [errW_none, errW_some] <;> rfl)) | (simp [*, errW_none, errW_some] <;> rfl), zd23, zd1⟩
     rw [if_pos c27] at H
     have c27b0 : decide (x10_2 < (x9_2.length : Int)) = true := decide_eq_true c27
     have c27b8 := c27b0
     (try simp only [hl7_1, hl7_2] at c27b8)
     clear c27
     by_cases c28 : 0 ≤ x10_2
     rotate_left
     ·rw [if_neg c28] at H
      exact absurd H (by simp)
     rw [if_pos c28] at H
     have c28b0 : decide (0 ≤ x10_2) = true := decide_eq_true c28
     clear c28
     replace H := Option.bind_eq_some_iff.mp H
     obtain ⟨t173, A290, H⟩ := H
     replace H : (spec_faFrom.l2 k2 x7_2 x9_2 x10_2 t173 (t173.length : Int) 0 a0_0 a0_1 l0_2 a1_0 a1_1) = some r := H
     have A29 := Aside0.mk A290
     clear A290
     have H' := Aside0.mk H
     clear H
     obtain ⟨Ao30, co30, eo30⟩ := Kd.R_slice HO_9.out
     subst eo30
     try go_wp2
     have n0_ := Aside0.mk (Kd.R_drew HO_7.out)
     have n1_ := Aside0.mk (Kd.R_drew HO_9.out)
     have n2_ := Aside0.mk (blk_drew BK162.out)
     have n3_ := Aside0.mk (blk_drew BK163.out)
     have n4_ := Aside0.mk (below_drew1 HB.out)
     clear HO_7
     clear HO_9
     clear BK162
     clear BK163
     clear HB
     have HO_7 := n0_
     have HO_9 := n1_
     have BK162 := n2_
     have BK163 := n3_
     have HB := n4_
     clear n0_ n1_ n2_ n3_ n4_
     have p172 : 0 ≤ (x10_2 : Int) := of_decide_eq_true zd4
     have q172 : x10_2 < (x9_2.length : Int) := of_decide_eq_true zd4
     obtain ⟨ad172, e172, hx172_0⟩ := Kd.at_int (Kd.R_reads' HO_9.out).2.2 x10_2 p172 q172
     cases e172
     replace p172 := eq_true p172
     replace q172 := eq_true q172
     refine start_ (n := 9) (S := fun w' => w'.cell? ⟨gb162, 0, none⟩ = some (.int .i64 a0_0) ∧ w'.cell? ⟨gb162, 1, none⟩ = some (.int .i64 a0_1) ∧ w'.cell? ⟨gb162, 2, none⟩ = some (.slice A0_2 l0_2.length c0_2) ∧ w'.cell? ⟨gb163, 0, none⟩ = some (.int .i64 a1_0) ∧ w'.cell? ⟨gb163, 1, none⟩ = some (.int .i64 a1_1) ∧ w'.cell? (ad172.add (x10_2).toNat) = some (.int .i64 (rd x9_2 x10_2))) (ds := []) #[false, false, false, false, false, false, false, false, false] (by kernel_rfl) rfl rfl ⟨(blk_cell BK162.out 0).trans rfl, (blk_cell BK162.out 1).trans rfl, (blk_cell BK162.out 2).trans rfl, (blk_cell BK163.out 0).trans rfl, (blk_cell BK163.out 1).trans rfl, hx172_0⟩ (fun hHeld => ?_); refine with_tabW spec_faFrom.tab12 spec_faFrom.bits12 (fun HT_ HW_ => ?_)
     generalize wr.drew = w31 at HO_7 HO_9 BK162 BK163 HB hx172_0 hHeld ⊢
     refine pure_ (i := 2) (N := some 41) (v := ?_) (a' := ?_) #[false, false, true, false, false, false, false, false, false] rfl rfl (any_of HT_.out (by kernel_rfl)) (fun _ _ _ h => h) (Or.inl ⟨by rfl, ?_⟩) ?_ ?_
     rotate_left
     ·intro w'
      go_simp
      with_reducible rfl
     rotate_left
     ·simp only [Act.put, List.setIfInBounds_toArray, List.set_cons_zero, List.set_cons_succ, i64_w, i32_w]
      rfl
     refine pure_ (i := 3) (N := some 42) (v := ?_) (a' := ?_) #[false, false, true, true, false, false, false, false, false] rfl rfl (any_of HT_.out (by kernel_rfl)) (fun _ _ _ h => h) (Or.inl ⟨by rfl, ?_⟩) ?_ ?_
     rotate_left
     ·intro w'
      go_simp
      with_reducible rfl
     rotate_left
     ·simp only [Act.put, List.setIfInBounds_toArray, List.set_cons_zero, List.set_cons_succ, i64_w, i32_w]
      rfl
     refine pure_ (i := 4) (N := some 43) (v := ?_) (a' := ?_) #[false, false, true, true, true, false, false, false, false] rfl rfl (any_of HT_.out (by kernel_rfl)) (fun _ _ _ h => h) (Or.inl ⟨by rfl, ?_⟩) ?_ ?_
     rotate_left
     ·intro w'
      go_simp
      with_reducible rfl
     rotate_left
     ·simp only [Act.put, List.setIfInBounds_toArray, List.set_cons_zero, List.set_cons_succ, i64_w, i32_w]
      rfl
     refine pure_ (i := 8) (N := some 47) (v := ?_) (a' := ?_) #[false, false, true, true, true, false, false, false, true] rfl rfl (any_of HT_.out (by kernel_rfl)) (fun _ _ _ h => h) (Or.inl ⟨by rfl, ?_⟩) ?_ ?_
     rotate_left
     ·intro w'
      go_simp
      with_reducible rfl
     rotate_left
     ·simp only [Act.put, List.setIfInBounds_toArray, List.set_cons_zero, List.set_cons_succ, i64_w, i32_w]
      rfl
     refine take_ (i := 0) (N := some 39) (v := ?_) (a' := ?_) #[true, false, true, true, true, false, false, false, true] rfl rfl (take_ofW HT_.out HW_.out (by kernel_rfl)) (fun _ _ _ h => h) (Or.inl ⟨by rfl, ?_⟩) hHeld ?_ ?_
     rotate_left
     ·rintro w' ⟨s0, s1, s2, s3, s4, s5⟩
      go_simp
      with_reducible rfl
     rotate_left
     ·simp only [Act.put, List.setIfInBounds_toArray, List.set_cons_zero, List.set_cons_succ, i64_w, i32_w]
      rfl
     refine take_ (i := 1) (N := some 40) (v := ?_) (a' := ?_) #[true, true, true, true, true, false, false, false, true] rfl rfl (take_ofW HT_.out HW_.out (by kernel_rfl)) (fun _ _ _ h => h) (Or.inl ⟨by rfl, ?_⟩) hHeld ?_ ?_
     rotate_left
     ·rintro w' ⟨s0, s1, s2, s3, s4, s5⟩
      go_simp
      with_reducible rfl
     rotate_left
     ·simp only [Act.put, List.setIfInBounds_toArray, List.set_cons_zero, List.set_cons_succ, i64_w, i32_w]
      rfl
     refine take_ (i := 5) (N := some 44) (v := ?_) (a' := ?_) #[true, true, true, true, true, true, false, false, true] rfl rfl (take_ofW HT_.out HW_.out (by kernel_rfl)) (fun _ _ _ h => h) (Or.inl ⟨by rfl, ?_⟩) hHeld ?_ ?_
     rotate_left
     ·rintro w' ⟨s0, s1, s2, s3, s4, s5⟩
      go_simp
      with_reducible rfl
     rotate_left
     ·simp only [Act.put, List.setIfInBounds_toArray, List.set_cons_zero, List.set_cons_succ, i64_w, i32_w]
      rfl
     refine one_ (i := 6) (N := some 45) #[true, true, true, true, true, true, true, false, true] rfl rfl (one_of HT_.out (by kernel_rfl)) (by decide) (fun K hK => ?_)
     refine goes_ Try.func50 (by kernel_rfl) rfl #[.agg #[.int .i64 a0_0, .int .i64 a0_1, .slice A0_2 l0_2.length c0_2], .agg #[.int .i64 a1_0, .int .i64 a1_1], .int .i64 (rd x9_2 x10_2)] (by rfl) rfl rfl zd11 ?_
     with_reducible refine (spec_boLeaps.calls k2 a0_0 a0_1 _ _ l0_2 a1_0 a1_1 (rd x9_2 x10_2) t173 _ ?side1 ?side2 A29.out).mono ?_
     (case side1 => exact zd10)
     (case side2 => exact HC0_2.out)
     rintro e w32 ⟨v174, rfl, ho0, hb⟩
     have HS5_ := (hb.cell (World.block_lt_of_cell? _ _ (hHeld.2.2.2.2.2))).trans (hHeld.2.2.2.2.2)
     refine ⟨_, rfl, ?_⟩
     have n0_ := Aside0.mk (Kd.R_elder' zd6 (Kd.R_base ho0) hb)
     have n1_ := Aside0.mk (Kd.R_elder' (by first | exact HO_9.out | ((with_reducible repeat (first | apply Kd.R_alloc | apply Kd.R_drewN | apply Kd.R_drew)); exact HO_9.out)) (Kd.R_base ho0) hb)
     have n2_ := Aside0.mk (Kd.R_lower (Kd.R_new' (Kd.R_new' ho0 (Kd.R_lt zd6)) (Kd.R_lt (by first | exact HO_9.out | ((with_reducible repeat (first | apply Kd.R_alloc | apply Kd.R_drewN | apply Kd.R_drew)); exact HO_9.out)))) (below_size zd1))
     have n3_ := Aside0.mk (blk_below (g := gb162) (o := .cells #[.int .i64 a0_0, .int .i64 a0_1, .slice A0_2 l0_2.length c0_2] 30 (0, 0)) zd3 hb)
     have n4_ := Aside0.mk (blk_below (g := gb163) (o := .cells #[.int .i64 a1_0, .int .i64 a1_1] 32 (0, 0)) zd7 hb)
     have n5_ := Aside0.mk (below_step zd1 hb)
     clear HO_7
     clear HO_9
     clear BK162
     clear BK163
     clear HB
     have HO_7 := n0_
     have HO_9 := n1_
     have HO175 := n2_
     have BK162 := n3_
     have BK163 := n4_
     have HB := n5_
     clear n0_ n1_ n2_ n3_ n4_ n5_
     (try clear hb)
     (try clear hb2)
     (try clear hk)
     (try clear hi)
     (try clear ho0)
     (try clear hna_)
     (try clear hnb_)
     obtain ⟨Ao33, co33, eo33⟩ := Kd.R_slice HO175.out
     (first | subst eo33 | (injection eo33 with f1_ f2_ f3_; have f4_ := f1_.symm; have f5_ := f3_.symm; clear f1_ f2_ f3_; subst f4_; subst f5_))
     refine hK.out _ _ ⟨(blk_cell BK162.out 0).trans rfl, (blk_cell BK162.out 1).trans rfl, (blk_cell BK162.out 2).trans rfl, (blk_cell BK163.out 0).trans rfl, (blk_cell BK163.out 1).trans rfl, HS5_⟩ (fun hHeld => ?_)
     clear hK K
     refine norm_ (a' := ?_) ?_ ?_
     rotate_left
     ·show Act.put _ (some 45) _ = _
      simp only [Act.put, List.setIfInBounds_toArray, List.set_cons_zero, List.set_cons_succ, i64_w, i32_w]
      rfl
     refine pure_ (i := 7) (N := some 46) (v := ?_) (a' := ?_) #[true, true, true, true, true, true, true, true, true] rfl rfl (any_of HT_.out (by kernel_rfl)) (fun _ _ _ h => h) (Or.inl ⟨by rfl, ?_⟩) ?_ ?_
     rotate_left
     ·intro w'
      go_simp
      with_reducible rfl
     rotate_left
     ·simp only [Act.put, List.setIfInBounds_toArray, List.set_cons_zero, List.set_cons_succ, i64_w, i32_w]
      rfl
     refine done_ (done_of HT_.out (by kernel_rfl)) ?_
     try go_wp2
     go_loopg [9, 47] k2 (fun kq v9 v47 w' => ∃ (x7_3 : List Int) (x9_3 : List Int) (x47_3 : Int), v47 = .int .i64 x47_3 ∧ Aside0 (spec_faFrom.l2 kq x7_3 x9_3 x10_2 t173 (t173.length : Int) x47_3 a0_0 a0_1 l0_2 a1_0 a1_1 = some r) ∧ Aside0 (kq ≤ k2) ∧ Aside0 (Kd.R (Kd.int .i64) 3 w' w.heap.size (fun k_ => some k_ ≠ (v9 : Value).ownBlock ∧ some k_ ≠ ((.slice Ao33 t173.length co33) : Value).ownBlock) (.slice (some ⟨go22, 0, none⟩) x7_2.length co13) x7_3) ∧ Aside0 (Kd.R (Kd.int .i64) 3 w' w.heap.size (fun k_ => some k_ ≠ ((.slice (some ⟨go22, 0, none⟩) x7_2.length co13) : Value).ownBlock ∧ some k_ ≠ ((.slice Ao33 t173.length co33) : Value).ownBlock) v9 x9_3) ∧ Aside0 (Kd.R (Kd.int .i64) 3 w' w.heap.size (fun k_ => some k_ ≠ ((.slice (some ⟨go22, 0, none⟩) x7_2.length co13) : Value).ownBlock ∧ some k_ ≠ (v9 : Value).ownBlock) (.slice Ao33 t173.length co33) t173) ∧ Aside0 (w'.heap[gb162]? = some (.cells #[.int .i64 a0_0, .int .i64 a0_1, (.slice A0_2 l0_2.length c0_2)] 30 (0, 0))) ∧ Aside0 (w'.heap[gb163]? = some (.cells #[.int .i64 a1_0, .int .i64 a1_1] 32 (0, 0))) ∧ Aside0 (Below w.heap.size w w'))
     case atStart => exact ⟨(x7_2), (x9_2), (0), zd12, H', ⟨Nat.le_refl _⟩, ⟨by (try simp only [hl7_1]); (try simp only [hl7_2]); first | exact HO_7.out | ((with_reducible repeat (first | apply Kd.R_alloc | apply Kd.R_drewN | apply Kd.R_drew)); exact HO_7.out)⟩, ⟨by (try simp only [hl7_1]); (try simp only [hl7_2]); first | exact HO_9.out | ((with_reducible repeat (first | apply Kd.R_alloc | apply Kd.R_drewN | apply Kd.R_drew)); exact HO_9.out)⟩, ⟨by (try simp only [hl7_1]); (try simp only [hl7_2]); (with_reducible repeat (first | apply Kd.R_alloc | apply Kd.R_drewN | apply Kd.R_drew)); exact Kd.R_mono HO175.out (fun _ hk => ⟨hk.1.2, hk.2⟩)⟩, ⟨by (try simp only [hl7_1]); (try simp only [hl7_2]); first | exact BK162.out | ((with_reducible repeat (first | refine blk_drewN ?_ _ | refine blk_drew ?_ | refine blk_alloc ?_ _)); exact BK162.out)⟩, ⟨by (try simp only [hl7_1]); (try simp only [hl7_2]); first | exact BK163.out | ((with_reducible repeat (first | refine blk_drewN ?_ _ | refine blk_drew ?_ | refine blk_alloc ?_ _)); exact BK163.out)⟩, ⟨zd1⟩⟩
     case round =>
      clear H'
      try clear c1; try clear p1; try clear q1; try clear hx1; try clear c2; try clear p2; try clear q2; try clear hx2; try clear c3; try clear c5; try clear c5b0; try clear c5b1; try clear c6; try clear c6b0; try clear c6b1; try clear p6; try clear c9; try clear c14; try clear c14b0; try clear c14b8; try clear c15; try clear c15b0; try clear c16; try clear c16b0; try clear c16b8; try clear p17; try clear q17; try clear hx17; try clear hf17; try clear c20; try clear c20b0; try clear c21; try clear c21b0; try clear c21b8; try clear p22; try clear q22; try clear hx22; try clear hf22; try clear c27; try clear c27b0
      try clear c27b8; try clear c28; try clear c28b0; try clear hcz10_0; try clear hcz10_1; try clear hcz10_2; try clear hfz10_0; try clear hfz10_1; try clear hfz10_2; try clear hx172_0; try clear hx17_0; try clear hx22_0; try clear p1; try clear p17; try clear p172; try clear p2; try clear p22; try clear p6; try clear q1; try clear q17; try clear q172; try clear q2; try clear q22
      obtain ⟨x7_3, x9_3, x47_3, rfl, HA, HK3, HO_7, HO_9, HO_45, BK162, BK163, HB⟩ := hrel
      have hl7_3 := (Kd.R_reads' HO_7.out).1
      rw [hl7_3] at HO_7
      (try simp only [hl7_3])
      (try simp only [hl7_3] at BK162)
      (try simp only [hl7_3] at BK163)
      (try simp only [hl7_3] at HO_9)
      (try simp only [hl7_3] at HO_45)
      cases gk with
      | zero => exact absurd HA.out (by simp [spec_faFrom.l2])
      | succ k3 =>
       have H := HA.out
       clear HA
       simp only [spec_faFrom.l2] at H
       by_cases c34 : x47_3 < (t173.length : Int)
       rotate_left
       ·rw [if_neg c34] at H
        have c34b0 : decide (x47_3 < (t173.length : Int)) = false := decide_eq_false c34
        have c34b8 := c34b0
        (try simp only [hl7_1, hl7_2, hl7_3] at c34b8)
        clear c34
        have H' := Aside0.mk H
        clear H
        go_wp2
        (try simp only [← hl7_2, ← hl7_3])
        go_roundg k3
        case measure => have := HK1.out; have := HK2.out; have := HK3.out; omega
        case rel => exact ⟨(x7_3), (x9_3), (wrap64 (x10_2 + 1)), zd12, H', ⟨by have := HK1.out; have := HK2.out; have := HK3.out; omega⟩, ⟨by (try simp only [hl7_1]); (try simp only [hl7_2]); (try simp only [hl7_3]); (with_reducible repeat (first | apply Kd.R_alloc | apply Kd.R_drewN | apply Kd.R_drew)); exact Kd.R_mono HO_7.out (fun _ hk => hk.1)⟩, ⟨by (try simp only [hl7_1]); (try simp only [hl7_2]); (try simp only [hl7_3]); (with_reducible repeat (first | apply Kd.R_alloc | apply Kd.R_drewN | apply Kd.R_drew)); exact Kd.R_mono HO_9.out (fun _ hk => hk.1)⟩, ⟨zd14⟩, ⟨zd13⟩, ⟨zd1⟩⟩
       rw [if_pos c34] at H
       have c34b0 : decide (x47_3 < (t173.length : Int)) = true := decide_eq_true c34
       have c34b8 := c34b0
       (try simp only [hl7_1, hl7_2, hl7_3] at c34b8)
       clear c34
       by_cases c35 : 0 ≤ x47_3
       rotate_left
       ·rw [if_neg c35] at H
        exact absurd H (by simp)
       rw [if_pos c35] at H
       have c35b0 : decide (0 ≤ x47_3) = true := decide_eq_true c35
       clear c35
       by_cases c36 : x47_3 < (t173.length : Int)
       rotate_left
       ·rw [if_neg c36] at H
        exact absurd H (by simp)
       rw [if_pos c36] at H
       have c36b0 : decide (x47_3 < (t173.length : Int)) = true := decide_eq_true c36
       have c36b8 := c36b0
       (try simp only [hl7_1, hl7_2, hl7_3] at c36b8)
       clear c36
       by_cases c37 : 0 ≤ (rd t173 x47_3)
       rotate_left
       ·rw [if_neg c37] at H
        exact absurd H (by simp)
       rw [if_pos c37] at H
       have c37b0 : decide (0 ≤ (rd t173 x47_3)) = true := decide_eq_true c37
       clear c37
       by_cases c38 : (rd t173 x47_3) < (x7_3.length : Int)
       rotate_left
       ·rw [if_neg c38] at H
        exact absurd H (by simp)
       rw [if_pos c38] at H
       have c38b0 : decide ((rd t173 x47_3) < (x7_3.length : Int)) = true := decide_eq_true c38
       have c38b8 := c38b0
       (try simp only [hl7_1, hl7_2, hl7_3] at c38b8)
       clear c38
       by_cases c39 : (rd x7_3 (rd t173 x47_3)) < 0
       rotate_left
       ·rw [if_neg c39] at H
        have c39b0 : decide ((rd x7_3 (rd t173 x47_3)) < 0) = false := decide_eq_false c39
        clear c39
        have H' := Aside0.mk H
        clear H
        have p176 : 0 ≤ (x47_3 : Int) := of_decide_eq_true zd4
        have q176 : x47_3 < (t173.length : Int) := of_decide_eq_true zd4
        obtain ⟨ad176, e176, hx176_0⟩ := Kd.at_int (Kd.R_reads' HO_45.out).2.2 x47_3 p176 q176
        cases e176
        replace p176 := eq_true p176
        replace q176 := eq_true q176
        have p177 : 0 ≤ ((rd t173 x47_3) : Int) := of_decide_eq_true zd4
        have q177 : (rd t173 x47_3) < (x7_3.length : Int) := of_decide_eq_true zd4
        obtain ⟨ad177, e177, hx177_0⟩ := Kd.at_int (Kd.R_reads' HO_7.out).2.2 (rd t173 x47_3) p177 q177
        obtain rfl : (⟨go22, 0, none⟩ : Addr) = ad177 := (by injection e177)
        (first | simp only [add_plain] at hx177_0 | simp only [add_at] at hx177_0 | simp only [Addr.add, Nat.zero_add] at hx177_0 | skip)
        replace p177 := eq_true p177
        replace q177 := eq_true q177
        go_wp2
        (try simp only [← hl7_3])
        go_roundg k3
        case measure => have := HK1.out; have := HK2.out; have := HK3.out; omega
        case rel => exact ⟨(x7_3), (x9_3), (wrap64 (x47_3 + 1)), zd12, H', ⟨by have := HK1.out; have := HK2.out; have := HK3.out; omega⟩, ⟨by (try simp only [hl7_1]); (try simp only [hl7_2]); (try simp only [hl7_3]); first | exact HO_7.out | ((with_reducible repeat (first | apply Kd.R_alloc | apply Kd.R_drewN | apply Kd.R_drew)); exact HO_7.out)⟩, ⟨by (try simp only [hl7_1]); (try simp only [hl7_2]); (try simp only [hl7_3]); first | exact HO_9.out | ((with_reducible repeat (first | apply Kd.R_alloc | apply Kd.R_drewN | apply Kd.R_drew)); exact HO_9.out)⟩, ⟨zd18⟩, ⟨zd14⟩, ⟨zd13⟩, ⟨zd1⟩⟩
       rw [if_pos c39] at H
       have c39b0 : decide ((rd x7_3 (rd t173 x47_3)) < 0) = true := decide_eq_true c39
       clear c39
       by_cases c40 : 0 ≤ x10_2
       rotate_left
       ·rw [if_neg c40] at H
        exact absurd H (by simp)
       rw [if_pos c40] at H
       have c40b0 : decide (0 ≤ x10_2) = true := decide_eq_true c40
       clear c40
       by_cases c41 : x10_2 < (x9_3.length : Int)
       rotate_left
       ·rw [if_neg c41] at H
        exact absurd H (by simp)
       rw [if_pos c41] at H
       have c41b0 : decide (x10_2 < (x9_3.length : Int)) = true := decide_eq_true c41
       have c41b8 := c41b0
       (try simp only [hl7_1, hl7_2, hl7_3] at c41b8)
       clear c41
       by_cases c42 : 0 ≤ (rd x9_3 x10_2)
       rotate_left
       ·rw [if_neg c42] at H
        exact absurd H (by simp)
       rw [if_pos c42] at H
       have c42b0 : decide (0 ≤ (rd x9_3 x10_2)) = true := decide_eq_true c42
       clear c42
       by_cases c43 : (rd x9_3 x10_2) < (x7_3.length : Int)
       rotate_left
       ·rw [if_neg c43] at H
        exact absurd H (by simp)
       rw [if_pos c43] at H
       have c43b0 : decide ((rd x9_3 x10_2) < (x7_3.length : Int)) = true := decide_eq_true c43
       have c43b8 := c43b0
       (try simp only [hl7_1, hl7_2, hl7_3] at c43b8)
       clear c43
       obtain ⟨y180, hy180⟩ : ∃ y_ : List Int, y_ = (x7_3.set ((rd t173 x47_3) : Int).toNat (wrap64 ((rd x7_3 (rd x9_3 x10_2)) + 1))) := ⟨_, rfl⟩
       replace H : (if x9_3.length < 17592186044416 then (spec_faFrom.l2 k3 y180 (x9_3 ++ [rd t173 x47_3]) x10_2 t173 (t173.length : Int) (wrap64 (x47_3 + 1)) a0_0 a0_1 l0_2 a1_0 a1_1) else (none)) = some r := by first | (rw [hy180]; with_reducible exact H) | (have H2_ := (Option.bind_some _ _).symm.trans H; rw [hy180]; with_reducible exact H2_) | (have H2_ := (Option.bind_some _ _).symm.trans H; with_reducible exact H2_) | with_reducible exact H | (rw [hy180]; exact H) | exact H
       have Ny180 := Aside0.mk hy180
       clear hy180
       by_cases c45 : x9_3.length < 17592186044416
       rotate_left
       ·rw [if_neg c45] at H
        exact absurd H (by simp)
       rw [if_pos c45] at H
       have LMc45 := Aside0.mk c45
       clear c45
       obtain ⟨y181, hy181⟩ : ∃ y_ : List Int, y_ = (x9_3 ++ [rd t173 x47_3]) := ⟨_, rfl⟩
       replace H : (spec_faFrom.l2 k3 y180 y181 x10_2 t173 (t173.length : Int) (wrap64 (x47_3 + 1)) a0_0 a0_1 l0_2 a1_0 a1_1) = some r := by first | (rw [hy181]; with_reducible exact H) | (have H2_ := (Option.bind_some _ _).symm.trans H; rw [hy181]; with_reducible exact H2_) | (have H2_ := (Option.bind_some _ _).symm.trans H; with_reducible exact H2_) | with_reducible exact H | (rw [hy181]; exact H) | exact H
       have Ny181 := Aside0.mk hy181
       clear hy181
       have H' := Aside0.mk H
       clear H
       have p176 : 0 ≤ (x47_3 : Int) := of_decide_eq_true zd4
       have q176 : x47_3 < (t173.length : Int) := of_decide_eq_true zd4
       obtain ⟨ad176, e176, hx176_0⟩ := Kd.at_int (Kd.R_reads' HO_45.out).2.2 x47_3 p176 q176
       cases e176
       replace p176 := eq_true p176
       replace q176 := eq_true q176
       have p177 : 0 ≤ ((rd t173 x47_3) : Int) := of_decide_eq_true zd4
       have q177 : (rd t173 x47_3) < (x7_3.length : Int) := of_decide_eq_true zd4
       obtain ⟨ad177, e177, hx177_0⟩ := Kd.at_int (Kd.R_reads' HO_7.out).2.2 (rd t173 x47_3) p177 q177
       obtain rfl : (⟨go22, 0, none⟩ : Addr) = ad177 := (by injection e177)
       (first | simp only [add_plain] at hx177_0 | simp only [add_at] at hx177_0 | simp only [Addr.add, Nat.zero_add] at hx177_0 | skip)
       replace p177 := eq_true p177
       replace q177 := eq_true q177
       obtain ⟨Ao46, co46, eo46⟩ := Kd.R_slice HO_9.out
       subst eo46
       have p178 : 0 ≤ (x10_2 : Int) := of_decide_eq_true zd4
       have q178 : x10_2 < (x9_3.length : Int) := of_decide_eq_true zd4
       obtain ⟨ad178, e178, hx178_0⟩ := Kd.at_int (Kd.R_reads' HO_9.out).2.2 x10_2 p178 q178
       cases e178
       replace p178 := eq_true p178
       replace q178 := eq_true q178
       have p179 : 0 ≤ ((rd x9_3 x10_2) : Int) := of_decide_eq_true zd4
       have q179 : (rd x9_3 x10_2) < (x7_3.length : Int) := of_decide_eq_true zd4
       obtain ⟨ad179, e179, hx179_0⟩ := Kd.at_int (Kd.R_reads' HO_7.out).2.2 (rd x9_3 x10_2) p179 q179
       obtain rfl : (⟨go22, 0, none⟩ : Addr) = ad179 := (by injection e179)
       (first | simp only [add_plain] at hx179_0 | simp only [add_at] at hx179_0 | simp only [Addr.add, Nat.zero_add] at hx179_0 | skip)
       replace p179 := eq_true p179
       replace q179 := eq_true q179
       have p44 : 0 ≤ ((rd t173 x47_3) : Int) := of_decide_eq_true zd4
       have q44 : ((rd t173 x47_3) : Int) < ((x7_3.length : Int) : Int) := of_decide_eq_true zd4
       obtain ⟨hx44_0, hf44_0⟩ := Kd.R_celln 0 HO_7.out ((rd t173 x47_3) : Int) p44 q44
       replace p44 := eq_true p44
       replace q44 := eq_true q44
       have HP47 := Kd.R_putg HO_7.out ((rd t173 x47_3) : Int) (wrap64 ((rd x7_3 (rd x9_3 x10_2)) + 1))
       go_wp2_with (first | ((with_reducible refine gate_store (t := 3) (p := 66) rfl ?_); refine store_event (t := 3) (p := 66) (v := ?vo_w48) (w1 := (wr.setCell ⟨go22, ((rd t173 x47_3) : Int).toNat, none⟩ (.int .i64 (wrap64 ((rd x7_3 (rd x9_3 x10_2)) + 1))))) ?hg ?ho ?hn ?hr ?_; (case ho => rfl); (case hg => rfl); (case hn => rfl); (case hr => first | (go_simp; done) | (go_simp; rfl)); intro w48 hw; have hg : wr.grownBy w48 (some go22) := (by rw [hw]; exact HP47.2); have hp_ : Kd.R (Kd.int .i64) 3 w48 w.heap.size (fun k_ => some k_ ≠ (.slice (some ad178) x9_3.length co46 : Value).ownBlock ∧ some k_ ≠ (.slice (some ad176) t173.length co33 : Value).ownBlock) (.slice (some ⟨go22, 0, none⟩) x7_3.length co13) y180 := (by rw [hw, Ny180.out]; exact HP47.1); clear HP47; have n0_ := Aside0.mk (hp_); have n1_ := Aside0.mk (Kd.R_after (v := (.slice (some ⟨go22, 0, none⟩) x7_3.length co13)) (v1 := (.slice (some ⟨go22, 0, none⟩) x7_3.length co13)) (ok := (fun k_ => some k_ ≠ (.slice (some ad176) t173.length co33 : Value).ownBlock)) zd20 hg (.inl rfl)); have n2_ := Aside0.mk (Kd.R_after (v := (.slice (some ⟨go22, 0, none⟩) x7_3.length co13)) (v1 := (.slice (some ⟨go22, 0, none⟩) x7_3.length co13)) (ok := (fun k_ => some k_ ≠ (.slice (some ad178) x9_3.length co46 : Value).ownBlock)) zd19 hg (.inl rfl)); have n3_ := Aside0.mk (blk_grown (g := gb162) (o := .cells #[.int .i64 a0_0, .int .i64 a0_1, .slice A0_2 l0_2.length c0_2] 30 (0, 0)) zd3 hg (Kd.R_ne HO_7.out BK162.out (by decide))); have n4_ := Aside0.mk (blk_grown (g := gb163) (o := .cells #[.int .i64 a1_0, .int .i64 a1_1] 32 (0, 0)) zd7 hg (Kd.R_ne HO_7.out BK163.out (by decide))); have n5_ := Aside0.mk ((by rw [hw]; exact below_set (HB.out) GB22.out : Below w.heap.size w w48)); clear HO_7; clear HO_9; clear HO_45; clear BK162; clear BK163; clear HB; have HO_7 := n0_; have HO_9 := n1_; have HO_45 := n2_; have BK162 := n3_; have BK163 := n4_; have HB := n5_; clear n0_ n1_ n2_ n3_ n4_ n5_; clear hg hw hp_) | ((with_reducible refine gate_builtin (b := .append) (xs := #[.tmp 67, .tmp 69]) rfl ?_); at_builtin; refine Kd.R_append (Kd.int .i64) (w0 := w) w.heap.size rfl (.tmp 67) (.tmp 69) 22 3 (.int .i64 0) 8 rfl Try.underlying22 info3 rfl (by decide) (by omega) (.slice (some ad178) x9_3.length co46) x9_3 (rd t173 x47_3) [.int .i64 (rd t173 x47_3)] (fun k_ => some k_ ≠ (.slice (some ⟨go22, 0, none⟩) x7_3.length co13 : Value).ownBlock ∧ some k_ ≠ (.slice (some ad176) t173.length co33 : Value).ownBlock) (fun _ => False) rfl rfl ?aP (fun _ hk => hk.elim) ?aF ?aO ?aB ?aS ?aL ?_; (case aP => exact rfl); (case aB => exact zd1); (case aF => exact (fun k_ hk => ⟨Kd.fresh' (Kd.R_lt zd6) k_ hk, Kd.fresh' (Kd.R_lt (by first | exact HO_45.out | ((with_reducible repeat (first | apply Kd.R_alloc | apply Kd.R_drewN | apply Kd.R_drew)); exact HO_45.out))) k_ hk⟩)); (case aO => exact zd20); (case aS => exact (below_size zd1)); (case aL => have := LMc45.out; omega); intro v182 w49 ho hb hg hat; rw [← Ny181.out] at ho; have n0_ := Aside0.mk (Kd.R_after (ok := (fun k_ => some k_ ≠ (.slice (some ad176) t173.length co33 : Value).ownBlock)) (by (with_reducible repeat (first | apply Kd.R_alloc | apply Kd.R_drewN | apply Kd.R_drew)); exact Kd.R_mono HO_7.out (fun _ hk => ⟨hk.2, hk.1⟩)) hg hat); have n1_ := Aside0.mk (Kd.R_after (ok := (fun k_ => some k_ ≠ (.slice (some ⟨go22, 0, none⟩) x7_3.length co13 : Value).ownBlock)) zd19 hg hat); have n2_ := Aside0.mk (blk_grown (g := gb162) (o := .cells #[.int .i64 a0_0, .int .i64 a0_1, .slice A0_2 l0_2.length c0_2] 30 (0, 0)) zd3 hg (Kd.R_ne HO_9.out BK162.out (by decide))); have n3_ := Aside0.mk (blk_grown (g := gb163) (o := .cells #[.int .i64 a1_0, .int .i64 a1_1] 32 (0, 0)) zd7 hg (Kd.R_ne HO_9.out BK163.out (by decide))); have n4_ := Aside0.mk (hb); have n5_ := Aside0.mk (ho); clear HO_7; clear HO_45; clear BK162; clear BK163; clear HB; clear HO_9; have HO_7 := n0_; have HO_45 := n1_; have BK162 := n2_; have BK163 := n3_; have HB := n4_; have HO183 := n5_; clear n0_ n1_ n2_ n3_ n4_ n5_; clear ho hb hg hat))
       (try simp only [← hl7_3])
       go_roundg k3
       case measure => have := HK1.out; have := HK2.out; have := HK3.out; omega
       case rel => exact ⟨(y180), (y181), (wrap64 (x47_3 + 1)), zd12, H', ⟨by have := HK1.out; have := HK2.out; have := HK3.out; omega⟩, ⟨by (try simp only [hl7_1]); (try simp only [hl7_2]); (try simp only [hl7_3]); (with_reducible repeat (first | apply Kd.R_alloc | apply Kd.R_drewN | apply Kd.R_drew)); exact Kd.R_mono HO_7.out (fun _ hk => ⟨hk.2, hk.1⟩)⟩, ⟨by (try simp only [hl7_1]); (try simp only [hl7_2]); (try simp only [hl7_3]); first | exact HO183.out | ((with_reducible repeat (first | apply Kd.R_alloc | apply Kd.R_drewN | apply Kd.R_drew)); exact HO183.out)⟩, ⟨zd18⟩, ⟨zd14⟩, ⟨zd13⟩, ⟨zd1⟩⟩

end Go.Proofs.Ytfjomkjngolboaa.Q

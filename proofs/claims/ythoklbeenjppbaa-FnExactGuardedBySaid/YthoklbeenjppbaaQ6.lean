/- Written by a program of this session: functions of the translation as plain Lean functions, each with a proof that the call does what the plain function says; the conditions stand in each theorem. -/
import Derived.Test.YthoklbeenjppbaaQ0
import Derived.Test.YthoklbeenjppbaaQ1
import Derived.Test.YthoklbeenjppbaaQ2
import Derived.Test.YthoklbeenjppbaaQ4
import Derived.Test.YthoklbeenjppbaaQ8
namespace Go.Proofs.Ythoklbeenjppbaa.Q
open Go.RowKit Go.Proofs.YthoklbeenjppbaaW.PrintWords Go.Proofs.YthoklbeenjppbaaW.PrintLast Go.Proofs.YthoklbeenjppbaaW.PrintMore
attribute [local go_sem] max2_int min2_int max_two min_two max_three min_three max_four min_four   -- for this text's walks alone
set_option linter.unusedVariables false
set_option linter.unusedSimpArgs false

theorem zg1 {p : Prop} (h : p := by repeat (first | (with_reducible first | exact HB.out | apply below_alloc | apply pw_below_drewN | apply below_drew1) | exact HB.out)) : p := h
theorem zg2 {p : Prop} (h : p := by repeat (first | exact (Kd.C_below HR0_2.out HB.out) | (with_reducible refine Kd.C_alloc ?_ _) | (with_reducible refine Kd.C_drewN ?_ _) | (with_reducible refine Kd.C_drew ?_))) : p := h
theorem zg3 {p : Prop} (h : p := by repeat (first | (with_reducible first | exact HB.out | apply below_alloc | apply pw_below_drewN | apply below_drew1 | refine below_set ?_ GE234.out | refine below_set ?_ GE235.out) | exact HB.out)) : p := h
theorem zg4 {p : Prop} (h : p := by repeat (first | (with_reducible first | exact HB.out | apply below_alloc | apply pw_below_drewN | apply below_drew1 | refine below_set ?_ GE141.out | refine below_set ?_ GE142.out) | exact HB.out)) : p := h
theorem zg5 {p : Prop} (h : p := by (with_reducible repeat (first | refine blk_drewN ?_ _ | refine blk_drew ?_ | refine blk_alloc ?_ _)); exact BK234.out) : p := h
theorem zg6 {p : Prop} (h : p := by (try simp only [List.map_toArray, List.map_cons, List.map_nil]); first | done | rfl | (simp only [List.length_drop, List.length_take]; rfl)) : p := h
theorem zg7 {p : Prop} (h : p := by repeat (first | (with_reducible first | exact HB.out | apply below_alloc | apply pw_below_drewN | apply below_drew1 | refine below_set ?_ GE123.out) | exact HB.out)) : p := h
theorem zg8 {p : Prop} (h : p := by repeat (first | (with_reducible first | exact HB.out | apply below_alloc | apply pw_below_drewN | apply below_drew1 | refine below_set ?_ GE230.out) | exact HB.out)) : p := h
theorem zg9 {p : Prop} (h : p := by first | (with_reducible assumption) | assumption) : p := h
theorem zg10 {p : Prop} (h : p := by repeat (first | (with_reducible first | exact HB.out | apply below_alloc | apply pw_below_drewN | apply below_drew1 | refine below_set ?_ GE234.out) | exact HB.out)) : p := h
theorem zg11 {p : Prop} (h : p := by (with_reducible repeat (first | refine blk_drewN ?_ _ | refine blk_drew ?_ | refine blk_alloc ?_ _)); exact BK141.out) : p := h
theorem zg12 {p : Prop} (h : p := by (with_reducible repeat (first | refine blk_drewN ?_ _ | refine blk_drew ?_ | refine blk_alloc ?_ _)); exact BK235.out) : p := h
theorem zg13 {p : Prop} (h : p := by (with_reducible repeat (first | refine blk_drewN ?_ _ | refine blk_drew ?_ | refine blk_alloc ?_ _)); exact BK142.out) : p := h
theorem zg14 {p : Prop} (h : p := by (with_reducible repeat (first | refine blk_drewN ?_ _ | refine blk_drew ?_ | refine blk_alloc ?_ _)); exact BK127.out) : p := h
theorem zg15 {p : Prop} (h : p := by first | rfl | (simp [errW_none, errW_some] <;> rfl) | (simp [*, errW_none, errW_some] <;> rfl)) : p := h
theorem zg16 {p : Prop} (h : p := by repeat (first | (with_reducible first | exact HB.out | apply below_alloc | apply pw_below_drewN | apply below_drew1 | refine below_set ?_ GE127.out) | exact HB.out)) : p := h
theorem zg17 {p : Prop} (h : p := by repeat (first | (with_reducible first | exact HB.out | apply below_alloc | apply pw_below_drewN | apply below_drew1 | refine below_set ?_ GE127.out | refine below_set ?_ GE128.out) | exact HB.out)) : p := h
theorem zg18 {p : Prop} (h : p := by (with_reducible repeat (first | refine blk_drewN ?_ _ | refine blk_drew ?_ | refine blk_alloc ?_ _)); exact BK230.out) : p := h
theorem zg19 {p : Prop} (h : p := by (with_reducible repeat (first | refine blk_drewN ?_ _ | refine blk_drew ?_ | refine blk_alloc ?_ _)); exact BK123.out) : p := h
theorem zg20 {p : Prop} (h : p := by repeat (first | (with_reducible first | exact HB.out | apply below_alloc | apply pw_below_drewN | apply below_drew1 | refine below_set ?_ GE234.out | refine below_set ?_ GE235.out | refine below_set ?_ GE242.out) | exact HB.out)) : p := h
theorem zg21 {p : Prop} (h : p := by first | rfl | (simp; done) | (simp [*]; done)) : p := h
theorem zg22 {p : Prop} (h : p := by (with_reducible repeat (first | apply Kd.R_alloc | apply Kd.R_drewN | apply Kd.R_drew)); exact HO_14.out) : p := h
theorem zg23 {p : Prop} (h : p := by (with_reducible repeat (first | apply Kd.R_alloc | apply Kd.R_drewN | apply Kd.R_drew)); exact HO_7.out) : p := h
theorem zg24 {p : Prop} (h : p := by repeat (first | exact (Kd.C_below HR2.out HB.out) | (with_reducible refine Kd.C_alloc ?_ _) | (with_reducible refine Kd.C_drewN ?_ _) | (with_reducible refine Kd.C_drew ?_))) : p := h
theorem zg25 {p : Prop} (h : p := by repeat (first | (with_reducible first | exact HB.out | apply below_alloc | apply pw_below_drewN | apply below_drew1 | refine below_set ?_ GE141.out) | exact HB.out)) : p := h
theorem zg26 {p : Prop} (h : p := by first | exact Kd.R_nil _ _ _ _ _ | exact Kd.N_nil _ _ _ _ _ | exact Kd.V_nil _ _ _ _ _ | exact Kd.Q_nil _ _ _ _ _ | exact Kd.S_nil _ _ _ _ _) : p := h
theorem zg27 {p : Prop} (h : p := by (with_reducible repeat (first | refine blk_drewN ?_ _ | refine blk_drew ?_ | refine blk_alloc ?_ _)); exact BK242.out) : p := h
theorem zg28 {p : Prop} (h : p := by (with_reducible repeat (first | refine blk_drewN ?_ _ | refine blk_drew ?_ | refine blk_alloc ?_ _)); exact BK128.out) : p := h
theorem zg29 {p : Prop} (h : p := by (with_reducible repeat (first | apply Kd.S_alloc | apply Kd.S_drewN | apply Kd.S_drew)); exact HO241.out) : p := h
theorem zg30 {p : Prop} (h : p := by (with_reducible repeat (first | apply Kd.R_alloc | apply Kd.R_drewN | apply Kd.R_drew)); exact HO238.out) : p := h
theorem zg31 {p : Prop} (h : p := by first | exact Kd.S_nil _ _ _ _ _ | exact Kd.N_nil _ _ _ _ _ | exact Kd.V_nil _ _ _ _ _ | exact Kd.Q_nil _ _ _ _ _ | exact Kd.R_nil _ _ _ _ _) : p := h
theorem zg32 {p : Prop} (h : p := by rw [hg]; exact (below_size zg1)) : p := h
theorem zg33 {p : Prop} (h : p := by rw [hg]; exact Nat.ne_of_lt (blk_lt (g := gb234) (o := .cells #[.int .i64 a0_0, .int .i64 a0_1, .slice A0_2 l0_2.length c0_2] 30 (0, 0)) zg5)) : p := h
theorem zg34 {p : Prop} (h : p := by rw [hg]; exact Nat.ne_of_gt (blk_lt (g := gb234) (o := .cells #[.int .i64 a0_0, .int .i64 a0_1, .slice A0_2 l0_2.length c0_2] 30 (0, 0)) zg5)) : p := h
theorem zg35 {p : Prop} (h : p := by rw [hg]; exact (below_size zg10)) : p := h
theorem zg36 {p : Prop} (h : p := by rw [hg]; exact Nat.ne_of_lt (blk_lt (g := gb127) (o := .cells #[.int .i64 a0_0, .int .i64 a0_1, .slice A0_2 l0_2.length c0_2] 30 (0, 0)) zg14)) : p := h
theorem zg37 {p : Prop} (h : p := by rw [hg]; exact Nat.ne_of_gt (blk_lt (g := gb127) (o := .cells #[.int .i64 a0_0, .int .i64 a0_1, .slice A0_2 l0_2.length c0_2] 30 (0, 0)) zg14)) : p := h
/-! ### spec_guSet: function 83 -/
def spec_guSet.l0 : Nat → List Int → List Int → Int → Int → Int → Int → List Int → Option (Bool)
 | 0, _, _, _, _, _, _, _ => none
 | k + 1, x1, x10, x11, x12, x124000, x124001, x124002 => if x12 < x11 then (if 0 ≤ x12 then (if x12 < (x10.length : Int) then ((spec_boHas.f k x124000 x124001 x124002 (rd x10 x12)).bind fun t125 => (if t125 = true then (if x12 > 0 then (if 0 ≤ (wrap64 (x12 - 1)) then (if (wrap64 (x12 - 1)) < (x1.length : Int) then (if (rd x1 (wrap64 (x12 - 1))) ≥ (rd x10 x12) then (some false) else (spec_guSet.l0 k x1 x10 x11 (wrap64 (x12 + 1)) x124000 x124001 x124002)) else (none)) else (none)) else (spec_guSet.l0 k x1 x10 x11 (wrap64 (x12 + 1)) x124000 x124001 x124002)) else (some false))) else (none)) else (none)) else (some true)
def spec_guSet.f (k : Nat) (a0_0 : Int) (a0_1 : Int) (l0_2 : List Int) (l1 : List Int) : Option (Bool) := if (l1.length : Int) > 64 then (some false) else (spec_guSet.l0 k l1 l1 (l1.length : Int) 0 a0_0 a0_1 l0_2)
set_option maxHeartbeats 8000000 in
set_option maxRecDepth 100000 in
theorem spec_guSet.calls (k : Nat) (a0_0 : Int) (a0_1 : Int) (A0_2 : Option Addr) (c0_2 : Nat) (l0_2 : List Int) (A1 : Option Addr) (c1 : Nat) (l1 : List Int) (r : Bool) (w : World) (hr0_2 : Kd.C (Kd.int .i64) w A0_2 l0_2.length l0_2) (hc0_2 : l0_2.length ≤ c0_2) (hr1 : Kd.C (Kd.int .i64) w A1 l1.length l1) (hc1 : l1.length ≤ c1) (h : spec_guSet.f k a0_0 a0_1 l0_2 l1 = some r) :
  Calls Try.prog 83 #[.agg #[.int .i64 a0_0, .int .i64 a0_1, .slice A0_2 l0_2.length c0_2], .slice A1 l1.length c1] w fun e w' => e = .returned (.bool r) ∧ Below w.heap.size w w' := by
 have hu30 := Try.underlying30
 have HR0_2 := Aside0.mk hr0_2
 have HC0_2 := Aside0.mk hc0_2
 clear hr0_2 hc0_2
 have HR1 := Aside0.mk hr1
 have HC1 := Aside0.mk hc1
 clear hr1 hc1
 have HB := Aside0.mk (Below.refl w.heap.size w)
 have H : (if (l1.length : Int) > 64 then (some false) else (spec_guSet.l0 k l1 l1 (l1.length : Int) 0 a0_0 a0_1 l0_2)) = some r := h
 clear h
 by_cases c3 : (l1.length : Int) > 64
 ·rw [if_pos c3] at H
  have c3b0 : decide (64 < (l1.length : Int)) = true := decide_eq_true c3
  have c3b1 : decide (64 < l1.length) = true := decide_eq_true (by omega)
  clear c3
  obtain rfl := Option.some.inj H
  go_enter Try.func83, Try.ntmps83
  go_wp2_with (first | ((with_reducible refine gate_dst (N := 2) rfl ?_); refine box_event ?hg (N := 2) ?hd (cs := #[.int .i64 a0_0, .int .i64 a0_1, .slice A0_2 l0_2.length c0_2]) (t := 30) ?hr ?_; (case hd => rfl); (case hg => rfl); (case hr => first | (go_simp; done) | (go_simp; rfl)); intro gb123 hg w4 hbox hb; have n0_ := Aside0.mk (below_step zg1 hb); have n1_ := Aside0.mk (hbox); have n2_ := Aside0.mk ((zg32 : w.heap.size ≤ gb123)); have n3_ := Aside0.mk ((zg32 : w.heap.size ≤ gb123)); clear HB; have HB := n0_; have BK123 := n1_; have GW123 := n2_; have GE123 := n3_; clear n0_ n1_ n2_ n3_; clear hb hbox hg))
  go_ret
  exact ⟨zg15, zg7⟩
 rw [if_neg c3] at H
 have c3b0 : decide (64 < (l1.length : Int)) = false := decide_eq_false c3
 have c3b1 : decide (64 < l1.length) = false := decide_eq_false (by omega)
 clear c3
 have H' := Aside0.mk H
 clear H
 go_enter Try.func83, Try.ntmps83
 go_wp2_with (first | ((with_reducible refine gate_dst (N := 2) rfl ?_); refine box_event ?hg (N := 2) ?hd (cs := #[.int .i64 a0_0, .int .i64 a0_1, .slice A0_2 l0_2.length c0_2]) (t := 30) ?hr ?_; (case hd => rfl); (case hg => rfl); (case hr => first | (go_simp; done) | (go_simp; rfl)); intro gb123 hg w5 hbox hb; have n0_ := Aside0.mk (below_step zg1 hb); have n1_ := Aside0.mk (hbox); have n2_ := Aside0.mk ((zg32 : w.heap.size ≤ gb123)); have n3_ := Aside0.mk ((zg32 : w.heap.size ≤ gb123)); clear HB; have HB := n0_; have BK123 := n1_; have GW123 := n2_; have GE123 := n3_; clear n0_ n1_ n2_ n3_; clear hb hbox hg))
 go_loopg [12] k (fun kq v12 w' => ∃ (x12_1 : Int), v12 = .int .i64 x12_1 ∧ Aside0 (spec_guSet.l0 kq l1 l1 (l1.length : Int) x12_1 a0_0 a0_1 l0_2 = some r) ∧ Aside0 (kq ≤ k) ∧ Aside0 (w'.heap[gb123]? = some (.cells #[.int .i64 a0_0, .int .i64 a0_1, (.slice A0_2 l0_2.length c0_2)] 30 (0, 0))) ∧ Aside0 (Below w.heap.size w w'))
 case atStart => exact ⟨(0), zg21, H', ⟨Nat.le_refl _⟩, ⟨zg19⟩, ⟨zg7⟩⟩
 case round =>
  clear H'
  try clear c1; try clear p2; try clear c3; try clear c3b0; try clear c3b1
  obtain ⟨x12_1, rfl, HA, HK1, BK123, HB⟩ := hrel
  cases gk with
  | zero => exact absurd HA.out (by simp [spec_guSet.l0])
  | succ k1 =>
   have H := HA.out
   clear HA
   simp only [spec_guSet.l0] at H
   by_cases c6 : x12_1 < (l1.length : Int)
   rotate_left
   ·rw [if_neg c6] at H
    have c6b0 : decide (x12_1 < (l1.length : Int)) = false := decide_eq_false c6
    clear c6
    obtain rfl := Option.some.inj H
    go_wp2
    go_ret
    exact ⟨zg15, zg7⟩
   rw [if_pos c6] at H
   have c6b0 : decide (x12_1 < (l1.length : Int)) = true := decide_eq_true c6
   clear c6
   by_cases c7 : 0 ≤ x12_1
   rotate_left
   ·rw [if_neg c7] at H
    exact absurd H (by simp)
   rw [if_pos c7] at H
   have c7b0 : decide (0 ≤ x12_1) = true := decide_eq_true c7
   clear c7
   by_cases c8 : x12_1 < (l1.length : Int)
   rotate_left
   ·rw [if_neg c8] at H
    exact absurd H (by simp)
   rw [if_pos c8] at H
   have c8b0 : decide (x12_1 < (l1.length : Int)) = true := decide_eq_true c8
   clear c8
   replace H := Option.bind_eq_some_iff.mp H
   obtain ⟨t125, A90, H⟩ := H
   replace H : (if t125 = true then (if x12_1 > 0 then (if 0 ≤ (wrap64 (x12_1 - 1)) then (if (wrap64 (x12_1 - 1)) < (l1.length : Int) then (if (rd l1 (wrap64 (x12_1 - 1))) ≥ (rd l1 x12_1) then (some false) else (spec_guSet.l0 k1 l1 l1 (l1.length : Int) (wrap64 (x12_1 + 1)) a0_0 a0_1 l0_2)) else (none)) else (none)) else (spec_guSet.l0 k1 l1 l1 (l1.length : Int) (wrap64 (x12_1 + 1)) a0_0 a0_1 l0_2)) else (some false)) = some r := H
   have A9 := Aside0.mk A90
   clear A90
   by_cases c10 : t125 = true
   rotate_left
   ·replace c10 := Bool.eq_false_iff.mpr c10
    subst c10
    have H1 : (some false) = some r := by rw [if_neg (show ¬ (false = true) by decide)] at H; exact H
    clear H
    have H := H1
    clear H1
    obtain rfl := Option.some.inj H
    have p124 : 0 ≤ (x12_1 : Int) := of_decide_eq_true zg9
    have q124 : x12_1 < (l1.length : Int) := of_decide_eq_true zg9
    obtain ⟨ad124, e124, hx124_0⟩ := Kd.at_int HR1.out x12_1 p124 q124
    cases e124
    (first | replace hx124_0 := (HB.out.cell (World.block_lt_of_cell? w _ hx124_0)).trans hx124_0 | skip)
    replace p124 := eq_true p124
    replace q124 := eq_true q124
    have hcz22_0 : wr.cell? ⟨gb123, 0, none⟩ = some (.int .i64 a0_0) := (blk_cell BK123.out 0).trans rfl
    have hcz22_1 : wr.cell? ⟨gb123, 1, none⟩ = some (.int .i64 a0_1) := (blk_cell BK123.out 1).trans rfl
    have hcz22_2 : wr.cell? ⟨gb123, 2, none⟩ = some (.slice A0_2 l0_2.length c0_2) := (blk_cell BK123.out 2).trans rfl
    have hfz22_0 := blk_frozen BK123.out 0
    have hfz22_1 := blk_frozen BK123.out 1
    have hfz22_2 := blk_frozen BK123.out 2
    go_wp2_with (first | ((with_reducible refine gate_callee (f := 86) rfl ?_); refine goesL_ (some 19) rfl rfl Try.func86 (by kernel_rfl) rfl #[.agg #[.int .i64 a0_0, .int .i64 a0_1, .slice A0_2 l0_2.length c0_2], .int .i64 (rd l1 x12_1)] rfl zg6 ?_; (with_reducible refine (spec_boHas.calls k1 a0_0 a0_1 _ _ l0_2 (rd l1 x12_1) false _ ?side1 ?side2 A9.out).mono ?_); (case side1 => exact zg2); (case side2 => exact HC0_2.out); rintro e w23 ⟨rfl, hb⟩; refine ⟨_, rfl, ?_⟩; have n0_ := Aside0.mk (blk_below (g := gb123) (o := .cells #[.int .i64 a0_0, .int .i64 a0_1, .slice A0_2 l0_2.length c0_2] 30 (0, 0)) zg19 hb); have n1_ := Aside0.mk (below_step zg7 hb); clear BK123; clear HB; have BK123 := n0_; have HB := n1_; clear n0_ n1_; (try clear hb); (try clear hb2); (try clear hk); (try clear hi); (try clear hna_); (try clear hnb_)))
    go_ret
    exact ⟨zg15, zg7⟩
   subst c10
   have H1 : (if x12_1 > 0 then (if 0 ≤ (wrap64 (x12_1 - 1)) then (if (wrap64 (x12_1 - 1)) < (l1.length : Int) then (if (rd l1 (wrap64 (x12_1 - 1))) ≥ (rd l1 x12_1) then (some false) else (spec_guSet.l0 k1 l1 l1 (l1.length : Int) (wrap64 (x12_1 + 1)) a0_0 a0_1 l0_2)) else (none)) else (none)) else (spec_guSet.l0 k1 l1 l1 (l1.length : Int) (wrap64 (x12_1 + 1)) a0_0 a0_1 l0_2)) = some r := by rw [if_pos rfl] at H; exact H
   clear H
   have H := H1
   clear H1
   by_cases c11 : x12_1 > 0
   rotate_left
   ·rw [if_neg c11] at H
    have c11b0 : decide (0 < x12_1) = false := decide_eq_false c11
    clear c11
    have H' := Aside0.mk H
    clear H
    have p124 : 0 ≤ (x12_1 : Int) := of_decide_eq_true zg9
    have q124 : x12_1 < (l1.length : Int) := of_decide_eq_true zg9
    obtain ⟨ad124, e124, hx124_0⟩ := Kd.at_int HR1.out x12_1 p124 q124
    cases e124
    (first | replace hx124_0 := (HB.out.cell (World.block_lt_of_cell? w _ hx124_0)).trans hx124_0 | skip)
    replace p124 := eq_true p124
    replace q124 := eq_true q124
    have hcz20_0 : wr.cell? ⟨gb123, 0, none⟩ = some (.int .i64 a0_0) := (blk_cell BK123.out 0).trans rfl
    have hcz20_1 : wr.cell? ⟨gb123, 1, none⟩ = some (.int .i64 a0_1) := (blk_cell BK123.out 1).trans rfl
    have hcz20_2 : wr.cell? ⟨gb123, 2, none⟩ = some (.slice A0_2 l0_2.length c0_2) := (blk_cell BK123.out 2).trans rfl
    have hfz20_0 := blk_frozen BK123.out 0
    have hfz20_1 := blk_frozen BK123.out 1
    have hfz20_2 := blk_frozen BK123.out 2
    go_wp2_with (first | ((with_reducible refine gate_callee (f := 86) rfl ?_); refine goesL_ (some 19) rfl rfl Try.func86 (by kernel_rfl) rfl #[.agg #[.int .i64 a0_0, .int .i64 a0_1, .slice A0_2 l0_2.length c0_2], .int .i64 (rd l1 x12_1)] rfl zg6 ?_; (with_reducible refine (spec_boHas.calls k1 a0_0 a0_1 _ _ l0_2 (rd l1 x12_1) true _ ?side1 ?side2 A9.out).mono ?_); (case side1 => exact zg2); (case side2 => exact HC0_2.out); rintro e w21 ⟨rfl, hb⟩; refine ⟨_, rfl, ?_⟩; have n0_ := Aside0.mk (blk_below (g := gb123) (o := .cells #[.int .i64 a0_0, .int .i64 a0_1, .slice A0_2 l0_2.length c0_2] 30 (0, 0)) zg19 hb); have n1_ := Aside0.mk (below_step zg7 hb); clear BK123; clear HB; have BK123 := n0_; have HB := n1_; clear n0_ n1_; (try clear hb); (try clear hb2); (try clear hk); (try clear hi); (try clear hna_); (try clear hnb_)))
    go_roundg k1
    case measure => have := HK1.out; omega
    case rel => exact ⟨(wrap64 (x12_1 + 1)), zg21, H', ⟨by have := HK1.out; omega⟩, ⟨zg19⟩, ⟨zg7⟩⟩
   rw [if_pos c11] at H
   have c11b0 : decide (0 < x12_1) = true := decide_eq_true c11
   clear c11
   obtain ⟨ji12, hji12⟩ : ∃ j_ : Int, (wrap64 (x12_1 - 1)) = j_ := ⟨_, rfl⟩
   replace H : (if 0 ≤ (ji12) then (if (ji12) < (l1.length : Int) then (if (rd l1 (ji12)) ≥ (rd l1 x12_1) then (some false) else (spec_guSet.l0 k1 l1 l1 (l1.length : Int) (wrap64 (x12_1 + 1)) a0_0 a0_1 l0_2)) else (none)) else (none)) = some r := by first | (rw [hji12] at H; exact H) | (simp only [hji12] at H ⊢; exact H)
   (try rw [hji12] at A9)
   have hji12w : (IntKind.i64.wrap (x12_1 - 1)) = ji12 := (i64_w _).trans hji12
   by_cases c13 : 0 ≤ (ji12)
   rotate_left
   ·rw [if_neg c13] at H
    exact absurd H (by simp)
   rw [if_pos c13] at H
   have c13b0 : decide (0 ≤ (ji12)) = true := decide_eq_true c13
   clear c13
   by_cases c14 : (ji12) < (l1.length : Int)
   rotate_left
   ·rw [if_neg c14] at H
    exact absurd H (by simp)
   rw [if_pos c14] at H
   have c14b0 : decide ((ji12) < (l1.length : Int)) = true := decide_eq_true c14
   clear c14
   by_cases c15 : (rd l1 (ji12)) ≥ (rd l1 x12_1)
   ·rw [if_pos c15] at H
    have c15b0 : decide ((rd l1 x12_1) ≤ (rd l1 (ji12))) = true := decide_eq_true c15
    clear c15
    obtain rfl := Option.some.inj H
    have p124 : 0 ≤ (x12_1 : Int) := of_decide_eq_true zg9
    have q124 : x12_1 < (l1.length : Int) := of_decide_eq_true zg9
    obtain ⟨ad124, e124, hx124_0⟩ := Kd.at_int HR1.out x12_1 p124 q124
    cases e124
    (first | replace hx124_0 := (HB.out.cell (World.block_lt_of_cell? w _ hx124_0)).trans hx124_0 | skip)
    replace p124 := eq_true p124
    replace q124 := eq_true q124
    have hcz16_0 : wr.cell? ⟨gb123, 0, none⟩ = some (.int .i64 a0_0) := (blk_cell BK123.out 0).trans rfl
    have hcz16_1 : wr.cell? ⟨gb123, 1, none⟩ = some (.int .i64 a0_1) := (blk_cell BK123.out 1).trans rfl
    have hcz16_2 : wr.cell? ⟨gb123, 2, none⟩ = some (.slice A0_2 l0_2.length c0_2) := (blk_cell BK123.out 2).trans rfl
    have hfz16_0 := blk_frozen BK123.out 0
    have hfz16_1 := blk_frozen BK123.out 1
    have hfz16_2 := blk_frozen BK123.out 2
    go_wp2_with (first | ((with_reducible refine gate_callee (f := 86) rfl ?_); refine goesL_ (some 19) rfl rfl Try.func86 (by kernel_rfl) rfl #[.agg #[.int .i64 a0_0, .int .i64 a0_1, .slice A0_2 l0_2.length c0_2], .int .i64 (rd l1 x12_1)] rfl zg6 ?_; (with_reducible refine (spec_boHas.calls k1 a0_0 a0_1 _ _ l0_2 (rd l1 x12_1) true _ ?side1 ?side2 A9.out).mono ?_); (case side1 => exact zg2); (case side2 => exact HC0_2.out); rintro e w17 ⟨rfl, hb⟩; refine ⟨_, rfl, ?_⟩; have n0_ := Aside0.mk (blk_below (g := gb123) (o := .cells #[.int .i64 a0_0, .int .i64 a0_1, .slice A0_2 l0_2.length c0_2] 30 (0, 0)) zg19 hb); have n1_ := Aside0.mk (below_step zg7 hb); clear BK123; clear HB; have BK123 := n0_; have HB := n1_; clear n0_ n1_; (try clear hb); (try clear hb2); (try clear hk); (try clear hi); (try clear hna_); (try clear hnb_); have p126 : 0 ≤ ((ji12) : Int) := of_decide_eq_true zg9; have q126 : (ji12) < (l1.length : Int) := of_decide_eq_true zg9; obtain ⟨ad126, e126, hx126_0⟩ := Kd.at_int HR1.out (ji12) p126 q126; obtain rfl : ad124 = ad126 := (by injection e126); (first | replace hx126_0 := (HB.out.cell (World.block_lt_of_cell? w _ hx126_0)).trans hx126_0 | skip); replace p126 := eq_true p126; replace q126 := eq_true q126))
    go_ret
    exact ⟨by first | rfl | (simp [errW_none, errW_some] <;> rfl) | (simp only [← hji12]; first | rfl | (simp [errW_none, errW_some] <;> rfl)) | (simp [*, errW_none, errW_some] <;> rfl), zg7⟩
   rw [if_neg c15] at H
   have c15b0 : decide ((rd l1 x12_1) ≤ (rd l1 (ji12))) = false := decide_eq_false c15
   clear c15
   have H' := Aside0.mk H
   clear H
   have p124 : 0 ≤ (x12_1 : Int) := of_decide_eq_true zg9
   have q124 : x12_1 < (l1.length : Int) := of_decide_eq_true zg9
   obtain ⟨ad124, e124, hx124_0⟩ := Kd.at_int HR1.out x12_1 p124 q124
   cases e124
   (first | replace hx124_0 := (HB.out.cell (World.block_lt_of_cell? w _ hx124_0)).trans hx124_0 | skip)
   replace p124 := eq_true p124
   replace q124 := eq_true q124
   have hcz18_0 : wr.cell? ⟨gb123, 0, none⟩ = some (.int .i64 a0_0) := (blk_cell BK123.out 0).trans rfl
   have hcz18_1 : wr.cell? ⟨gb123, 1, none⟩ = some (.int .i64 a0_1) := (blk_cell BK123.out 1).trans rfl
   have hcz18_2 : wr.cell? ⟨gb123, 2, none⟩ = some (.slice A0_2 l0_2.length c0_2) := (blk_cell BK123.out 2).trans rfl
   have hfz18_0 := blk_frozen BK123.out 0
   have hfz18_1 := blk_frozen BK123.out 1
   have hfz18_2 := blk_frozen BK123.out 2
   go_wp2_with (first | ((with_reducible refine gate_callee (f := 86) rfl ?_); refine goesL_ (some 19) rfl rfl Try.func86 (by kernel_rfl) rfl #[.agg #[.int .i64 a0_0, .int .i64 a0_1, .slice A0_2 l0_2.length c0_2], .int .i64 (rd l1 x12_1)] rfl zg6 ?_; (with_reducible refine (spec_boHas.calls k1 a0_0 a0_1 _ _ l0_2 (rd l1 x12_1) true _ ?side1 ?side2 A9.out).mono ?_); (case side1 => exact zg2); (case side2 => exact HC0_2.out); rintro e w19 ⟨rfl, hb⟩; refine ⟨_, rfl, ?_⟩; have n0_ := Aside0.mk (blk_below (g := gb123) (o := .cells #[.int .i64 a0_0, .int .i64 a0_1, .slice A0_2 l0_2.length c0_2] 30 (0, 0)) zg19 hb); have n1_ := Aside0.mk (below_step zg7 hb); clear BK123; clear HB; have BK123 := n0_; have HB := n1_; clear n0_ n1_; (try clear hb); (try clear hb2); (try clear hk); (try clear hi); (try clear hna_); (try clear hnb_); have p126 : 0 ≤ ((ji12) : Int) := of_decide_eq_true zg9; have q126 : (ji12) < (l1.length : Int) := of_decide_eq_true zg9; obtain ⟨ad126, e126, hx126_0⟩ := Kd.at_int HR1.out (ji12) p126 q126; obtain rfl : ad124 = ad126 := (by injection e126); (first | replace hx126_0 := (HB.out.cell (World.block_lt_of_cell? w _ hx126_0)).trans hx126_0 | skip); replace p126 := eq_true p126; replace q126 := eq_true q126))
   go_roundg k1
   case measure => have := HK1.out; omega
   case rel => exact ⟨(wrap64 (x12_1 + 1)), zg21, H', ⟨by have := HK1.out; omega⟩, ⟨zg19⟩, ⟨zg7⟩⟩

/-! ### spec_guAsked: function 49 -/
def spec_guAsked.f (k : Nat) (a0_0 : Int) (a0_1 : Int) (l0_2 : List Int) (a1_0 : Int) (a1_1 : Int) (l2 : List Int) : Option (Bool) := (spec_boTwo.f k a0_0 a0_1 l0_2 a1_0 a1_1).bind fun t129 => (if t129 = true then ((spec_guSet.f k a0_0 a0_1 l0_2 l2).bind fun t130 => (some t130)) else (some false))
set_option maxHeartbeats 8000000 in
set_option maxRecDepth 100000 in
theorem spec_guAsked.calls (k : Nat) (a0_0 : Int) (a0_1 : Int) (A0_2 : Option Addr) (c0_2 : Nat) (l0_2 : List Int) (a1_0 : Int) (a1_1 : Int) (A2 : Option Addr) (c2 : Nat) (l2 : List Int) (r : Bool) (w : World) (hr0_2 : Kd.C (Kd.int .i64) w A0_2 l0_2.length l0_2) (hc0_2 : l0_2.length ≤ c0_2) (hr2 : Kd.C (Kd.int .i64) w A2 l2.length l2) (hc2 : l2.length ≤ c2) (h : spec_guAsked.f k a0_0 a0_1 l0_2 a1_0 a1_1 l2 = some r) :
  Calls Try.prog 49 #[.agg #[.int .i64 a0_0, .int .i64 a0_1, .slice A0_2 l0_2.length c0_2], .agg #[.int .i64 a1_0, .int .i64 a1_1], .slice A2 l2.length c2] w fun e w' => e = .returned (.bool r) ∧ Below w.heap.size w w' := by
 have hu30 := Try.underlying30
 have hu32 := Try.underlying32
 have HR0_2 := Aside0.mk hr0_2
 have HC0_2 := Aside0.mk hc0_2
 clear hr0_2 hc0_2
 have HR2 := Aside0.mk hr2
 have HC2 := Aside0.mk hc2
 clear hr2 hc2
 have HB := Aside0.mk (Below.refl w.heap.size w)
 have H : ((spec_boTwo.f k a0_0 a0_1 l0_2 a1_0 a1_1).bind fun t129 => (if t129 = true then ((spec_guSet.f k a0_0 a0_1 l0_2 l2).bind fun t130 => (some t130)) else (some false))) = some r := h
 clear h
 replace H := Option.bind_eq_some_iff.mp H
 obtain ⟨t129, A40, H⟩ := H
 replace H : (if t129 = true then ((spec_guSet.f k a0_0 a0_1 l0_2 l2).bind fun t130 => (some t130)) else (some false)) = some r := H
 have A4 := Aside0.mk A40
 clear A40
 by_cases c5 : t129 = true
 rotate_left
 ·replace c5 := Bool.eq_false_iff.mpr c5
  subst c5
  have H1 : (some false) = some r := by rw [if_neg (show ¬ (false = true) by decide)] at H; exact H
  clear H
  have H := H1
  clear H1
  obtain rfl := Option.some.inj H
  go_enter Try.func49, Try.ntmps49
  go_wp2_with (first | ((with_reducible refine gate_dst (N := 3) rfl ?_); refine box_event ?hg (N := 3) ?hd (cs := #[.int .i64 a0_0, .int .i64 a0_1, .slice A0_2 l0_2.length c0_2]) (t := 30) ?hr ?_; (case hd => rfl); (case hg => rfl); (case hr => first | (go_simp; done) | (go_simp; rfl)); intro gb127 hg w15 hbox hb; have n0_ := Aside0.mk (below_step zg1 hb); have n1_ := Aside0.mk (hbox); have n2_ := Aside0.mk ((zg32 : w.heap.size ≤ gb127)); have n3_ := Aside0.mk ((zg32 : w.heap.size ≤ gb127)); clear HB; have HB := n0_; have BK127 := n1_; have GW127 := n2_; have GE127 := n3_; clear n0_ n1_ n2_ n3_; clear hb hbox hg) | ((with_reducible refine gate_dst (N := 4) rfl ?_); refine box_event ?hg (N := 4) ?hd (cs := #[.int .i64 a1_0, .int .i64 a1_1]) (t := 32) ?hr ?_; (case hd => rfl); (case hg => rfl); (case hr => first | (go_simp; done) | (go_simp; rfl)); intro gb128 hg w16 hbox hb; have n0_ := Aside0.mk (blk_below (g := gb127) (o := .cells #[.int .i64 a0_0, .int .i64 a0_1, .slice A0_2 l0_2.length c0_2] 30 (0, 0)) zg14 hb); have n1_ := Aside0.mk (below_step zg16 hb); have n2_ := Aside0.mk (hbox); have n3_ := Aside0.mk ((by rw [hg]; exact (below_size zg16) : w.heap.size ≤ gb128)); have n4_ := Aside0.mk ((by rw [hg]; exact (below_size zg16) : w.heap.size ≤ gb128)); have n5_ := Aside0.mk ((zg36 : gb127 ≠ gb128)); have n6_ := Aside0.mk ((zg37 : gb128 ≠ gb127)); clear BK127; clear HB; have BK127 := n0_; have HB := n1_; have BK128 := n2_; have GW128 := n3_; have GE128 := n4_; have NB127_128 := n5_; have NB128_127 := n6_; clear n0_ n1_ n2_ n3_ n4_ n5_ n6_; clear hb hbox hg; have hnb17 := NB127_128.out; have hnc17 := NB128_127.out; have hcz18_0 : w16.cell? ⟨gb127, 0, none⟩ = some (.int .i64 a0_0) := (blk_cell BK127.out 0).trans rfl; have hcz18_1 : w16.cell? ⟨gb127, 1, none⟩ = some (.int .i64 a0_1) := (blk_cell BK127.out 1).trans rfl; have hcz18_2 : w16.cell? ⟨gb127, 2, none⟩ = some (.slice A0_2 l0_2.length c0_2) := (blk_cell BK127.out 2).trans rfl; have hfz18_0 := blk_frozen BK127.out 0; have hfz18_1 := blk_frozen BK127.out 1; have hfz18_2 := blk_frozen BK127.out 2; have hcz19_0 : w16.cell? ⟨gb128, 0, none⟩ = some (.int .i64 a1_0) := (blk_cell BK128.out 0).trans rfl; have hcz19_1 : w16.cell? ⟨gb128, 1, none⟩ = some (.int .i64 a1_1) := (blk_cell BK128.out 1).trans rfl; have hfz19_0 := blk_frozen BK128.out 0; have hfz19_1 := blk_frozen BK128.out 1) | ((with_reducible refine gate_callee (f := 57) rfl ?_); refine goesL_ (some 9) rfl rfl Try.func57 (by kernel_rfl) rfl #[.agg #[.int .i64 a0_0, .int .i64 a0_1, .slice A0_2 l0_2.length c0_2], .agg #[.int .i64 a1_0, .int .i64 a1_1]] rfl zg6 ?_; (with_reducible refine (spec_boTwo.calls k a0_0 a0_1 _ _ l0_2 a1_0 a1_1 false _ ?side1 ?side2 A4.out).mono ?_); (case side1 => exact zg2); (case side2 => exact HC0_2.out); rintro e w20 ⟨rfl, hb⟩; refine ⟨_, rfl, ?_⟩; have n0_ := Aside0.mk (blk_below (g := gb127) (o := .cells #[.int .i64 a0_0, .int .i64 a0_1, .slice A0_2 l0_2.length c0_2] 30 (0, 0)) zg14 hb); have n1_ := Aside0.mk (blk_below (g := gb128) (o := .cells #[.int .i64 a1_0, .int .i64 a1_1] 32 (0, 0)) zg28 hb); have n2_ := Aside0.mk (below_step zg17 hb); clear BK127; clear BK128; clear HB; have BK127 := n0_; have BK128 := n1_; have HB := n2_; clear n0_ n1_ n2_; (try clear hb); (try clear hb2); (try clear hk); (try clear hi); (try clear hna_); (try clear hnb_)))
  go_ret
  exact ⟨zg15, zg17⟩
 subst c5
 have H1 : ((spec_guSet.f k a0_0 a0_1 l0_2 l2).bind fun t130 => (some t130)) = some r := by rw [if_pos rfl] at H; exact H
 clear H
 have H := H1
 clear H1
 replace H := Option.bind_eq_some_iff.mp H
 obtain ⟨t130, A60, H⟩ := H
 replace H : (some t130) = some r := H
 have A6 := Aside0.mk A60
 clear A60
 obtain rfl := Option.some.inj H
 go_enter Try.func49, Try.ntmps49
 go_wp2_with (first | ((with_reducible refine gate_dst (N := 3) rfl ?_); refine box_event ?hg (N := 3) ?hd (cs := #[.int .i64 a0_0, .int .i64 a0_1, .slice A0_2 l0_2.length c0_2]) (t := 30) ?hr ?_; (case hd => rfl); (case hg => rfl); (case hr => first | (go_simp; done) | (go_simp; rfl)); intro gb127 hg w7 hbox hb; have n0_ := Aside0.mk (below_step zg1 hb); have n1_ := Aside0.mk (hbox); have n2_ := Aside0.mk ((zg32 : w.heap.size ≤ gb127)); have n3_ := Aside0.mk ((zg32 : w.heap.size ≤ gb127)); clear HB; have HB := n0_; have BK127 := n1_; have GW127 := n2_; have GE127 := n3_; clear n0_ n1_ n2_ n3_; clear hb hbox hg) | ((with_reducible refine gate_dst (N := 4) rfl ?_); refine box_event ?hg (N := 4) ?hd (cs := #[.int .i64 a1_0, .int .i64 a1_1]) (t := 32) ?hr ?_; (case hd => rfl); (case hg => rfl); (case hr => first | (go_simp; done) | (go_simp; rfl)); intro gb128 hg w8 hbox hb; have n0_ := Aside0.mk (blk_below (g := gb127) (o := .cells #[.int .i64 a0_0, .int .i64 a0_1, .slice A0_2 l0_2.length c0_2] 30 (0, 0)) zg14 hb); have n1_ := Aside0.mk (below_step zg16 hb); have n2_ := Aside0.mk (hbox); have n3_ := Aside0.mk ((by rw [hg]; exact (below_size zg16) : w.heap.size ≤ gb128)); have n4_ := Aside0.mk ((by rw [hg]; exact (below_size zg16) : w.heap.size ≤ gb128)); have n5_ := Aside0.mk ((zg36 : gb127 ≠ gb128)); have n6_ := Aside0.mk ((zg37 : gb128 ≠ gb127)); clear BK127; clear HB; have BK127 := n0_; have HB := n1_; have BK128 := n2_; have GW128 := n3_; have GE128 := n4_; have NB127_128 := n5_; have NB128_127 := n6_; clear n0_ n1_ n2_ n3_ n4_ n5_ n6_; clear hb hbox hg; have hnb9 := NB127_128.out; have hnc9 := NB128_127.out; have hcz10_0 : w8.cell? ⟨gb127, 0, none⟩ = some (.int .i64 a0_0) := (blk_cell BK127.out 0).trans rfl; have hcz10_1 : w8.cell? ⟨gb127, 1, none⟩ = some (.int .i64 a0_1) := (blk_cell BK127.out 1).trans rfl; have hcz10_2 : w8.cell? ⟨gb127, 2, none⟩ = some (.slice A0_2 l0_2.length c0_2) := (blk_cell BK127.out 2).trans rfl; have hfz10_0 := blk_frozen BK127.out 0; have hfz10_1 := blk_frozen BK127.out 1; have hfz10_2 := blk_frozen BK127.out 2; have hcz11_0 : w8.cell? ⟨gb128, 0, none⟩ = some (.int .i64 a1_0) := (blk_cell BK128.out 0).trans rfl; have hcz11_1 : w8.cell? ⟨gb128, 1, none⟩ = some (.int .i64 a1_1) := (blk_cell BK128.out 1).trans rfl; have hfz11_0 := blk_frozen BK128.out 0; have hfz11_1 := blk_frozen BK128.out 1) | ((with_reducible refine gate_callee (f := 57) rfl ?_); refine goesL_ (some 9) rfl rfl Try.func57 (by kernel_rfl) rfl #[.agg #[.int .i64 a0_0, .int .i64 a0_1, .slice A0_2 l0_2.length c0_2], .agg #[.int .i64 a1_0, .int .i64 a1_1]] rfl zg6 ?_; (with_reducible refine (spec_boTwo.calls k a0_0 a0_1 _ _ l0_2 a1_0 a1_1 true _ ?side1 ?side2 A4.out).mono ?_); (case side1 => exact zg2); (case side2 => exact HC0_2.out); rintro e w12 ⟨rfl, hb⟩; refine ⟨_, rfl, ?_⟩; have n0_ := Aside0.mk (blk_below (g := gb127) (o := .cells #[.int .i64 a0_0, .int .i64 a0_1, .slice A0_2 l0_2.length c0_2] 30 (0, 0)) zg14 hb); have n1_ := Aside0.mk (blk_below (g := gb128) (o := .cells #[.int .i64 a1_0, .int .i64 a1_1] 32 (0, 0)) zg28 hb); have n2_ := Aside0.mk (below_step zg17 hb); clear BK127; clear BK128; clear HB; have BK127 := n0_; have BK128 := n1_; have HB := n2_; clear n0_ n1_ n2_; (try clear hb); (try clear hb2); (try clear hk); (try clear hi); (try clear hna_); (try clear hnb_); have hcz13_0 : w12.cell? ⟨gb127, 0, none⟩ = some (.int .i64 a0_0) := (blk_cell BK127.out 0).trans rfl; have hcz13_1 : w12.cell? ⟨gb127, 1, none⟩ = some (.int .i64 a0_1) := (blk_cell BK127.out 1).trans rfl; have hcz13_2 : w12.cell? ⟨gb127, 2, none⟩ = some (.slice A0_2 l0_2.length c0_2) := (blk_cell BK127.out 2).trans rfl; have hfz13_0 := blk_frozen BK127.out 0; have hfz13_1 := blk_frozen BK127.out 1; have hfz13_2 := blk_frozen BK127.out 2) | (go_at_call 83; (with_reducible refine (spec_guSet.calls k a0_0 a0_1 _ _ l0_2 _ _ l2 t130 _ ?side1 ?side2 ?side3 ?side4 A6.out).mono ?_); (case side1 => exact zg2); (case side2 => exact HC0_2.out); (case side3 => exact zg24); (case side4 => exact HC2.out); rintro e w14 ⟨rfl, hb⟩; have n0_ := Aside0.mk (blk_below (g := gb127) (o := .cells #[.int .i64 a0_0, .int .i64 a0_1, .slice A0_2 l0_2.length c0_2] 30 (0, 0)) zg14 hb); have n1_ := Aside0.mk (blk_below (g := gb128) (o := .cells #[.int .i64 a1_0, .int .i64 a1_1] 32 (0, 0)) zg28 hb); have n2_ := Aside0.mk (below_step zg17 hb); clear BK127; clear BK128; clear HB; have BK127 := n0_; have BK128 := n1_; have HB := n2_; clear n0_ n1_ n2_; (try clear hb); (try clear hb2); (try clear hk); (try clear hi); (try clear hna_); (try clear hnb_)))
 go_ret
 exact ⟨zg15, zg17⟩

/-! ### spec_guGuarded: function 75 -/
mutual
def spec_guGuarded.l0 : Nat → List Int → List Int → List Int → Int → Int → Int → Int → List Int → Int → Int → Option (List Int)
 | 0, _, _, _, _, _, _, _, _, _, _ => none
 | k + 1, x2, x7, x14, x15, x16, x142000, x142001, x142002, x143000, x143001 => if x16 < x15 then (if 0 ≤ x16 then (if x16 < (x14.length : Int) then ((spec_l1Has.f k x2 (rd x14 x16)).bind fun t147 => (spec_guGuarded.l1 k x2 x7 (rd x14 x16) t147 x14 x15 x16 x2 (x2.length : Int) 0 x142000 x142001 x142002 x143000 x143001)) else (none)) else (none)) else (some x7)
def spec_guGuarded.l1 : Nat → List Int → List Int → Int → Bool → List Int → Int → Int → List Int → Int → Int → Int → Int → List Int → Int → Int → Option (List Int)
 | 0, _, _, _, _, _, _, _, _, _, _, _, _, _, _, _ => none
 | k + 1, x2, x7, x9, x10, x14, x15, x16, x23, x24, x25, x142000, x142001, x142002, x143000, x143001 => if x25 < x24 then (if 0 ≤ x25 then (if x25 < (x23.length : Int) then (if x10 = true then (spec_guGuarded.l1 k x2 x7 x9 true x14 x15 x16 x23 x24 (wrap64 (x25 + 1)) x142000 x142001 x142002 x143000 x143001) else ((spec_boIs.f x142000 x142001 x142002 x143000 x143001 (rd x23 x25) x9).bind fun t149 => (spec_guGuarded.l1 k x2 x7 x9 t149 x14 x15 x16 x23 x24 (wrap64 (x25 + 1)) x142000 x142001 x142002 x143000 x143001))) else (none)) else (none)) else (if x10 = true then (if x7.length < 17592186044416 then (spec_guGuarded.l0 k x2 (x7 ++ [x9]) x14 x15 (wrap64 (x16 + 1)) x142000 x142001 x142002 x143000 x143001) else (none)) else (spec_guGuarded.l0 k x2 x7 x14 x15 (wrap64 (x16 + 1)) x142000 x142001 x142002 x143000 x143001))
end
def spec_guGuarded.f (k : Nat) (a0_0 : Int) (a0_1 : Int) (l0_2 : List Int) (a1_0 : Int) (a1_1 : Int) (l2 : List Int) : Option (List Int) := (spec_boCells.f k a0_0 a0_1 l0_2).bind fun t143 => (spec_guGuarded.l0 k l2 ([] : List Int) t143 (t143.length : Int) 0 a0_0 a0_1 l0_2 a1_0 a1_1)
set_option maxHeartbeats 8000000 in
set_option maxRecDepth 100000 in
theorem spec_guGuarded.calls (k : Nat) (a0_0 : Int) (a0_1 : Int) (A0_2 : Option Addr) (c0_2 : Nat) (l0_2 : List Int) (a1_0 : Int) (a1_1 : Int) (A2 : Option Addr) (c2 : Nat) (l2 : List Int) (r : List Int) (w : World) (hr0_2 : Kd.C (Kd.int .i64) w A0_2 l0_2.length l0_2) (hc0_2 : l0_2.length ≤ c0_2) (hr2 : Kd.C (Kd.int .i64) w A2 l2.length l2) (hc2 : l2.length ≤ c2) (h : spec_guGuarded.f k a0_0 a0_1 l0_2 a1_0 a1_1 l2 = some r) :
  Calls Try.prog 75 #[.agg #[.int .i64 a0_0, .int .i64 a0_1, .slice A0_2 l0_2.length c0_2], .agg #[.int .i64 a1_0, .int .i64 a1_1], .slice A2 l2.length c2] w fun e w' => ∃ v0_ : Value, e = .returned (v0_) ∧ Kd.R (Kd.int .i64) 3 w' w.heap.size (fun _ => True) v0_ r ∧ Below w.heap.size w w' := by
 have hu30 := Try.underlying30
 have hu32 := Try.underlying32
 have HR0_2 := Aside0.mk hr0_2
 have HC0_2 := Aside0.mk hc0_2
 clear hr0_2 hc0_2
 have HR2 := Aside0.mk hr2
 have HC2 := Aside0.mk hc2
 clear hr2 hc2
 have HB := Aside0.mk (Below.refl w.heap.size w)
 have H : ((spec_boCells.f k a0_0 a0_1 l0_2).bind fun t143 => (spec_guGuarded.l0 k l2 ([] : List Int) t143 (t143.length : Int) 0 a0_0 a0_1 l0_2 a1_0 a1_1)) = some r := h
 clear h
 replace H := Option.bind_eq_some_iff.mp H
 obtain ⟨t143, A40, H⟩ := H
 replace H : (spec_guGuarded.l0 k l2 ([] : List Int) t143 (t143.length : Int) 0 a0_0 a0_1 l0_2 a1_0 a1_1) = some r := H
 have A4 := Aside0.mk A40
 clear A40
 have H' := Aside0.mk H
 clear H
 go_enter Try.func75, Try.ntmps75
 go_wp2_with (first | ((with_reducible refine gate_dst (N := 3) rfl ?_); refine box_event ?hg (N := 3) ?hd (cs := #[.int .i64 a0_0, .int .i64 a0_1, .slice A0_2 l0_2.length c0_2]) (t := 30) ?hr ?_; (case hd => rfl); (case hg => rfl); (case hr => first | (go_simp; done) | (go_simp; rfl)); intro gb141 hg w5 hbox hb; have n0_ := Aside0.mk (below_step zg1 hb); have n1_ := Aside0.mk (hbox); have n2_ := Aside0.mk ((zg32 : w.heap.size ≤ gb141)); have n3_ := Aside0.mk ((zg32 : w.heap.size ≤ gb141)); clear HB; have HB := n0_; have BK141 := n1_; have GW141 := n2_; have GE141 := n3_; clear n0_ n1_ n2_ n3_; clear hb hbox hg) | ((with_reducible refine gate_dst (N := 4) rfl ?_); refine box_event ?hg (N := 4) ?hd (cs := #[.int .i64 a1_0, .int .i64 a1_1]) (t := 32) ?hr ?_; (case hd => rfl); (case hg => rfl); (case hr => first | (go_simp; done) | (go_simp; rfl)); intro gb142 hg w6 hbox hb; have n0_ := Aside0.mk (blk_below (g := gb141) (o := .cells #[.int .i64 a0_0, .int .i64 a0_1, .slice A0_2 l0_2.length c0_2] 30 (0, 0)) zg11 hb); have n1_ := Aside0.mk (below_step zg25 hb); have n2_ := Aside0.mk (hbox); have n3_ := Aside0.mk ((by rw [hg]; exact (below_size zg25) : w.heap.size ≤ gb142)); have n4_ := Aside0.mk ((by rw [hg]; exact (below_size zg25) : w.heap.size ≤ gb142)); have n5_ := Aside0.mk ((by rw [hg]; exact Nat.ne_of_lt (blk_lt (g := gb141) (o := .cells #[.int .i64 a0_0, .int .i64 a0_1, .slice A0_2 l0_2.length c0_2] 30 (0, 0)) zg11) : gb141 ≠ gb142)); have n6_ := Aside0.mk ((by rw [hg]; exact Nat.ne_of_gt (blk_lt (g := gb141) (o := .cells #[.int .i64 a0_0, .int .i64 a0_1, .slice A0_2 l0_2.length c0_2] 30 (0, 0)) zg11) : gb142 ≠ gb141)); clear BK141; clear HB; have BK141 := n0_; have HB := n1_; have BK142 := n2_; have GW142 := n3_; have GE142 := n4_; have NB141_142 := n5_; have NB142_141 := n6_; clear n0_ n1_ n2_ n3_ n4_ n5_ n6_; clear hb hbox hg; have hnb7 := NB141_142.out; have hnc7 := NB142_141.out; have hcz8_0 : w6.cell? ⟨gb141, 0, none⟩ = some (.int .i64 a0_0) := (blk_cell BK141.out 0).trans rfl; have hcz8_1 : w6.cell? ⟨gb141, 1, none⟩ = some (.int .i64 a0_1) := (blk_cell BK141.out 1).trans rfl; have hcz8_2 : w6.cell? ⟨gb141, 2, none⟩ = some (.slice A0_2 l0_2.length c0_2) := (blk_cell BK141.out 2).trans rfl; have hfz8_0 := blk_frozen BK141.out 0; have hfz8_1 := blk_frozen BK141.out 1; have hfz8_2 := blk_frozen BK141.out 2) | ((with_reducible refine gate_callee (f := 84) rfl ?_); refine goesL_ (some 14) rfl rfl Try.func84 (by kernel_rfl) rfl #[.agg #[.int .i64 a0_0, .int .i64 a0_1, .slice A0_2 l0_2.length c0_2]] rfl zg6 ?_; (with_reducible refine (spec_boCells.calls k a0_0 a0_1 _ _ l0_2 t143 _ ?side1 ?side2 A4.out).mono ?_); (case side1 => exact zg2); (case side2 => exact HC0_2.out); rintro e w9 ⟨v144, rfl, ho0, hb⟩; refine ⟨_, rfl, ?_⟩; have n0_ := Aside0.mk (Kd.R_lower ho0 (below_size zg4)); have n1_ := Aside0.mk (blk_below (g := gb141) (o := .cells #[.int .i64 a0_0, .int .i64 a0_1, .slice A0_2 l0_2.length c0_2] 30 (0, 0)) zg11 hb); have n2_ := Aside0.mk (blk_below (g := gb142) (o := .cells #[.int .i64 a1_0, .int .i64 a1_1] 32 (0, 0)) zg13 hb); have n3_ := Aside0.mk (below_step zg4 hb); clear BK141; clear BK142; clear HB; have HO145 := n0_; have BK141 := n1_; have BK142 := n2_; have HB := n3_; clear n0_ n1_ n2_ n3_; (try clear hb); (try clear hb2); (try clear hk); (try clear hi); (try clear ho0); (try clear hna_); (try clear hnb_); obtain ⟨Ao10, co10, eo10⟩ := Kd.R_slice HO145.out; subst eo10))
 go_loopg [7, 16] k (fun kq v7 v16 w' => ∃ (x7_1 : List Int) (x16_1 : Int), v16 = .int .i64 x16_1 ∧ Aside0 (spec_guGuarded.l0 kq l2 x7_1 t143 (t143.length : Int) x16_1 a0_0 a0_1 l0_2 a1_0 a1_1 = some r) ∧ Aside0 (kq ≤ k) ∧ Aside0 (Kd.R (Kd.int .i64) 3 w' w.heap.size (fun k_ => some k_ ≠ ((.slice Ao10 t143.length co10) : Value).ownBlock) v7 x7_1) ∧ Aside0 (Kd.R (Kd.int .i64) 3 w' w.heap.size (fun k_ => some k_ ≠ (v7 : Value).ownBlock) (.slice Ao10 t143.length co10) t143) ∧ Aside0 (w'.heap[gb141]? = some (.cells #[.int .i64 a0_0, .int .i64 a0_1, (.slice A0_2 l0_2.length c0_2)] 30 (0, 0))) ∧ Aside0 (w'.heap[gb142]? = some (.cells #[.int .i64 a1_0, .int .i64 a1_1] 32 (0, 0))) ∧ Aside0 (Below w.heap.size w w'))
 case atStart => exact ⟨(([] : List Int)), (0), zg21, H', ⟨Nat.le_refl _⟩, ⟨zg26⟩, ⟨by (with_reducible repeat (first | apply Kd.R_alloc | apply Kd.R_drewN | apply Kd.R_drew)); exact Kd.R_mono HO145.out (fun _ hk => (by simp [Value.ownBlock]))⟩, ⟨zg11⟩, ⟨zg13⟩, ⟨zg4⟩⟩
 case round =>
  clear H'
  try clear c2; try clear p2; try clear c7; try clear c8; try clear hcz8_0; try clear hcz8_1; try clear hcz8_2; try clear hfz8_0; try clear hfz8_1; try clear hfz8_2
  obtain ⟨x7_1, x16_1, rfl, HA, HK1, HO_7, HO_14, BK141, BK142, HB⟩ := hrel
  cases gk with
  | zero => exact absurd HA.out (by simp [spec_guGuarded.l0])
  | succ k1 =>
   have H := HA.out
   clear HA
   simp only [spec_guGuarded.l0] at H
   by_cases c11 : x16_1 < (t143.length : Int)
   rotate_left
   ·rw [if_neg c11] at H
    have c11b0 : decide (x16_1 < (t143.length : Int)) = false := decide_eq_false c11
    clear c11
    obtain rfl := Option.some.inj H
    go_wp2
    go_ret
    exact ⟨_, zg15, by (with_reducible repeat (first | apply Kd.R_alloc | apply Kd.R_drewN | apply Kd.R_drew)); exact Kd.R_mono HO_7.out (fun _ hk => trivial), zg4⟩
   rw [if_pos c11] at H
   have c11b0 : decide (x16_1 < (t143.length : Int)) = true := decide_eq_true c11
   clear c11
   by_cases c12 : 0 ≤ x16_1
   rotate_left
   ·rw [if_neg c12] at H
    exact absurd H (by simp)
   rw [if_pos c12] at H
   have c12b0 : decide (0 ≤ x16_1) = true := decide_eq_true c12
   clear c12
   by_cases c13 : x16_1 < (t143.length : Int)
   rotate_left
   ·rw [if_neg c13] at H
    exact absurd H (by simp)
   rw [if_pos c13] at H
   have c13b0 : decide (x16_1 < (t143.length : Int)) = true := decide_eq_true c13
   clear c13
   replace H := Option.bind_eq_some_iff.mp H
   obtain ⟨t147, A140, H⟩ := H
   replace H : (spec_guGuarded.l1 k1 l2 x7_1 (rd t143 x16_1) t147 t143 (t143.length : Int) x16_1 l2 (l2.length : Int) 0 a0_0 a0_1 l0_2 a1_0 a1_1) = some r := H
   have A14 := Aside0.mk A140
   clear A140
   have H' := Aside0.mk H
   clear H
   have p146 : 0 ≤ (x16_1 : Int) := of_decide_eq_true zg9
   have q146 : x16_1 < (t143.length : Int) := of_decide_eq_true zg9
   obtain ⟨ad146, e146, hx146_0⟩ := Kd.at_int (Kd.R_reads' HO_14.out).2.2 x16_1 p146 q146
   cases e146
   replace p146 := eq_true p146
   replace q146 := eq_true q146
   go_wp2_with (first | ((with_reducible refine gate_callee (f := 100) rfl ?_); refine goesL_ (some 22) rfl rfl Try.func100 (by kernel_rfl) rfl #[.slice A2 l2.length c2, .int .i64 (rd t143 x16_1)] rfl zg6 ?_; (with_reducible refine (spec_l1Has.calls k1 _ _ l2 (rd t143 x16_1) t147 _ ?side1 ?side2 A14.out).mono ?_); (case side1 => exact zg24); (case side2 => exact HC2.out); rintro e w' ⟨rfl, ⟨nd, rfl⟩⟩; refine ⟨_, rfl, ?_⟩))
   go_loopg [10, 25] k1 (fun kq v10 v25 w' => ∃ (x10_2 : Bool) (x25_2 : Int), v10 = .bool x10_2 ∧ v25 = .int .i64 x25_2 ∧ Aside0 (spec_guGuarded.l1 kq l2 x7_1 (rd t143 x16_1) x10_2 t143 (t143.length : Int) x16_1 l2 (l2.length : Int) x25_2 a0_0 a0_1 l0_2 a1_0 a1_1 = some r) ∧ Aside0 (kq ≤ k1) ∧ Aside0 (Kd.R (Kd.int .i64) 3 w' w.heap.size (fun k_ => some k_ ≠ ((.slice (some ad146) t143.length co10) : Value).ownBlock) u7 x7_1) ∧ Aside0 (Kd.R (Kd.int .i64) 3 w' w.heap.size (fun k_ => some k_ ≠ (u7 : Value).ownBlock) (.slice (some ad146) t143.length co10) t143) ∧ Aside0 (w'.heap[gb141]? = some (.cells #[.int .i64 a0_0, .int .i64 a0_1, (.slice A0_2 l0_2.length c0_2)] 30 (0, 0))) ∧ Aside0 (w'.heap[gb142]? = some (.cells #[.int .i64 a1_0, .int .i64 a1_1] 32 (0, 0))) ∧ Aside0 (Below w.heap.size w w'))
   case atStart => exact ⟨(t147), (0), zg21, zg21, H', ⟨Nat.le_refl _⟩, ⟨zg23⟩, ⟨zg22⟩, ⟨zg11⟩, ⟨zg13⟩, ⟨zg4⟩⟩
   case round =>
    clear H'
    try clear c1; try clear p1; try clear q1; try clear hx1; try clear c2; try clear p2; try clear c7; try clear c8; try clear c10; try clear c11; try clear c11b0; try clear c12; try clear c12b0; try clear c13; try clear c13b0; try clear p14; try clear q14; try clear hx14; try clear hcz8_0; try clear hcz8_1; try clear hcz8_2; try clear hfz8_0; try clear hfz8_1; try clear hfz8_2; try clear hx146_0; try clear p146; try clear p2; try clear q146
    obtain ⟨x10_2, x25_2, rfl, rfl, HA, HK2, HO_7, HO_14, BK141, BK142, HB⟩ := hrel
    cases gk with
    | zero => exact absurd HA.out (by simp [spec_guGuarded.l1])
    | succ k2 =>
     have H := HA.out
     clear HA
     simp only [spec_guGuarded.l1] at H
     by_cases c15 : x25_2 < (l2.length : Int)
     rotate_left
     ·rw [if_neg c15] at H
      have c15b0 : decide (x25_2 < (l2.length : Int)) = false := decide_eq_false c15
      clear c15
      by_cases c24 : x10_2 = true
      rotate_left
      ·replace c24 := Bool.eq_false_iff.mpr c24
       subst c24
       have H1 : (spec_guGuarded.l0 k2 l2 x7_1 t143 (t143.length : Int) (wrap64 (x16_1 + 1)) a0_0 a0_1 l0_2 a1_0 a1_1) = some r := by rw [if_neg (show ¬ (false = true) by decide)] at H; exact H
       clear H
       have H := H1
       clear H1
       have H' := Aside0.mk H
       clear H
       go_wp2
       go_roundg k2
       case measure => have := HK1.out; have := HK2.out; omega
       case rel => exact ⟨(x7_1), (wrap64 (x16_1 + 1)), zg21, H', ⟨by have := HK1.out; have := HK2.out; omega⟩, ⟨zg23⟩, ⟨zg22⟩, ⟨zg11⟩, ⟨zg13⟩, ⟨zg4⟩⟩
      subst c24
      have H1 : (if x7_1.length < 17592186044416 then (spec_guGuarded.l0 k2 l2 (x7_1 ++ [(rd t143 x16_1)]) t143 (t143.length : Int) (wrap64 (x16_1 + 1)) a0_0 a0_1 l0_2 a1_0 a1_1) else (none)) = some r := by rw [if_pos rfl] at H; exact H
      clear H
      have H := H1
      clear H1
      by_cases c25 : x7_1.length < 17592186044416
      rotate_left
      ·rw [if_neg c25] at H
       exact absurd H (by simp)
      rw [if_pos c25] at H
      have LMc25 := Aside0.mk c25
      clear c25
      obtain ⟨y150, hy150⟩ : ∃ y_ : List Int, y_ = (x7_1 ++ [(rd t143 x16_1)]) := ⟨_, rfl⟩
      replace H : (spec_guGuarded.l0 k2 l2 y150 t143 (t143.length : Int) (wrap64 (x16_1 + 1)) a0_0 a0_1 l0_2 a1_0 a1_1) = some r := by first | (rw [hy150]; with_reducible exact H) | (have H2_ := (Option.bind_some _ _).symm.trans H; rw [hy150]; with_reducible exact H2_) | (have H2_ := (Option.bind_some _ _).symm.trans H; with_reducible exact H2_) | with_reducible exact H | (rw [hy150]; exact H) | exact H
      have Ny150 := Aside0.mk hy150
      clear hy150
      have H' := Aside0.mk H
      clear H
      go_wp2_with (first | ((with_reducible refine gate_builtin (b := .append) (xs := #[.tmp 39, .tmp 41]) rfl ?_); at_builtin; refine Kd.R_append (Kd.int .i64) (w0 := w) w.heap.size rfl (.tmp 39) (.tmp 41) 22 3 (.int .i64 0) 8 rfl Try.underlying22 info3 rfl (by decide) (by omega) u7 x7_1 (rd t143 x16_1) [.int .i64 (rd t143 x16_1)] (fun k_ => some k_ ≠ (.slice (some ad146) t143.length co10 : Value).ownBlock) (fun _ => False) rfl rfl ?aP (fun _ hk => hk.elim) ?aF ?aO ?aB ?aS ?aL ?_; (case aP => exact rfl); (case aB => exact zg4); (case aF => exact (fun k_ hk => Kd.fresh' (Kd.R_lt zg22) k_ hk)); (case aO => exact zg23); (case aS => exact (below_size zg4)); (case aL => have := LMc25.out; omega); intro v151 w26 ho hb hg hat; rw [← Ny150.out] at ho; have n0_ := Aside0.mk (Kd.R_after (ok := (fun _ => True)) (by (with_reducible repeat (first | apply Kd.R_alloc | apply Kd.R_drewN | apply Kd.R_drew)); exact Kd.R_mono HO_14.out (fun _ hk => ⟨trivial, hk⟩)) hg hat); have n1_ := Aside0.mk (blk_grown (g := gb141) (o := .cells #[.int .i64 a0_0, .int .i64 a0_1, .slice A0_2 l0_2.length c0_2] 30 (0, 0)) zg11 hg (Kd.R_ne HO_7.out BK141.out (by decide))); have n2_ := Aside0.mk (blk_grown (g := gb142) (o := .cells #[.int .i64 a1_0, .int .i64 a1_1] 32 (0, 0)) zg13 hg (Kd.R_ne HO_7.out BK142.out (by decide))); have n3_ := Aside0.mk (hb); have n4_ := Aside0.mk (ho); clear HO_14; clear BK141; clear BK142; clear HB; clear HO_7; have HO_14 := n0_; have BK141 := n1_; have BK142 := n2_; have HB := n3_; have HO152 := n4_; clear n0_ n1_ n2_ n3_ n4_; clear ho hb hg hat))
      go_roundg k2
      case measure => have := HK1.out; have := HK2.out; omega
      case rel => exact ⟨(y150), (wrap64 (x16_1 + 1)), zg21, H', ⟨by have := HK1.out; have := HK2.out; omega⟩, ⟨by (with_reducible repeat (first | apply Kd.R_alloc | apply Kd.R_drewN | apply Kd.R_drew)); exact HO152.out⟩, ⟨by (with_reducible repeat (first | apply Kd.R_alloc | apply Kd.R_drewN | apply Kd.R_drew)); exact Kd.R_mono HO_14.out (fun _ hk => hk.2)⟩, ⟨zg11⟩, ⟨zg13⟩, ⟨zg4⟩⟩
     rw [if_pos c15] at H
     have c15b0 : decide (x25_2 < (l2.length : Int)) = true := decide_eq_true c15
     clear c15
     by_cases c16 : 0 ≤ x25_2
     rotate_left
     ·rw [if_neg c16] at H
      exact absurd H (by simp)
     rw [if_pos c16] at H
     have c16b0 : decide (0 ≤ x25_2) = true := decide_eq_true c16
     clear c16
     by_cases c17 : x25_2 < (l2.length : Int)
     rotate_left
     ·rw [if_neg c17] at H
      exact absurd H (by simp)
     rw [if_pos c17] at H
     have c17b0 : decide (x25_2 < (l2.length : Int)) = true := decide_eq_true c17
     clear c17
     by_cases c18 : x10_2 = true
     ·subst c18
      have H1 : (spec_guGuarded.l1 k2 l2 x7_1 (rd t143 x16_1) true t143 (t143.length : Int) x16_1 l2 (l2.length : Int) (wrap64 (x25_2 + 1)) a0_0 a0_1 l0_2 a1_0 a1_1) = some r := by rw [if_pos rfl] at H; exact H
      clear H
      have H := H1
      clear H1
      have H' := Aside0.mk H
      clear H
      have p148 : 0 ≤ (x25_2 : Int) := of_decide_eq_true zg9
      have q148 : x25_2 < (l2.length : Int) := of_decide_eq_true zg9
      obtain ⟨ad148, e148, hx148_0⟩ := Kd.at_int HR2.out x25_2 p148 q148
      cases e148
      (first | replace hx148_0 := (HB.out.cell (World.block_lt_of_cell? w _ hx148_0)).trans hx148_0 | skip)
      replace p148 := eq_true p148
      replace q148 := eq_true q148
      go_wp2
      go_roundg k2
      case measure => have := HK1.out; have := HK2.out; omega
      case rel => exact ⟨(true), (wrap64 (x25_2 + 1)), zg21, zg21, H', ⟨by have := HK1.out; have := HK2.out; omega⟩, ⟨zg23⟩, ⟨zg22⟩, ⟨zg11⟩, ⟨zg13⟩, ⟨zg4⟩⟩
     replace c18 := Bool.eq_false_iff.mpr c18
     subst c18
     have H1 : ((spec_boIs.f a0_0 a0_1 l0_2 a1_0 a1_1 (rd l2 x25_2) (rd t143 x16_1)).bind fun t149 => (spec_guGuarded.l1 k2 l2 x7_1 (rd t143 x16_1) t149 t143 (t143.length : Int) x16_1 l2 (l2.length : Int) (wrap64 (x25_2 + 1)) a0_0 a0_1 l0_2 a1_0 a1_1)) = some r := by rw [if_neg (show ¬ (false = true) by decide)] at H; exact H
     clear H
     have H := H1
     clear H1
     replace H := Option.bind_eq_some_iff.mp H
     obtain ⟨t149, A190, H⟩ := H
     replace H : (spec_guGuarded.l1 k2 l2 x7_1 (rd t143 x16_1) t149 t143 (t143.length : Int) x16_1 l2 (l2.length : Int) (wrap64 (x25_2 + 1)) a0_0 a0_1 l0_2 a1_0 a1_1) = some r := H
     have A19 := Aside0.mk A190
     clear A190
     have H' := Aside0.mk H
     clear H
     have p148 : 0 ≤ (x25_2 : Int) := of_decide_eq_true zg9
     have q148 : x25_2 < (l2.length : Int) := of_decide_eq_true zg9
     obtain ⟨ad148, e148, hx148_0⟩ := Kd.at_int HR2.out x25_2 p148 q148
     cases e148
     (first | replace hx148_0 := (HB.out.cell (World.block_lt_of_cell? w _ hx148_0)).trans hx148_0 | skip)
     replace p148 := eq_true p148
     replace q148 := eq_true q148
     have hnb20 := NB141_142.out
     have hnc20 := NB142_141.out
     have hcz21_0 : wr.cell? ⟨gb141, 0, none⟩ = some (.int .i64 a0_0) := (blk_cell BK141.out 0).trans rfl
     have hcz21_1 : wr.cell? ⟨gb141, 1, none⟩ = some (.int .i64 a0_1) := (blk_cell BK141.out 1).trans rfl
     have hcz21_2 : wr.cell? ⟨gb141, 2, none⟩ = some (.slice A0_2 l0_2.length c0_2) := (blk_cell BK141.out 2).trans rfl
     have hfz21_0 := blk_frozen BK141.out 0
     have hfz21_1 := blk_frozen BK141.out 1
     have hfz21_2 := blk_frozen BK141.out 2
     have hcz22_0 : wr.cell? ⟨gb142, 0, none⟩ = some (.int .i64 a1_0) := (blk_cell BK142.out 0).trans rfl
     have hcz22_1 : wr.cell? ⟨gb142, 1, none⟩ = some (.int .i64 a1_1) := (blk_cell BK142.out 1).trans rfl
     have hfz22_0 := blk_frozen BK142.out 0
     have hfz22_1 := blk_frozen BK142.out 1
     go_wp2_with (first | (go_at_call 102; (with_reducible refine (spec_boIs.calls a0_0 a0_1 _ _ l0_2 a1_0 a1_1 (rd l2 x25_2) (rd t143 x16_1) t149 _ ?side1 ?side2 A19.out).mono ?_); (case side1 => exact zg2); (case side2 => exact HC0_2.out); rintro e w23 ⟨rfl, hb⟩; have n0_ := Aside0.mk (Kd.R_below zg23 hb); have n1_ := Aside0.mk (Kd.R_below zg22 hb); have n2_ := Aside0.mk (blk_below (g := gb141) (o := .cells #[.int .i64 a0_0, .int .i64 a0_1, .slice A0_2 l0_2.length c0_2] 30 (0, 0)) zg11 hb); have n3_ := Aside0.mk (blk_below (g := gb142) (o := .cells #[.int .i64 a1_0, .int .i64 a1_1] 32 (0, 0)) zg13 hb); have n4_ := Aside0.mk (below_step zg4 hb); clear HO_7; clear HO_14; clear BK141; clear BK142; clear HB; have HO_7 := n0_; have HO_14 := n1_; have BK141 := n2_; have BK142 := n3_; have HB := n4_; clear n0_ n1_ n2_ n3_ n4_; (try clear hb); (try clear hb2); (try clear hk); (try clear hi); (try clear hna_); (try clear hnb_)))
     go_roundg k2
     case measure => have := HK1.out; have := HK2.out; omega
     case rel => exact ⟨(t149), (wrap64 (x25_2 + 1)), zg21, zg21, H', ⟨by have := HK1.out; have := HK2.out; omega⟩, ⟨zg23⟩, ⟨zg22⟩, ⟨zg11⟩, ⟨zg13⟩, ⟨zg4⟩⟩

/-! ### impl_Board_isSet: function 85 -/
def impl_Board_isSet.l0 : Nat → List Int → List Int → Int → Int → Int → Int → List Int → Option (Bool)
 | 0, _, _, _, _, _, _, _ => none
 | k + 1, x1, x7, x8, x9, x231000, x231001, x231002 => if x9 < x8 then (if 0 ≤ x9 then (if x9 < (x7.length : Int) then ((impl_Board_has.f k x231000 x231001 x231002 (rd x7 x9)).bind fun t232 => (if t232 = true then (if x9 > 0 then (if 0 ≤ (wrap64 (x9 - 1)) then (if (wrap64 (x9 - 1)) < (x1.length : Int) then (if (rd x1 (wrap64 (x9 - 1))) ≥ (rd x7 x9) then (some false) else (impl_Board_isSet.l0 k x1 x7 x8 (wrap64 (x9 + 1)) x231000 x231001 x231002)) else (none)) else (none)) else (impl_Board_isSet.l0 k x1 x7 x8 (wrap64 (x9 + 1)) x231000 x231001 x231002)) else (some false))) else (none)) else (none)) else (some true)
def impl_Board_isSet.f (k : Nat) (a0_0 : Int) (a0_1 : Int) (l0_2 : List Int) (l1 : List Int) : Option (Bool) := impl_Board_isSet.l0 k l1 l1 (l1.length : Int) 0 a0_0 a0_1 l0_2
set_option maxHeartbeats 8000000 in
set_option maxRecDepth 100000 in
theorem impl_Board_isSet.calls (k : Nat) (a0_0 : Int) (a0_1 : Int) (A0_2 : Option Addr) (c0_2 : Nat) (l0_2 : List Int) (A1 : Option Addr) (c1 : Nat) (l1 : List Int) (r : Bool) (w : World) (hr0_2 : Kd.C (Kd.int .i64) w A0_2 l0_2.length l0_2) (hc0_2 : l0_2.length ≤ c0_2) (hr1 : Kd.C (Kd.int .i64) w A1 l1.length l1) (hc1 : l1.length ≤ c1) (h : impl_Board_isSet.f k a0_0 a0_1 l0_2 l1 = some r) :
  Calls Try.prog 85 #[.agg #[.int .i64 a0_0, .int .i64 a0_1, .slice A0_2 l0_2.length c0_2], .slice A1 l1.length c1] w fun e w' => e = .returned (.bool r) ∧ Below w.heap.size w w' := by
 have hu30 := Try.underlying30
 have HR0_2 := Aside0.mk hr0_2
 have HC0_2 := Aside0.mk hc0_2
 clear hr0_2 hc0_2
 have HR1 := Aside0.mk hr1
 have HC1 := Aside0.mk hc1
 clear hr1 hc1
 have HB := Aside0.mk (Below.refl w.heap.size w)
 have H : (impl_Board_isSet.l0 k l1 l1 (l1.length : Int) 0 a0_0 a0_1 l0_2) = some r := h
 clear h
 have H' := Aside0.mk H
 clear H
 go_enter Try.func85, Try.ntmps85
 go_wp2_with (first | ((with_reducible refine gate_dst (N := 2) rfl ?_); refine box_event ?hg (N := 2) ?hd (cs := #[.int .i64 a0_0, .int .i64 a0_1, .slice A0_2 l0_2.length c0_2]) (t := 30) ?hr ?_; (case hd => rfl); (case hg => rfl); (case hr => first | (go_simp; done) | (go_simp; rfl)); intro gb230 hg w3 hbox hb; have n0_ := Aside0.mk (below_step zg1 hb); have n1_ := Aside0.mk (hbox); have n2_ := Aside0.mk ((zg32 : w.heap.size ≤ gb230)); have n3_ := Aside0.mk ((zg32 : w.heap.size ≤ gb230)); clear HB; have HB := n0_; have BK230 := n1_; have GW230 := n2_; have GE230 := n3_; clear n0_ n1_ n2_ n3_; clear hb hbox hg))
 go_loopg [9] k (fun kq v9 w' => ∃ (x9_1 : Int), v9 = .int .i64 x9_1 ∧ Aside0 (impl_Board_isSet.l0 kq l1 l1 (l1.length : Int) x9_1 a0_0 a0_1 l0_2 = some r) ∧ Aside0 (kq ≤ k) ∧ Aside0 (w'.heap[gb230]? = some (.cells #[.int .i64 a0_0, .int .i64 a0_1, (.slice A0_2 l0_2.length c0_2)] 30 (0, 0))) ∧ Aside0 (Below w.heap.size w w'))
 case atStart => exact ⟨(0), zg21, H', ⟨Nat.le_refl _⟩, ⟨zg18⟩, ⟨zg8⟩⟩
 case round =>
  clear H'
  try clear c1; try clear p2
  obtain ⟨x9_1, rfl, HA, HK1, BK230, HB⟩ := hrel
  cases gk with
  | zero => exact absurd HA.out (by simp [impl_Board_isSet.l0])
  | succ k1 =>
   have H := HA.out
   clear HA
   simp only [impl_Board_isSet.l0] at H
   by_cases c4 : x9_1 < (l1.length : Int)
   rotate_left
   ·rw [if_neg c4] at H
    have c4b0 : decide (x9_1 < (l1.length : Int)) = false := decide_eq_false c4
    clear c4
    obtain rfl := Option.some.inj H
    go_wp2
    go_ret
    exact ⟨zg15, zg8⟩
   rw [if_pos c4] at H
   have c4b0 : decide (x9_1 < (l1.length : Int)) = true := decide_eq_true c4
   clear c4
   by_cases c5 : 0 ≤ x9_1
   rotate_left
   ·rw [if_neg c5] at H
    exact absurd H (by simp)
   rw [if_pos c5] at H
   have c5b0 : decide (0 ≤ x9_1) = true := decide_eq_true c5
   clear c5
   by_cases c6 : x9_1 < (l1.length : Int)
   rotate_left
   ·rw [if_neg c6] at H
    exact absurd H (by simp)
   rw [if_pos c6] at H
   have c6b0 : decide (x9_1 < (l1.length : Int)) = true := decide_eq_true c6
   clear c6
   replace H := Option.bind_eq_some_iff.mp H
   obtain ⟨t232, A70, H⟩ := H
   replace H : (if t232 = true then (if x9_1 > 0 then (if 0 ≤ (wrap64 (x9_1 - 1)) then (if (wrap64 (x9_1 - 1)) < (l1.length : Int) then (if (rd l1 (wrap64 (x9_1 - 1))) ≥ (rd l1 x9_1) then (some false) else (impl_Board_isSet.l0 k1 l1 l1 (l1.length : Int) (wrap64 (x9_1 + 1)) a0_0 a0_1 l0_2)) else (none)) else (none)) else (impl_Board_isSet.l0 k1 l1 l1 (l1.length : Int) (wrap64 (x9_1 + 1)) a0_0 a0_1 l0_2)) else (some false)) = some r := H
   have A7 := Aside0.mk A70
   clear A70
   by_cases c8 : t232 = true
   rotate_left
   ·replace c8 := Bool.eq_false_iff.mpr c8
    subst c8
    have H1 : (some false) = some r := by rw [if_neg (show ¬ (false = true) by decide)] at H; exact H
    clear H
    have H := H1
    clear H1
    obtain rfl := Option.some.inj H
    have p231 : 0 ≤ (x9_1 : Int) := of_decide_eq_true zg9
    have q231 : x9_1 < (l1.length : Int) := of_decide_eq_true zg9
    obtain ⟨ad231, e231, hx231_0⟩ := Kd.at_int HR1.out x9_1 p231 q231
    cases e231
    (first | replace hx231_0 := (HB.out.cell (World.block_lt_of_cell? w _ hx231_0)).trans hx231_0 | skip)
    replace p231 := eq_true p231
    replace q231 := eq_true q231
    have hcz20_0 : wr.cell? ⟨gb230, 0, none⟩ = some (.int .i64 a0_0) := (blk_cell BK230.out 0).trans rfl
    have hcz20_1 : wr.cell? ⟨gb230, 1, none⟩ = some (.int .i64 a0_1) := (blk_cell BK230.out 1).trans rfl
    have hcz20_2 : wr.cell? ⟨gb230, 2, none⟩ = some (.slice A0_2 l0_2.length c0_2) := (blk_cell BK230.out 2).trans rfl
    have hfz20_0 := blk_frozen BK230.out 0
    have hfz20_1 := blk_frozen BK230.out 1
    have hfz20_2 := blk_frozen BK230.out 2
    go_wp2_with (first | ((with_reducible refine gate_callee (f := 88) rfl ?_); refine goesL_ (some 16) rfl rfl Try.func88 (by kernel_rfl) rfl #[.agg #[.int .i64 a0_0, .int .i64 a0_1, .slice A0_2 l0_2.length c0_2], .int .i64 (rd l1 x9_1)] rfl zg6 ?_; (with_reducible refine (impl_Board_has.calls k1 a0_0 a0_1 _ _ l0_2 (rd l1 x9_1) false _ ?side1 ?side2 A7.out).mono ?_); (case side1 => exact zg2); (case side2 => exact HC0_2.out); rintro e w21 ⟨rfl, hb⟩; refine ⟨_, rfl, ?_⟩; have n0_ := Aside0.mk (blk_below (g := gb230) (o := .cells #[.int .i64 a0_0, .int .i64 a0_1, .slice A0_2 l0_2.length c0_2] 30 (0, 0)) zg18 hb); have n1_ := Aside0.mk (below_step zg8 hb); clear BK230; clear HB; have BK230 := n0_; have HB := n1_; clear n0_ n1_; (try clear hb); (try clear hb2); (try clear hk); (try clear hi); (try clear hna_); (try clear hnb_)))
    go_ret
    exact ⟨zg15, zg8⟩
   subst c8
   have H1 : (if x9_1 > 0 then (if 0 ≤ (wrap64 (x9_1 - 1)) then (if (wrap64 (x9_1 - 1)) < (l1.length : Int) then (if (rd l1 (wrap64 (x9_1 - 1))) ≥ (rd l1 x9_1) then (some false) else (impl_Board_isSet.l0 k1 l1 l1 (l1.length : Int) (wrap64 (x9_1 + 1)) a0_0 a0_1 l0_2)) else (none)) else (none)) else (impl_Board_isSet.l0 k1 l1 l1 (l1.length : Int) (wrap64 (x9_1 + 1)) a0_0 a0_1 l0_2)) = some r := by rw [if_pos rfl] at H; exact H
   clear H
   have H := H1
   clear H1
   by_cases c9 : x9_1 > 0
   rotate_left
   ·rw [if_neg c9] at H
    have c9b0 : decide (0 < x9_1) = false := decide_eq_false c9
    clear c9
    have H' := Aside0.mk H
    clear H
    have p231 : 0 ≤ (x9_1 : Int) := of_decide_eq_true zg9
    have q231 : x9_1 < (l1.length : Int) := of_decide_eq_true zg9
    obtain ⟨ad231, e231, hx231_0⟩ := Kd.at_int HR1.out x9_1 p231 q231
    cases e231
    (first | replace hx231_0 := (HB.out.cell (World.block_lt_of_cell? w _ hx231_0)).trans hx231_0 | skip)
    replace p231 := eq_true p231
    replace q231 := eq_true q231
    have hcz18_0 : wr.cell? ⟨gb230, 0, none⟩ = some (.int .i64 a0_0) := (blk_cell BK230.out 0).trans rfl
    have hcz18_1 : wr.cell? ⟨gb230, 1, none⟩ = some (.int .i64 a0_1) := (blk_cell BK230.out 1).trans rfl
    have hcz18_2 : wr.cell? ⟨gb230, 2, none⟩ = some (.slice A0_2 l0_2.length c0_2) := (blk_cell BK230.out 2).trans rfl
    have hfz18_0 := blk_frozen BK230.out 0
    have hfz18_1 := blk_frozen BK230.out 1
    have hfz18_2 := blk_frozen BK230.out 2
    go_wp2_with (first | ((with_reducible refine gate_callee (f := 88) rfl ?_); refine goesL_ (some 16) rfl rfl Try.func88 (by kernel_rfl) rfl #[.agg #[.int .i64 a0_0, .int .i64 a0_1, .slice A0_2 l0_2.length c0_2], .int .i64 (rd l1 x9_1)] rfl zg6 ?_; (with_reducible refine (impl_Board_has.calls k1 a0_0 a0_1 _ _ l0_2 (rd l1 x9_1) true _ ?side1 ?side2 A7.out).mono ?_); (case side1 => exact zg2); (case side2 => exact HC0_2.out); rintro e w19 ⟨rfl, hb⟩; refine ⟨_, rfl, ?_⟩; have n0_ := Aside0.mk (blk_below (g := gb230) (o := .cells #[.int .i64 a0_0, .int .i64 a0_1, .slice A0_2 l0_2.length c0_2] 30 (0, 0)) zg18 hb); have n1_ := Aside0.mk (below_step zg8 hb); clear BK230; clear HB; have BK230 := n0_; have HB := n1_; clear n0_ n1_; (try clear hb); (try clear hb2); (try clear hk); (try clear hi); (try clear hna_); (try clear hnb_)))
    go_roundg k1
    case measure => have := HK1.out; omega
    case rel => exact ⟨(wrap64 (x9_1 + 1)), zg21, H', ⟨by have := HK1.out; omega⟩, ⟨zg18⟩, ⟨zg8⟩⟩
   rw [if_pos c9] at H
   have c9b0 : decide (0 < x9_1) = true := decide_eq_true c9
   clear c9
   obtain ⟨ji10, hji10⟩ : ∃ j_ : Int, (wrap64 (x9_1 - 1)) = j_ := ⟨_, rfl⟩
   replace H : (if 0 ≤ (ji10) then (if (ji10) < (l1.length : Int) then (if (rd l1 (ji10)) ≥ (rd l1 x9_1) then (some false) else (impl_Board_isSet.l0 k1 l1 l1 (l1.length : Int) (wrap64 (x9_1 + 1)) a0_0 a0_1 l0_2)) else (none)) else (none)) = some r := by first | (rw [hji10] at H; exact H) | (simp only [hji10] at H ⊢; exact H)
   (try rw [hji10] at A7)
   have hji10w : (IntKind.i64.wrap (x9_1 - 1)) = ji10 := (i64_w _).trans hji10
   by_cases c11 : 0 ≤ (ji10)
   rotate_left
   ·rw [if_neg c11] at H
    exact absurd H (by simp)
   rw [if_pos c11] at H
   have c11b0 : decide (0 ≤ (ji10)) = true := decide_eq_true c11
   clear c11
   by_cases c12 : (ji10) < (l1.length : Int)
   rotate_left
   ·rw [if_neg c12] at H
    exact absurd H (by simp)
   rw [if_pos c12] at H
   have c12b0 : decide ((ji10) < (l1.length : Int)) = true := decide_eq_true c12
   clear c12
   by_cases c13 : (rd l1 (ji10)) ≥ (rd l1 x9_1)
   ·rw [if_pos c13] at H
    have c13b0 : decide ((rd l1 x9_1) ≤ (rd l1 (ji10))) = true := decide_eq_true c13
    clear c13
    obtain rfl := Option.some.inj H
    have p231 : 0 ≤ (x9_1 : Int) := of_decide_eq_true zg9
    have q231 : x9_1 < (l1.length : Int) := of_decide_eq_true zg9
    obtain ⟨ad231, e231, hx231_0⟩ := Kd.at_int HR1.out x9_1 p231 q231
    cases e231
    (first | replace hx231_0 := (HB.out.cell (World.block_lt_of_cell? w _ hx231_0)).trans hx231_0 | skip)
    replace p231 := eq_true p231
    replace q231 := eq_true q231
    have hcz14_0 : wr.cell? ⟨gb230, 0, none⟩ = some (.int .i64 a0_0) := (blk_cell BK230.out 0).trans rfl
    have hcz14_1 : wr.cell? ⟨gb230, 1, none⟩ = some (.int .i64 a0_1) := (blk_cell BK230.out 1).trans rfl
    have hcz14_2 : wr.cell? ⟨gb230, 2, none⟩ = some (.slice A0_2 l0_2.length c0_2) := (blk_cell BK230.out 2).trans rfl
    have hfz14_0 := blk_frozen BK230.out 0
    have hfz14_1 := blk_frozen BK230.out 1
    have hfz14_2 := blk_frozen BK230.out 2
    go_wp2_with (first | ((with_reducible refine gate_callee (f := 88) rfl ?_); refine goesL_ (some 16) rfl rfl Try.func88 (by kernel_rfl) rfl #[.agg #[.int .i64 a0_0, .int .i64 a0_1, .slice A0_2 l0_2.length c0_2], .int .i64 (rd l1 x9_1)] rfl zg6 ?_; (with_reducible refine (impl_Board_has.calls k1 a0_0 a0_1 _ _ l0_2 (rd l1 x9_1) true _ ?side1 ?side2 A7.out).mono ?_); (case side1 => exact zg2); (case side2 => exact HC0_2.out); rintro e w15 ⟨rfl, hb⟩; refine ⟨_, rfl, ?_⟩; have n0_ := Aside0.mk (blk_below (g := gb230) (o := .cells #[.int .i64 a0_0, .int .i64 a0_1, .slice A0_2 l0_2.length c0_2] 30 (0, 0)) zg18 hb); have n1_ := Aside0.mk (below_step zg8 hb); clear BK230; clear HB; have BK230 := n0_; have HB := n1_; clear n0_ n1_; (try clear hb); (try clear hb2); (try clear hk); (try clear hi); (try clear hna_); (try clear hnb_); have p233 : 0 ≤ ((ji10) : Int) := of_decide_eq_true zg9; have q233 : (ji10) < (l1.length : Int) := of_decide_eq_true zg9; obtain ⟨ad233, e233, hx233_0⟩ := Kd.at_int HR1.out (ji10) p233 q233; obtain rfl : ad231 = ad233 := (by injection e233); (first | replace hx233_0 := (HB.out.cell (World.block_lt_of_cell? w _ hx233_0)).trans hx233_0 | skip); replace p233 := eq_true p233; replace q233 := eq_true q233))
    go_ret
    exact ⟨by first | rfl | (simp [errW_none, errW_some] <;> rfl) | (simp only [← hji10]; first | rfl | (simp [errW_none, errW_some] <;> rfl)) | (simp [*, errW_none, errW_some] <;> rfl), zg8⟩
   rw [if_neg c13] at H
   have c13b0 : decide ((rd l1 x9_1) ≤ (rd l1 (ji10))) = false := decide_eq_false c13
   clear c13
   have H' := Aside0.mk H
   clear H
   have p231 : 0 ≤ (x9_1 : Int) := of_decide_eq_true zg9
   have q231 : x9_1 < (l1.length : Int) := of_decide_eq_true zg9
   obtain ⟨ad231, e231, hx231_0⟩ := Kd.at_int HR1.out x9_1 p231 q231
   cases e231
   (first | replace hx231_0 := (HB.out.cell (World.block_lt_of_cell? w _ hx231_0)).trans hx231_0 | skip)
   replace p231 := eq_true p231
   replace q231 := eq_true q231
   have hcz16_0 : wr.cell? ⟨gb230, 0, none⟩ = some (.int .i64 a0_0) := (blk_cell BK230.out 0).trans rfl
   have hcz16_1 : wr.cell? ⟨gb230, 1, none⟩ = some (.int .i64 a0_1) := (blk_cell BK230.out 1).trans rfl
   have hcz16_2 : wr.cell? ⟨gb230, 2, none⟩ = some (.slice A0_2 l0_2.length c0_2) := (blk_cell BK230.out 2).trans rfl
   have hfz16_0 := blk_frozen BK230.out 0
   have hfz16_1 := blk_frozen BK230.out 1
   have hfz16_2 := blk_frozen BK230.out 2
   go_wp2_with (first | ((with_reducible refine gate_callee (f := 88) rfl ?_); refine goesL_ (some 16) rfl rfl Try.func88 (by kernel_rfl) rfl #[.agg #[.int .i64 a0_0, .int .i64 a0_1, .slice A0_2 l0_2.length c0_2], .int .i64 (rd l1 x9_1)] rfl zg6 ?_; (with_reducible refine (impl_Board_has.calls k1 a0_0 a0_1 _ _ l0_2 (rd l1 x9_1) true _ ?side1 ?side2 A7.out).mono ?_); (case side1 => exact zg2); (case side2 => exact HC0_2.out); rintro e w17 ⟨rfl, hb⟩; refine ⟨_, rfl, ?_⟩; have n0_ := Aside0.mk (blk_below (g := gb230) (o := .cells #[.int .i64 a0_0, .int .i64 a0_1, .slice A0_2 l0_2.length c0_2] 30 (0, 0)) zg18 hb); have n1_ := Aside0.mk (below_step zg8 hb); clear BK230; clear HB; have BK230 := n0_; have HB := n1_; clear n0_ n1_; (try clear hb); (try clear hb2); (try clear hk); (try clear hi); (try clear hna_); (try clear hnb_); have p233 : 0 ≤ ((ji10) : Int) := of_decide_eq_true zg9; have q233 : (ji10) < (l1.length : Int) := of_decide_eq_true zg9; obtain ⟨ad233, e233, hx233_0⟩ := Kd.at_int HR1.out (ji10) p233 q233; obtain rfl : ad231 = ad233 := (by injection e233); (first | replace hx233_0 := (HB.out.cell (World.block_lt_of_cell? w _ hx233_0)).trans hx233_0 | skip); replace p233 := eq_true p233; replace q233 := eq_true q233))
   go_roundg k1
   case measure => have := HK1.out; omega
   case rel => exact ⟨(wrap64 (x9_1 + 1)), zg21, H', ⟨by have := HK1.out; omega⟩, ⟨zg18⟩, ⟨zg8⟩⟩

/-! ### impl_setGraph: function 51 -/
def impl_setGraph.f (k : Nat) (a0_0 : Int) (a0_1 : Int) (l0_2 : List Int) (a1_0 : Int) (a1_1 : Int) (l2 : List Int) : Option (List Int × (List (List Int)) × Bool) := (impl_graphOf.f k a0_0 a0_1 l0_2 a1_0 a1_1).bind fun bt236 => (if bt236.2.2 = true then ((impl_Board_isSet.f k a0_0 a0_1 l0_2 l2).bind fun t245 => (if t245 = true then (some (bt236.1, bt236.2.1, true)) else (some (([] : List Int), ([] : List (List Int)), false)))) else (some (([] : List Int), ([] : List (List Int)), false)))
set_option maxHeartbeats 8000000 in
set_option maxRecDepth 100000 in
theorem impl_setGraph.calls (k : Nat) (a0_0 : Int) (a0_1 : Int) (A0_2 : Option Addr) (c0_2 : Nat) (l0_2 : List Int) (a1_0 : Int) (a1_1 : Int) (A2 : Option Addr) (c2 : Nat) (l2 : List Int) (r1 : List Int) (r2 : List (List Int)) (r3 : Bool) (w : World) (hr0_2 : Kd.C (Kd.int .i64) w A0_2 l0_2.length l0_2) (hc0_2 : l0_2.length ≤ c0_2) (hr2 : Kd.C (Kd.int .i64) w A2 l2.length l2) (hc2 : l2.length ≤ c2) (h : impl_setGraph.f k a0_0 a0_1 l0_2 a1_0 a1_1 l2 = some (r1, r2, r3)) :
  Calls Try.prog 51 #[.agg #[.int .i64 a0_0, .int .i64 a0_1, .slice A0_2 l0_2.length c0_2], .agg #[.int .i64 a1_0, .int .i64 a1_1], .slice A2 l2.length c2] w fun e w' => ∃ v0_ v1_ : Value, ∃ pv_ : Value, e = .returned (.tuple #[pv_, .bool r3]) ∧ GPT r3 pv_ w w' #[.int .i64 a0_0, .int .i64 a0_1, .slice A0_2 l0_2.length c0_2, .int .i64 a1_0, .int .i64 a1_1, v0_, v1_] ∧ Kd.R (Kd.int .i64) 3 w' w.heap.size (fun _ => True) v0_ r1 ∧ Kd.S (Kd.slice 3 (Kd.int .i64)) 22 w' w.heap.size (fun k_ => some k_ ≠ (v0_ : Value).ownBlock) v1_ r2 ∧ Below w.heap.size w w' := by
 have hu30 := Try.underlying30
 have hu32 := Try.underlying32
 have HR0_2 := Aside0.mk hr0_2
 have HC0_2 := Aside0.mk hc0_2
 clear hr0_2 hc0_2
 have HR2 := Aside0.mk hr2
 have HC2 := Aside0.mk hc2
 clear hr2 hc2
 have HB := Aside0.mk (Below.refl w.heap.size w)
 have H : ((impl_graphOf.f k a0_0 a0_1 l0_2 a1_0 a1_1).bind fun bt236 => (if bt236.2.2 = true then ((impl_Board_isSet.f k a0_0 a0_1 l0_2 l2).bind fun t245 => (if t245 = true then (some (bt236.1, bt236.2.1, true)) else (some (([] : List Int), ([] : List (List Int)), false)))) else (some (([] : List Int), ([] : List (List Int)), false)))) = some (r1, r2, r3) := h
 clear h
 replace H := Option.bind_eq_some_iff.mp H
 obtain ⟨⟨t236, t239, t244⟩, A40, H⟩ := H
 replace H : (if t244 = true then ((impl_Board_isSet.f k a0_0 a0_1 l0_2 l2).bind fun t245 => (if t245 = true then (some (t236, t239, true)) else (some (([] : List Int), ([] : List (List Int)), false)))) else (some (([] : List Int), ([] : List (List Int)), false))) = some (r1, r2, r3) := H
 have A4 := Aside0.mk A40
 clear A40
 by_cases c5 : t244 = true
 rotate_left
 ·replace c5 := Bool.eq_false_iff.mpr c5
  subst c5
  have H1 : (some (([] : List Int), ([] : List (List Int)), false)) = some (r1, r2, r3) := by rw [if_neg (show ¬ (false = true) by decide)] at H; exact H
  clear H
  have H := H1
  clear H1
  simp only [Option.some.injEq, Prod.mk.injEq] at H
  obtain ⟨rfl, rfl, rfl⟩ := H
  go_enter Try.func51, Try.ntmps51
  go_wp2_with (first | ((with_reducible refine gate_dst (N := 3) rfl ?_); refine box_event ?hg (N := 3) ?hd (cs := #[.int .i64 a0_0, .int .i64 a0_1, .slice A0_2 l0_2.length c0_2]) (t := 30) ?hr ?_; (case hd => rfl); (case hg => rfl); (case hr => first | (go_simp; done) | (go_simp; rfl)); intro gb234 hg w26 hbox hb; have n0_ := Aside0.mk (below_step zg1 hb); have n1_ := Aside0.mk (hbox); have n2_ := Aside0.mk ((zg32 : w.heap.size ≤ gb234)); have n3_ := Aside0.mk ((zg32 : w.heap.size ≤ gb234)); clear HB; have HB := n0_; have BK234 := n1_; have GW234 := n2_; have GE234 := n3_; clear n0_ n1_ n2_ n3_; clear hb hbox hg) | ((with_reducible refine gate_dst (N := 4) rfl ?_); refine box_event ?hg (N := 4) ?hd (cs := #[.int .i64 a1_0, .int .i64 a1_1]) (t := 32) ?hr ?_; (case hd => rfl); (case hg => rfl); (case hr => first | (go_simp; done) | (go_simp; rfl)); intro gb235 hg w27 hbox hb; have n0_ := Aside0.mk (blk_below (g := gb234) (o := .cells #[.int .i64 a0_0, .int .i64 a0_1, .slice A0_2 l0_2.length c0_2] 30 (0, 0)) zg5 hb); have n1_ := Aside0.mk (below_step zg10 hb); have n2_ := Aside0.mk (hbox); have n3_ := Aside0.mk ((zg35 : w.heap.size ≤ gb235)); have n4_ := Aside0.mk ((zg35 : w.heap.size ≤ gb235)); have n5_ := Aside0.mk ((zg33 : gb234 ≠ gb235)); have n6_ := Aside0.mk ((zg34 : gb235 ≠ gb234)); clear BK234; clear HB; have BK234 := n0_; have HB := n1_; have BK235 := n2_; have GW235 := n3_; have GE235 := n4_; have NB234_235 := n5_; have NB235_234 := n6_; clear n0_ n1_ n2_ n3_ n4_ n5_ n6_; clear hb hbox hg; have hnb28 := NB234_235.out; have hnc28 := NB235_234.out; have hcz29_0 : w27.cell? ⟨gb234, 0, none⟩ = some (.int .i64 a0_0) := (blk_cell BK234.out 0).trans rfl; have hcz29_1 : w27.cell? ⟨gb234, 1, none⟩ = some (.int .i64 a0_1) := (blk_cell BK234.out 1).trans rfl; have hcz29_2 : w27.cell? ⟨gb234, 2, none⟩ = some (.slice A0_2 l0_2.length c0_2) := (blk_cell BK234.out 2).trans rfl; have hfz29_0 := blk_frozen BK234.out 0; have hfz29_1 := blk_frozen BK234.out 1; have hfz29_2 := blk_frozen BK234.out 2; have hcz30_0 : w27.cell? ⟨gb235, 0, none⟩ = some (.int .i64 a1_0) := (blk_cell BK235.out 0).trans rfl; have hcz30_1 : w27.cell? ⟨gb235, 1, none⟩ = some (.int .i64 a1_1) := (blk_cell BK235.out 1).trans rfl; have hfz30_0 := blk_frozen BK235.out 0; have hfz30_1 := blk_frozen BK235.out 1) | ((with_reducible refine gate_callee (f := 60) rfl ?_); refine goesL_ (some 13) rfl rfl Try.func60 (by kernel_rfl) rfl #[.agg #[.int .i64 a0_0, .int .i64 a0_1, .slice A0_2 l0_2.length c0_2], .agg #[.int .i64 a1_0, .int .i64 a1_1]] rfl zg6 ?_; (with_reducible refine (impl_graphOf.calls k a0_0 a0_1 _ _ l0_2 a1_0 a1_1 t236 t239 false _ ?side1 ?side2 A4.out).mono ?_); (case side1 => exact zg2); (case side2 => exact HC0_2.out); rintro e w31 ⟨v237, v240, pv243, rfl, hgp, ho0, ho1, hb⟩; refine ⟨_, rfl, ?_⟩; obtain rfl := hgp.2 rfl; have n0_ := Aside0.mk (Kd.R_lower ho0 (below_size zg3)); have n1_ := Aside0.mk (Kd.S_lower ho1 (below_size zg3)); have n2_ := Aside0.mk (blk_below (g := gb234) (o := .cells #[.int .i64 a0_0, .int .i64 a0_1, .slice A0_2 l0_2.length c0_2] 30 (0, 0)) zg5 hb); have n3_ := Aside0.mk (blk_below (g := gb235) (o := .cells #[.int .i64 a1_0, .int .i64 a1_1] 32 (0, 0)) zg12 hb); have n4_ := Aside0.mk (below_step zg3 hb); clear BK234; clear BK235; clear HB; have HO238 := n0_; have HO241 := n1_; have BK234 := n2_; have BK235 := n3_; have HB := n4_; clear n0_ n1_ n2_ n3_ n4_; (try clear hb); (try clear hb2); (try clear hk); (try clear hi); (try clear ho0); (try clear ho1); (try clear hgp); (try clear hbox); (try clear hge); (try clear hna_); (try clear hnb_)))
  go_ret2
  exact ⟨_, _, _, zg15, ⟨(fun h_ => by cases h_), fun _ => rfl⟩, zg26, zg31, zg3⟩
 subst c5
 have H1 : ((impl_Board_isSet.f k a0_0 a0_1 l0_2 l2).bind fun t245 => (if t245 = true then (some (t236, t239, true)) else (some (([] : List Int), ([] : List (List Int)), false)))) = some (r1, r2, r3) := by rw [if_pos rfl] at H; exact H
 clear H
 have H := H1
 clear H1
 replace H := Option.bind_eq_some_iff.mp H
 obtain ⟨t245, A60, H⟩ := H
 replace H : (if t245 = true then (some (t236, t239, true)) else (some (([] : List Int), ([] : List (List Int)), false))) = some (r1, r2, r3) := H
 have A6 := Aside0.mk A60
 clear A60
 by_cases c7 : t245 = true
 ·subst c7
  have H1 : (some (t236, t239, true)) = some (r1, r2, r3) := by rw [if_pos rfl] at H; exact H
  clear H
  have H := H1
  clear H1
  simp only [Option.some.injEq, Prod.mk.injEq] at H
  obtain ⟨rfl, rfl, rfl⟩ := H
  go_enter Try.func51, Try.ntmps51
  go_wp2_with (first | ((with_reducible refine gate_dst (N := 3) rfl ?_); refine box_event ?hg (N := 3) ?hd (cs := #[.int .i64 a0_0, .int .i64 a0_1, .slice A0_2 l0_2.length c0_2]) (t := 30) ?hr ?_; (case hd => rfl); (case hg => rfl); (case hr => first | (go_simp; done) | (go_simp; rfl)); intro gb234 hg w8 hbox hb; have n0_ := Aside0.mk (below_step zg1 hb); have n1_ := Aside0.mk (hbox); have n2_ := Aside0.mk ((zg32 : w.heap.size ≤ gb234)); have n3_ := Aside0.mk ((zg32 : w.heap.size ≤ gb234)); clear HB; have HB := n0_; have BK234 := n1_; have GW234 := n2_; have GE234 := n3_; clear n0_ n1_ n2_ n3_; clear hb hbox hg) | ((with_reducible refine gate_dst (N := 4) rfl ?_); refine box_event ?hg (N := 4) ?hd (cs := #[.int .i64 a1_0, .int .i64 a1_1]) (t := 32) ?hr ?_; (case hd => rfl); (case hg => rfl); (case hr => first | (go_simp; done) | (go_simp; rfl)); intro gb235 hg w9 hbox hb; have n0_ := Aside0.mk (blk_below (g := gb234) (o := .cells #[.int .i64 a0_0, .int .i64 a0_1, .slice A0_2 l0_2.length c0_2] 30 (0, 0)) zg5 hb); have n1_ := Aside0.mk (below_step zg10 hb); have n2_ := Aside0.mk (hbox); have n3_ := Aside0.mk ((zg35 : w.heap.size ≤ gb235)); have n4_ := Aside0.mk ((zg35 : w.heap.size ≤ gb235)); have n5_ := Aside0.mk ((zg33 : gb234 ≠ gb235)); have n6_ := Aside0.mk ((zg34 : gb235 ≠ gb234)); clear BK234; clear HB; have BK234 := n0_; have HB := n1_; have BK235 := n2_; have GW235 := n3_; have GE235 := n4_; have NB234_235 := n5_; have NB235_234 := n6_; clear n0_ n1_ n2_ n3_ n4_ n5_ n6_; clear hb hbox hg; have hnb10 := NB234_235.out; have hnc10 := NB235_234.out; have hcz11_0 : w9.cell? ⟨gb234, 0, none⟩ = some (.int .i64 a0_0) := (blk_cell BK234.out 0).trans rfl; have hcz11_1 : w9.cell? ⟨gb234, 1, none⟩ = some (.int .i64 a0_1) := (blk_cell BK234.out 1).trans rfl; have hcz11_2 : w9.cell? ⟨gb234, 2, none⟩ = some (.slice A0_2 l0_2.length c0_2) := (blk_cell BK234.out 2).trans rfl; have hfz11_0 := blk_frozen BK234.out 0; have hfz11_1 := blk_frozen BK234.out 1; have hfz11_2 := blk_frozen BK234.out 2; have hcz12_0 : w9.cell? ⟨gb235, 0, none⟩ = some (.int .i64 a1_0) := (blk_cell BK235.out 0).trans rfl; have hcz12_1 : w9.cell? ⟨gb235, 1, none⟩ = some (.int .i64 a1_1) := (blk_cell BK235.out 1).trans rfl; have hfz12_0 := blk_frozen BK235.out 0; have hfz12_1 := blk_frozen BK235.out 1) | ((with_reducible refine gate_callee (f := 60) rfl ?_); refine goesL_ (some 13) rfl rfl Try.func60 (by kernel_rfl) rfl #[.agg #[.int .i64 a0_0, .int .i64 a0_1, .slice A0_2 l0_2.length c0_2], .agg #[.int .i64 a1_0, .int .i64 a1_1]] rfl zg6 ?_; (with_reducible refine (impl_graphOf.calls k a0_0 a0_1 _ _ l0_2 a1_0 a1_1 t236 t239 true _ ?side1 ?side2 A4.out).mono ?_); (case side1 => exact zg2); (case side2 => exact HC0_2.out); rintro e w13 ⟨v237, v240, pv243, rfl, hgp, ho0, ho1, hb⟩; refine ⟨_, rfl, ?_⟩; obtain ⟨gb242, rfl, hbox, hge⟩ := hgp.1 rfl; have n0_ := Aside0.mk (Kd.R_lower ho0 (below_size zg3)); have n1_ := Aside0.mk (Kd.S_lower ho1 (below_size zg3)); have n2_ := Aside0.mk (blk_below (g := gb234) (o := .cells #[.int .i64 a0_0, .int .i64 a0_1, .slice A0_2 l0_2.length c0_2] 30 (0, 0)) zg5 hb); have n3_ := Aside0.mk (blk_below (g := gb235) (o := .cells #[.int .i64 a1_0, .int .i64 a1_1] 32 (0, 0)) zg12 hb); have n4_ := Aside0.mk (hbox); have n5_ := Aside0.mk ((Nat.le_trans (by exact (below_size zg3)) hge : w.heap.size ≤ gb242)); have n6_ := Aside0.mk ((Nat.le_trans (by exact (below_size zg3)) hge : w.heap.size ≤ gb242)); have n7_ := Aside0.mk ((Nat.ne_of_lt (Nat.lt_of_lt_of_le (blk_lt (g := gb234) (o := .cells #[.int .i64 a0_0, .int .i64 a0_1, .slice A0_2 l0_2.length c0_2] 30 (0, 0)) zg5) hge) : gb234 ≠ gb242)); have n8_ := Aside0.mk ((Nat.ne_of_gt (Nat.lt_of_lt_of_le (blk_lt (g := gb234) (o := .cells #[.int .i64 a0_0, .int .i64 a0_1, .slice A0_2 l0_2.length c0_2] 30 (0, 0)) zg5) hge) : gb242 ≠ gb234)); have n9_ := Aside0.mk ((Nat.ne_of_lt (Nat.lt_of_lt_of_le (blk_lt (g := gb235) (o := .cells #[.int .i64 a1_0, .int .i64 a1_1] 32 (0, 0)) zg12) hge) : gb235 ≠ gb242)); have n10_ := Aside0.mk ((Nat.ne_of_gt (Nat.lt_of_lt_of_le (blk_lt (g := gb235) (o := .cells #[.int .i64 a1_0, .int .i64 a1_1] 32 (0, 0)) zg12) hge) : gb242 ≠ gb235)); have n11_ := Aside0.mk (below_step zg3 hb); clear BK234; clear BK235; clear HB; have HO238 := n0_; have HO241 := n1_; have BK234 := n2_; have BK235 := n3_; have BK242 := n4_; have GW242 := n5_; have GE242 := n6_; have NB234_242 := n7_; have NB242_234 := n8_; have NB235_242 := n9_; have NB242_235 := n10_; have HB := n11_; clear n0_ n1_ n2_ n3_ n4_ n5_ n6_ n7_ n8_ n9_ n10_ n11_; (try clear hb); (try clear hb2); (try clear hk); (try clear hi); (try clear ho0); (try clear ho1); (try clear hgp); (try clear hbox); (try clear hge); (try clear hna_); (try clear hnb_); have hnb14 := NB234_242.out; have hnc14 := NB242_234.out; have hcz15_0 : w13.cell? ⟨gb234, 0, none⟩ = some (.int .i64 a0_0) := (blk_cell BK234.out 0).trans rfl; have hcz15_1 : w13.cell? ⟨gb234, 1, none⟩ = some (.int .i64 a0_1) := (blk_cell BK234.out 1).trans rfl; have hcz15_2 : w13.cell? ⟨gb234, 2, none⟩ = some (.slice A0_2 l0_2.length c0_2) := (blk_cell BK234.out 2).trans rfl; have hfz15_0 := blk_frozen BK234.out 0; have hfz15_1 := blk_frozen BK234.out 1; have hfz15_2 := blk_frozen BK234.out 2) | (go_at_call 85; (with_reducible refine (impl_Board_isSet.calls k a0_0 a0_1 _ _ l0_2 _ _ l2 true _ ?side1 ?side2 ?side3 ?side4 A6.out).mono ?_); (case side1 => exact zg2); (case side2 => exact HC0_2.out); (case side3 => exact zg24); (case side4 => exact HC2.out); rintro e w16 ⟨rfl, hb⟩; have n0_ := Aside0.mk (Kd.R_below zg30 hb); have n1_ := Aside0.mk (Kd.S_below zg29 hb); have n2_ := Aside0.mk (blk_below (g := gb234) (o := .cells #[.int .i64 a0_0, .int .i64 a0_1, .slice A0_2 l0_2.length c0_2] 30 (0, 0)) zg5 hb); have n3_ := Aside0.mk (blk_below (g := gb235) (o := .cells #[.int .i64 a1_0, .int .i64 a1_1] 32 (0, 0)) zg12 hb); have n4_ := Aside0.mk (blk_below (g := gb242) (o := .cells #[.int .i64 a0_0, .int .i64 a0_1, .slice A0_2 l0_2.length c0_2, .int .i64 a1_0, .int .i64 a1_1, v237, v240] 60 (0, 0)) zg27 hb); have n5_ := Aside0.mk (below_step zg20 hb); clear HO238; clear HO241; clear BK234; clear BK235; clear BK242; clear HB; have HO238 := n0_; have HO241 := n1_; have BK234 := n2_; have BK235 := n3_; have BK242 := n4_; have HB := n5_; clear n0_ n1_ n2_ n3_ n4_ n5_; (try clear hb); (try clear hb2); (try clear hk); (try clear hi); (try clear hna_); (try clear hnb_)))
  go_ret2
  exact ⟨_, _, _, zg15, ⟨fun _ => ⟨_, rfl, zg27, GW242.out⟩, (fun h_ => by cases h_)⟩, zg30, zg29, zg20⟩
 replace c7 := Bool.eq_false_iff.mpr c7
 subst c7
 have H1 : (some (([] : List Int), ([] : List (List Int)), false)) = some (r1, r2, r3) := by rw [if_neg (show ¬ (false = true) by decide)] at H; exact H
 clear H
 have H := H1
 clear H1
 simp only [Option.some.injEq, Prod.mk.injEq] at H
 obtain ⟨rfl, rfl, rfl⟩ := H
 go_enter Try.func51, Try.ntmps51
 go_wp2_with (first | ((with_reducible refine gate_dst (N := 3) rfl ?_); refine box_event ?hg (N := 3) ?hd (cs := #[.int .i64 a0_0, .int .i64 a0_1, .slice A0_2 l0_2.length c0_2]) (t := 30) ?hr ?_; (case hd => rfl); (case hg => rfl); (case hr => first | (go_simp; done) | (go_simp; rfl)); intro gb234 hg w17 hbox hb; have n0_ := Aside0.mk (below_step zg1 hb); have n1_ := Aside0.mk (hbox); have n2_ := Aside0.mk ((zg32 : w.heap.size ≤ gb234)); have n3_ := Aside0.mk ((zg32 : w.heap.size ≤ gb234)); clear HB; have HB := n0_; have BK234 := n1_; have GW234 := n2_; have GE234 := n3_; clear n0_ n1_ n2_ n3_; clear hb hbox hg) | ((with_reducible refine gate_dst (N := 4) rfl ?_); refine box_event ?hg (N := 4) ?hd (cs := #[.int .i64 a1_0, .int .i64 a1_1]) (t := 32) ?hr ?_; (case hd => rfl); (case hg => rfl); (case hr => first | (go_simp; done) | (go_simp; rfl)); intro gb235 hg w18 hbox hb; have n0_ := Aside0.mk (blk_below (g := gb234) (o := .cells #[.int .i64 a0_0, .int .i64 a0_1, .slice A0_2 l0_2.length c0_2] 30 (0, 0)) zg5 hb); have n1_ := Aside0.mk (below_step zg10 hb); have n2_ := Aside0.mk (hbox); have n3_ := Aside0.mk ((zg35 : w.heap.size ≤ gb235)); have n4_ := Aside0.mk ((zg35 : w.heap.size ≤ gb235)); have n5_ := Aside0.mk ((zg33 : gb234 ≠ gb235)); have n6_ := Aside0.mk ((zg34 : gb235 ≠ gb234)); clear BK234; clear HB; have BK234 := n0_; have HB := n1_; have BK235 := n2_; have GW235 := n3_; have GE235 := n4_; have NB234_235 := n5_; have NB235_234 := n6_; clear n0_ n1_ n2_ n3_ n4_ n5_ n6_; clear hb hbox hg; have hnb19 := NB234_235.out; have hnc19 := NB235_234.out; have hcz20_0 : w18.cell? ⟨gb234, 0, none⟩ = some (.int .i64 a0_0) := (blk_cell BK234.out 0).trans rfl; have hcz20_1 : w18.cell? ⟨gb234, 1, none⟩ = some (.int .i64 a0_1) := (blk_cell BK234.out 1).trans rfl; have hcz20_2 : w18.cell? ⟨gb234, 2, none⟩ = some (.slice A0_2 l0_2.length c0_2) := (blk_cell BK234.out 2).trans rfl; have hfz20_0 := blk_frozen BK234.out 0; have hfz20_1 := blk_frozen BK234.out 1; have hfz20_2 := blk_frozen BK234.out 2; have hcz21_0 : w18.cell? ⟨gb235, 0, none⟩ = some (.int .i64 a1_0) := (blk_cell BK235.out 0).trans rfl; have hcz21_1 : w18.cell? ⟨gb235, 1, none⟩ = some (.int .i64 a1_1) := (blk_cell BK235.out 1).trans rfl; have hfz21_0 := blk_frozen BK235.out 0; have hfz21_1 := blk_frozen BK235.out 1) | ((with_reducible refine gate_callee (f := 60) rfl ?_); refine goesL_ (some 13) rfl rfl Try.func60 (by kernel_rfl) rfl #[.agg #[.int .i64 a0_0, .int .i64 a0_1, .slice A0_2 l0_2.length c0_2], .agg #[.int .i64 a1_0, .int .i64 a1_1]] rfl zg6 ?_; (with_reducible refine (impl_graphOf.calls k a0_0 a0_1 _ _ l0_2 a1_0 a1_1 t236 t239 true _ ?side1 ?side2 A4.out).mono ?_); (case side1 => exact zg2); (case side2 => exact HC0_2.out); rintro e w22 ⟨v237, v240, pv243, rfl, hgp, ho0, ho1, hb⟩; refine ⟨_, rfl, ?_⟩; obtain ⟨gb242, rfl, hbox, hge⟩ := hgp.1 rfl; have n0_ := Aside0.mk (Kd.R_lower ho0 (below_size zg3)); have n1_ := Aside0.mk (Kd.S_lower ho1 (below_size zg3)); have n2_ := Aside0.mk (blk_below (g := gb234) (o := .cells #[.int .i64 a0_0, .int .i64 a0_1, .slice A0_2 l0_2.length c0_2] 30 (0, 0)) zg5 hb); have n3_ := Aside0.mk (blk_below (g := gb235) (o := .cells #[.int .i64 a1_0, .int .i64 a1_1] 32 (0, 0)) zg12 hb); have n4_ := Aside0.mk (hbox); have n5_ := Aside0.mk ((Nat.le_trans (by exact (below_size zg3)) hge : w.heap.size ≤ gb242)); have n6_ := Aside0.mk ((Nat.le_trans (by exact (below_size zg3)) hge : w.heap.size ≤ gb242)); have n7_ := Aside0.mk ((Nat.ne_of_lt (Nat.lt_of_lt_of_le (blk_lt (g := gb234) (o := .cells #[.int .i64 a0_0, .int .i64 a0_1, .slice A0_2 l0_2.length c0_2] 30 (0, 0)) zg5) hge) : gb234 ≠ gb242)); have n8_ := Aside0.mk ((Nat.ne_of_gt (Nat.lt_of_lt_of_le (blk_lt (g := gb234) (o := .cells #[.int .i64 a0_0, .int .i64 a0_1, .slice A0_2 l0_2.length c0_2] 30 (0, 0)) zg5) hge) : gb242 ≠ gb234)); have n9_ := Aside0.mk ((Nat.ne_of_lt (Nat.lt_of_lt_of_le (blk_lt (g := gb235) (o := .cells #[.int .i64 a1_0, .int .i64 a1_1] 32 (0, 0)) zg12) hge) : gb235 ≠ gb242)); have n10_ := Aside0.mk ((Nat.ne_of_gt (Nat.lt_of_lt_of_le (blk_lt (g := gb235) (o := .cells #[.int .i64 a1_0, .int .i64 a1_1] 32 (0, 0)) zg12) hge) : gb242 ≠ gb235)); have n11_ := Aside0.mk (below_step zg3 hb); clear BK234; clear BK235; clear HB; have HO238 := n0_; have HO241 := n1_; have BK234 := n2_; have BK235 := n3_; have BK242 := n4_; have GW242 := n5_; have GE242 := n6_; have NB234_242 := n7_; have NB242_234 := n8_; have NB235_242 := n9_; have NB242_235 := n10_; have HB := n11_; clear n0_ n1_ n2_ n3_ n4_ n5_ n6_ n7_ n8_ n9_ n10_ n11_; (try clear hb); (try clear hb2); (try clear hk); (try clear hi); (try clear ho0); (try clear ho1); (try clear hgp); (try clear hbox); (try clear hge); (try clear hna_); (try clear hnb_); have hnb23 := NB234_242.out; have hnc23 := NB242_234.out; have hcz24_0 : w22.cell? ⟨gb234, 0, none⟩ = some (.int .i64 a0_0) := (blk_cell BK234.out 0).trans rfl; have hcz24_1 : w22.cell? ⟨gb234, 1, none⟩ = some (.int .i64 a0_1) := (blk_cell BK234.out 1).trans rfl; have hcz24_2 : w22.cell? ⟨gb234, 2, none⟩ = some (.slice A0_2 l0_2.length c0_2) := (blk_cell BK234.out 2).trans rfl; have hfz24_0 := blk_frozen BK234.out 0; have hfz24_1 := blk_frozen BK234.out 1; have hfz24_2 := blk_frozen BK234.out 2) | (go_at_call 85; (with_reducible refine (impl_Board_isSet.calls k a0_0 a0_1 _ _ l0_2 _ _ l2 false _ ?side1 ?side2 ?side3 ?side4 A6.out).mono ?_); (case side1 => exact zg2); (case side2 => exact HC0_2.out); (case side3 => exact zg24); (case side4 => exact HC2.out); rintro e w25 ⟨rfl, hb⟩; have n0_ := Aside0.mk (Kd.R_below zg30 hb); have n1_ := Aside0.mk (Kd.S_below zg29 hb); have n2_ := Aside0.mk (blk_below (g := gb234) (o := .cells #[.int .i64 a0_0, .int .i64 a0_1, .slice A0_2 l0_2.length c0_2] 30 (0, 0)) zg5 hb); have n3_ := Aside0.mk (blk_below (g := gb235) (o := .cells #[.int .i64 a1_0, .int .i64 a1_1] 32 (0, 0)) zg12 hb); have n4_ := Aside0.mk (blk_below (g := gb242) (o := .cells #[.int .i64 a0_0, .int .i64 a0_1, .slice A0_2 l0_2.length c0_2, .int .i64 a1_0, .int .i64 a1_1, v237, v240] 60 (0, 0)) zg27 hb); have n5_ := Aside0.mk (below_step zg20 hb); clear HO238; clear HO241; clear BK234; clear BK235; clear BK242; clear HB; have HO238 := n0_; have HO241 := n1_; have BK234 := n2_; have BK235 := n3_; have BK242 := n4_; have HB := n5_; clear n0_ n1_ n2_ n3_ n4_ n5_; (try clear hb); (try clear hb2); (try clear hk); (try clear hi); (try clear hna_); (try clear hnb_)))
 go_ret2
 exact ⟨_, _, _, zg15, ⟨(fun h_ => by cases h_), fun _ => rfl⟩, zg26, zg31, zg20⟩

end Go.Proofs.Ythoklbeenjppbaa.Q

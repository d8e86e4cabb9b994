/- Written by a program of this session: functions of the translation as plain Lean functions, each with a proof that the call does what the plain function says; the conditions stand in each theorem. -/
import Derived.Test.YtemaokhlolimhaaQ0
import Derived.Test.YtemaokhlolimhaaQ5
import Derived.Test.YtemaokhlolimhaaQ6
import Derived.Test.YtemaokhlolimhaaQ7
import Derived.Test.YtemaokhlolimhaaHSort
namespace Go.Proofs.Ytemaokhlolimhaa.Q
open Go.RowKit Go.Proofs.YtemaokhlolimhaaW.PrintWords Go.Proofs.YtemaokhlolimhaaW.PrintLast Go.Proofs.YtemaokhlolimhaaW.PrintMore
attribute [local go_sem] max2_int min2_int max_two min_two max_three min_three max_four min_four   -- for this text's walks alone
set_option linter.unusedVariables false
set_option linter.unusedSimpArgs false

theorem zi1 {p : Prop} (h : p := by repeat (first | (with_reducible first | exact HB.out | apply below_alloc | apply pw_below_drewN | apply below_drew1 | refine below_set ?_ GE307.out | refine below_set ?_ GE308.out | refine below_set ?_ GE315.out) | exact HB.out)) : p := h
theorem zi2 {p : Prop} (h : p := by first | exact BK307.out | ((with_reducible repeat (first | refine blk_drewN ?_ _ | refine blk_drew ?_ | refine blk_alloc ?_ _)); exact BK307.out)) : p := h
theorem zi3 {p : Prop} (h : p := by (try simp only [List.map_toArray, List.map_cons, List.map_nil]); first | done | rfl | (simp only [List.length_drop, List.length_take]; rfl)) : p := h
theorem zi4 {p : Prop} (h : p := by repeat (first | (with_reducible first | exact HB.out | apply below_alloc | apply pw_below_drewN | apply below_drew1) | exact HB.out)) : p := h
theorem zi5 {p : Prop} (h : p := by repeat (first | (with_reducible first | exact HB.out | apply below_alloc | apply pw_below_drewN | apply below_drew1 | refine below_set ?_ GE307.out | refine below_set ?_ GE308.out) | exact HB.out)) : p := h
theorem zi6 {p : Prop} (h : p := by repeat (first | (with_reducible first | exact HB.out | apply below_alloc | apply pw_below_drewN | apply below_drew1 | refine below_set ?_ GE289.out | refine below_set ?_ GE290.out) | exact HB.out)) : p := h
theorem zi7 {p : Prop} (h : p := by repeat (first | exact (Kd.C_below HR0_2.out HB.out) | (with_reducible refine Kd.C_alloc ?_ _) | (with_reducible refine Kd.C_drewN ?_ _) | (with_reducible refine Kd.C_drew ?_))) : p := h
theorem zi8 {p : Prop} (h : p := by first | exact BK308.out | ((with_reducible repeat (first | refine blk_drewN ?_ _ | refine blk_drew ?_ | refine blk_alloc ?_ _)); exact BK308.out)) : p := h
theorem zi9 {p : Prop} (h : p := by first | exact BK289.out | ((with_reducible repeat (first | refine blk_drewN ?_ _ | refine blk_drew ?_ | refine blk_alloc ?_ _)); exact BK289.out)) : p := h
theorem zi10 {p : Prop} (h : p := by first | exact BK315.out | ((with_reducible repeat (first | refine blk_drewN ?_ _ | refine blk_drew ?_ | refine blk_alloc ?_ _)); exact BK315.out)) : p := h
theorem zi11 {p : Prop} (h : p := by repeat (first | (with_reducible first | exact HB.out | apply below_alloc | apply pw_below_drewN | apply below_drew1 | refine below_set ?_ GE285.out) | exact HB.out)) : p := h
theorem zi12 {p : Prop} (h : p := by first | (with_reducible assumption) | assumption) : p := h
theorem zi13 {p : Prop} (h : p := by repeat (first | (with_reducible first | exact HB.out | apply below_alloc | apply pw_below_drewN | apply below_drew1 | refine below_set ?_ GE307.out) | exact HB.out)) : p := h
theorem zi14 {p : Prop} (h : p := by repeat (first | (with_reducible first | exact HB.out | apply below_alloc | apply pw_below_drewN | apply below_drew1 | refine below_set ?_ GE289.out) | exact HB.out)) : p := h
theorem zi15 {p : Prop} (h : p := by repeat (first | exact (Kd.C_below HR2.out HB.out) | (with_reducible refine Kd.C_alloc ?_ _) | (with_reducible refine Kd.C_drewN ?_ _) | (with_reducible refine Kd.C_drew ?_))) : p := h
theorem zi16 {p : Prop} (h : p := by first | exact HO_316005.out | ((with_reducible repeat (first | apply Kd.R_alloc | apply Kd.R_drewN | apply Kd.R_drew)); exact HO_316005.out)) : p := h
theorem zi17 {p : Prop} (h : p := by first | exact BK290.out | ((with_reducible repeat (first | refine blk_drewN ?_ _ | refine blk_drew ?_ | refine blk_alloc ?_ _)); exact BK290.out)) : p := h
theorem zi18 {p : Prop} (h : p := by first | exact HO_33.out | ((with_reducible repeat (first | apply Kd.R_alloc | apply Kd.R_drewN | apply Kd.R_drew)); exact HO_33.out)) : p := h
theorem zi19 {p : Prop} (h : p := by first | exact HO_10.out | ((with_reducible repeat (first | apply Kd.R_alloc | apply Kd.R_drewN | apply Kd.R_drew)); exact HO_10.out)) : p := h
theorem zi20 {p : Prop} (h : p := by first | exact BK285.out | ((with_reducible repeat (first | refine blk_drewN ?_ _ | refine blk_drew ?_ | refine blk_alloc ?_ _)); exact BK285.out)) : p := h
theorem zi21 {p : Prop} (h : p := by repeat (first | (with_reducible first | exact HB.out | apply below_alloc | apply pw_below_drewN | apply below_drew1 | refine below_set ?_ GE289.out | refine below_set ?_ GE290.out | refine below_set ?_ GE297.out) | exact HB.out)) : p := h
theorem zi22 {p : Prop} (h : p := by repeat (first | exact (Kd.R_reads' HO_10.out).2.2 | (with_reducible refine Kd.C_alloc ?_ _) | (with_reducible refine Kd.C_drewN ?_ _) | (with_reducible refine Kd.C_drew ?_))) : p := h
theorem zi23 {p : Prop} (h : p := by first | rfl | (simp [errW_none, errW_some] <;> rfl) | (simp [*, errW_none, errW_some] <;> rfl)) : p := h
theorem zi24 {p : Prop} (h : p := by first | exact BK0.out | ((with_reducible repeat (first | refine blk_drewN ?_ _ | refine blk_drew ?_ | refine blk_alloc ?_ _)); exact BK0.out)) : p := h
theorem zi25 {p : Prop} (h : p := by first | rfl | (simp; done) | (simp [*]; done)) : p := h
theorem zi26 {p : Prop} (h : p := by first | exact HO_316006.out | ((with_reducible repeat (first | apply Kd.S_alloc | apply Kd.S_drewN | apply Kd.S_drew)); exact HO_316006.out)) : p := h
theorem zi27 {p : Prop} (h : p := by first | exact Kd.R_nil _ _ _ _ _ | exact Kd.N_nil _ _ _ _ _ | exact Kd.V_nil _ _ _ _ _ | exact Kd.Q_nil _ _ _ _ _ | exact Kd.S_nil _ _ _ _ _) : p := h
theorem zi28 {p : Prop} (h : p := by repeat (first | exact Drawn0.refl _ | apply Drawn0.step)) : p := h
theorem zi29 {p : Prop} (h : p := by first | exact BK297.out | ((with_reducible repeat (first | refine blk_drewN ?_ _ | refine blk_drew ?_ | refine blk_alloc ?_ _)); exact BK297.out)) : p := h
theorem zi30 {p : Prop} (h : p := by first | exact HO296.out | ((with_reducible repeat (first | apply Kd.S_alloc | apply Kd.S_drewN | apply Kd.S_drew)); exact HO296.out)) : p := h
theorem zi31 {p : Prop} (h : p := by first | exact HO293.out | ((with_reducible repeat (first | apply Kd.R_alloc | apply Kd.R_drewN | apply Kd.R_drew)); exact HO293.out)) : p := h
theorem zi32 {p : Prop} (h : p := by repeat (first | exact (Kd.S_reads' HO_316006.out).2.2 | (with_reducible refine Kd.C_alloc ?_ _) | (with_reducible refine Kd.C_drewN ?_ _) | (with_reducible refine Kd.C_drew ?_))) : p := h
theorem zi33 {p : Prop} (h : p := by repeat (first | exact (Kd.R_reads' HO_316005.out).2.2 | (with_reducible refine Kd.C_alloc ?_ _) | (with_reducible refine Kd.C_drewN ?_ _) | (with_reducible refine Kd.C_drew ?_))) : p := h
theorem zi34 {p : Prop} (h : p := by (with_reducible repeat (first | apply Kd.R_alloc | apply Kd.R_drewN | apply Kd.R_drew)); exact Kd.R_mono HO327.out (fun _ hk => ⟨hk.1.1.2, ⟨hk.1.2, hk.2⟩⟩)) : p := h
theorem zi35 {p : Prop} (h : p := by repeat (first | exact (Kd.S_reads' HO314.out).2.2 | (with_reducible refine Kd.C_alloc ?_ _) | (with_reducible refine Kd.C_drewN ?_ _) | (with_reducible refine Kd.C_drew ?_))) : p := h
theorem zi36 {p : Prop} (h : p := by repeat (first | exact (Kd.R_reads' HO330.out).2.2 | (with_reducible refine Kd.C_alloc ?_ _) | (with_reducible refine Kd.C_drewN ?_ _) | (with_reducible refine Kd.C_drew ?_))) : p := h
theorem zi37 {p : Prop} (h : p := by repeat (first | exact (Kd.R_reads' HO311.out).2.2 | (with_reducible refine Kd.C_alloc ?_ _) | (with_reducible refine Kd.C_drewN ?_ _) | (with_reducible refine Kd.C_drew ?_))) : p := h
theorem zi38 {p : Prop} (h : p := by repeat (first | exact HR0_6.out | (with_reducible refine Kd.C_alloc ?_ _) | (with_reducible refine Kd.C_drewN ?_ _) | (with_reducible refine Kd.C_drew ?_))) : p := h
theorem zi39 {p : Prop} (h : p := by repeat (first | exact HR0_5.out | (with_reducible refine Kd.C_alloc ?_ _) | (with_reducible refine Kd.C_drewN ?_ _) | (with_reducible refine Kd.C_drew ?_))) : p := h
theorem zi40 {p : Prop} (h : p := by repeat (first | exact HR0_2.out | (with_reducible refine Kd.C_alloc ?_ _) | (with_reducible refine Kd.C_drewN ?_ _) | (with_reducible refine Kd.C_drew ?_))) : p := h
theorem zi41 {p : Prop} (h : p := by first | exact Kd.S_nil _ _ _ _ _ | exact Kd.N_nil _ _ _ _ _ | exact Kd.V_nil _ _ _ _ _ | exact Kd.Q_nil _ _ _ _ _ | exact Kd.R_nil _ _ _ _ _) : p := h
theorem zi42 {p : Prop} (h : p := by (with_reducible repeat (first | apply Kd.R_alloc | apply Kd.R_drewN | apply Kd.R_drew)); exact Kd.R_mono HO311.out (fun _ hk => hk.2)) : p := h
theorem zi43 {p : Prop} (h : p := by rw [hg]; exact (below_size zi4)) : p := h
theorem zi44 {p : Prop} (h : p := by rw [hg]; exact Nat.ne_of_lt (blk_lt (g := gb307) (o := .cells #[.int .i64 a0_0, .int .i64 a0_1, .slice A0_2 l0_2.length c0_2] 31 (0, 0)) zi2)) : p := h
theorem zi45 {p : Prop} (h : p := by rw [hg]; exact Nat.ne_of_lt (blk_lt (g := gb289) (o := .cells #[.int .i64 a0_0, .int .i64 a0_1, .slice A0_2 l0_2.length c0_2] 31 (0, 0)) zi9)) : p := h
theorem zi46 {p : Prop} (h : p := by rw [hg]; exact Nat.ne_of_gt (blk_lt (g := gb307) (o := .cells #[.int .i64 a0_0, .int .i64 a0_1, .slice A0_2 l0_2.length c0_2] 31 (0, 0)) zi2)) : p := h
theorem zi47 {p : Prop} (h : p := by rw [hg]; exact Nat.ne_of_gt (blk_lt (g := gb289) (o := .cells #[.int .i64 a0_0, .int .i64 a0_1, .slice A0_2 l0_2.length c0_2] 31 (0, 0)) zi9)) : p := h
theorem zi48 {p : Prop} (h : p := by rw [hg]; exact (below_size zi14)) : p := h
theorem zi49 {p : Prop} (h : p := by rw [hg]; exact (below_size zi13)) : p := h
/-! ### impl_Board_isSet: function 61 -/
def impl_Board_isSet.l0 : Nat → List Int → List Int → Int → Int → Int → Int → List Int → Option (Bool)
 | 0, _, _, _, _, _, _, _ => none
 | k + 1, x1, x7, x8, x9, x286000, x286001, x286002 => if x9 < x8 then (if 0 ≤ x9 then (if x9 < (x7.length : Int) then ((impl_Board_has.f k x286000 x286001 x286002 (rd x7 x9)).bind fun t287 => (if t287 = true then (if x9 > 0 then (if 0 ≤ (wrap64 (x9 - 1)) then (if (wrap64 (x9 - 1)) < (x1.length : Int) then (if (rd x1 (wrap64 (x9 - 1))) ≥ (rd x7 x9) then (some false) else (impl_Board_isSet.l0 k x1 x7 x8 (wrap64 (x9 + 1)) x286000 x286001 x286002)) else (none)) else (none)) else (impl_Board_isSet.l0 k x1 x7 x8 (wrap64 (x9 + 1)) x286000 x286001 x286002)) else (some false))) else (none)) else (none)) else (some true)
def impl_Board_isSet.f (k : Nat) (a0_0 : Int) (a0_1 : Int) (l0_2 : List Int) (l1 : List Int) : Option (Bool) := impl_Board_isSet.l0 k l1 l1 (l1.length : Int) 0 a0_0 a0_1 l0_2
set_option maxHeartbeats 8000000 in
set_option maxRecDepth 100000 in
theorem impl_Board_isSet.calls (k : Nat) (a0_0 : Int) (a0_1 : Int) (A0_2 : Option Addr) (c0_2 : Nat) (l0_2 : List Int) (A1 : Option Addr) (c1 : Nat) (l1 : List Int) (r : Bool) (w : World) (hr0_2 : Kd.C (Kd.int .i64) w A0_2 l0_2.length l0_2) (hc0_2 : l0_2.length ≤ c0_2) (hr1 : Kd.C (Kd.int .i64) w A1 l1.length l1) (hc1 : l1.length ≤ c1) (h : impl_Board_isSet.f k a0_0 a0_1 l0_2 l1 = some r) :
  Calls Try.prog 61 #[.agg #[.int .i64 a0_0, .int .i64 a0_1, .slice A0_2 l0_2.length c0_2], .slice A1 l1.length c1] w fun e w' => e = .returned (.bool r) ∧ Below w.heap.size w w' := by
 have hu31 := Try.underlying31
 have HR0_2 := Aside0.mk hr0_2
 have HC0_2 := Aside0.mk hc0_2
 clear hr0_2 hc0_2
 have HR1 := Aside0.mk hr1
 have HC1 := Aside0.mk hc1
 clear hr1 hc1
 have HB := Aside0.mk (Below.refl w.heap.size w)
 have H : (impl_Board_isSet.l0 k l1 l1 (l1.length : Int) 0 a0_0 a0_1 l0_2) = some r := h
 clear h
 have H' := Aside0.mk H
 clear H
 go_enter Try.func61, Try.ntmps61
 go_wp2_with (first | ((with_reducible refine gate_dst (N := 2) rfl ?_); refine box_event ?hg (N := 2) ?hd (cs := #[.int .i64 a0_0, .int .i64 a0_1, .slice A0_2 l0_2.length c0_2]) (t := 31) ?hr ?_; (case hd => rfl); (case hg => rfl); (case hr => first | (go_simp; done) | (go_simp; rfl)); intro gb285 hg w3 hbox hb; have n0_ := Aside0.mk (below_step zi4 hb); have n1_ := Aside0.mk (hbox); have n2_ := Aside0.mk ((zi43 : w.heap.size ≤ gb285)); have n3_ := Aside0.mk ((zi43 : w.heap.size ≤ gb285)); clear HB; have HB := n0_; have BK285 := n1_; have GW285 := n2_; have GE285 := n3_; clear n0_ n1_ n2_ n3_; clear hb hbox hg))
 go_loopg [9] k (fun kq v9 w' => ∃ (x9_1 : Int), v9 = .int .i64 x9_1 ∧ Aside0 (impl_Board_isSet.l0 kq l1 l1 (l1.length : Int) x9_1 a0_0 a0_1 l0_2 = some r) ∧ Aside0 (kq ≤ k) ∧ Aside0 (w'.heap[gb285]? = some (.cells #[.int .i64 a0_0, .int .i64 a0_1, (.slice A0_2 l0_2.length c0_2)] 31 (0, 0))) ∧ Aside0 (Below w.heap.size w w'))
 case atStart => exact ⟨(0), zi25, H', ⟨Nat.le_refl _⟩, ⟨zi20⟩, ⟨zi11⟩⟩
 case round =>
  clear H'
  try clear c1; try clear p2
  obtain ⟨x9_1, rfl, HA, HK1, BK285, HB⟩ := hrel
  cases gk with
  | zero => exact absurd HA.out (by simp [impl_Board_isSet.l0])
  | succ k1 =>
   have H := HA.out
   clear HA
   simp only [impl_Board_isSet.l0] at H
   by_cases c4 : x9_1 < (l1.length : Int)
   rotate_left
   ·rw [if_neg c4] at H
    have c4b0 : decide (x9_1 < (l1.length : Int)) = false := decide_eq_false c4
    clear c4
    obtain rfl := Option.some.inj H
    go_wp2
    go_ret
    exact ⟨zi23, zi11⟩
   rw [if_pos c4] at H
   have c4b0 : decide (x9_1 < (l1.length : Int)) = true := decide_eq_true c4
   clear c4
   by_cases c5 : 0 ≤ x9_1
   rotate_left
   ·rw [if_neg c5] at H
    exact absurd H (by simp)
   rw [if_pos c5] at H
   have c5b0 : decide (0 ≤ x9_1) = true := decide_eq_true c5
   clear c5
   by_cases c6 : x9_1 < (l1.length : Int)
   rotate_left
   ·rw [if_neg c6] at H
    exact absurd H (by simp)
   rw [if_pos c6] at H
   have c6b0 : decide (x9_1 < (l1.length : Int)) = true := decide_eq_true c6
   clear c6
   replace H := Option.bind_eq_some_iff.mp H
   obtain ⟨t287, A70, H⟩ := H
   replace H : (if t287 = true then (if x9_1 > 0 then (if 0 ≤ (wrap64 (x9_1 - 1)) then (if (wrap64 (x9_1 - 1)) < (l1.length : Int) then (if (rd l1 (wrap64 (x9_1 - 1))) ≥ (rd l1 x9_1) then (some false) else (impl_Board_isSet.l0 k1 l1 l1 (l1.length : Int) (wrap64 (x9_1 + 1)) a0_0 a0_1 l0_2)) else (none)) else (none)) else (impl_Board_isSet.l0 k1 l1 l1 (l1.length : Int) (wrap64 (x9_1 + 1)) a0_0 a0_1 l0_2)) else (some false)) = some r := H
   have A7 := Aside0.mk A70
   clear A70
   by_cases c8 : t287 = true
   rotate_left
   ·replace c8 := Bool.eq_false_iff.mpr c8
    subst c8
    have H1 : (some false) = some r := by rw [if_neg (show ¬ (false = true) by decide)] at H; exact H
    clear H
    have H := H1
    clear H1
    obtain rfl := Option.some.inj H
    have p286 : 0 ≤ (x9_1 : Int) := of_decide_eq_true zi12
    have q286 : x9_1 < (l1.length : Int) := of_decide_eq_true zi12
    obtain ⟨ad286, e286, hx286_0⟩ := Kd.at_int HR1.out x9_1 p286 q286
    cases e286
    (first | replace hx286_0 := (HB.out.cell (World.block_lt_of_cell? w _ hx286_0)).trans hx286_0 | skip)
    replace p286 := eq_true p286
    replace q286 := eq_true q286
    have hcz20_0 : wr.cell? ⟨gb285, 0, none⟩ = some (.int .i64 a0_0) := (blk_cell BK285.out 0).trans rfl
    have hcz20_1 : wr.cell? ⟨gb285, 1, none⟩ = some (.int .i64 a0_1) := (blk_cell BK285.out 1).trans rfl
    have hcz20_2 : wr.cell? ⟨gb285, 2, none⟩ = some (.slice A0_2 l0_2.length c0_2) := (blk_cell BK285.out 2).trans rfl
    have hfz20_0 := blk_frozen BK285.out 0
    have hfz20_1 := blk_frozen BK285.out 1
    have hfz20_2 := blk_frozen BK285.out 2
    go_wp2_with (first | ((with_reducible refine gate_callee (f := 59) rfl ?_); refine goesL_ (some 16) rfl rfl Try.func59 (by kernel_rfl) rfl #[.agg #[.int .i64 a0_0, .int .i64 a0_1, .slice A0_2 l0_2.length c0_2], .int .i64 (rd l1 x9_1)] rfl zi3 ?_; (with_reducible refine (impl_Board_has.calls k1 a0_0 a0_1 _ _ l0_2 (rd l1 x9_1) false _ ?side1 ?side2 A7.out).mono ?_); (case side1 => exact zi7); (case side2 => exact HC0_2.out); rintro e w21 ⟨rfl, hb⟩; refine ⟨_, rfl, ?_⟩; have n0_ := Aside0.mk (blk_below (g := gb285) (o := .cells #[.int .i64 a0_0, .int .i64 a0_1, .slice A0_2 l0_2.length c0_2] 31 (0, 0)) zi20 hb); have n1_ := Aside0.mk (below_step zi11 hb); clear BK285; clear HB; have BK285 := n0_; have HB := n1_; clear n0_ n1_; (try clear hb); (try clear hb2); (try clear hk); (try clear hi); (try clear hna_); (try clear hnb_)))
    go_ret
    exact ⟨zi23, zi11⟩
   subst c8
   have H1 : (if x9_1 > 0 then (if 0 ≤ (wrap64 (x9_1 - 1)) then (if (wrap64 (x9_1 - 1)) < (l1.length : Int) then (if (rd l1 (wrap64 (x9_1 - 1))) ≥ (rd l1 x9_1) then (some false) else (impl_Board_isSet.l0 k1 l1 l1 (l1.length : Int) (wrap64 (x9_1 + 1)) a0_0 a0_1 l0_2)) else (none)) else (none)) else (impl_Board_isSet.l0 k1 l1 l1 (l1.length : Int) (wrap64 (x9_1 + 1)) a0_0 a0_1 l0_2)) = some r := by rw [if_pos rfl] at H; exact H
   clear H
   have H := H1
   clear H1
   by_cases c9 : x9_1 > 0
   rotate_left
   ·rw [if_neg c9] at H
    have c9b0 : decide (0 < x9_1) = false := decide_eq_false c9
    clear c9
    have H' := Aside0.mk H
    clear H
    have p286 : 0 ≤ (x9_1 : Int) := of_decide_eq_true zi12
    have q286 : x9_1 < (l1.length : Int) := of_decide_eq_true zi12
    obtain ⟨ad286, e286, hx286_0⟩ := Kd.at_int HR1.out x9_1 p286 q286
    cases e286
    (first | replace hx286_0 := (HB.out.cell (World.block_lt_of_cell? w _ hx286_0)).trans hx286_0 | skip)
    replace p286 := eq_true p286
    replace q286 := eq_true q286
    have hcz18_0 : wr.cell? ⟨gb285, 0, none⟩ = some (.int .i64 a0_0) := (blk_cell BK285.out 0).trans rfl
    have hcz18_1 : wr.cell? ⟨gb285, 1, none⟩ = some (.int .i64 a0_1) := (blk_cell BK285.out 1).trans rfl
    have hcz18_2 : wr.cell? ⟨gb285, 2, none⟩ = some (.slice A0_2 l0_2.length c0_2) := (blk_cell BK285.out 2).trans rfl
    have hfz18_0 := blk_frozen BK285.out 0
    have hfz18_1 := blk_frozen BK285.out 1
    have hfz18_2 := blk_frozen BK285.out 2
    go_wp2_with (first | ((with_reducible refine gate_callee (f := 59) rfl ?_); refine goesL_ (some 16) rfl rfl Try.func59 (by kernel_rfl) rfl #[.agg #[.int .i64 a0_0, .int .i64 a0_1, .slice A0_2 l0_2.length c0_2], .int .i64 (rd l1 x9_1)] rfl zi3 ?_; (with_reducible refine (impl_Board_has.calls k1 a0_0 a0_1 _ _ l0_2 (rd l1 x9_1) true _ ?side1 ?side2 A7.out).mono ?_); (case side1 => exact zi7); (case side2 => exact HC0_2.out); rintro e w19 ⟨rfl, hb⟩; refine ⟨_, rfl, ?_⟩; have n0_ := Aside0.mk (blk_below (g := gb285) (o := .cells #[.int .i64 a0_0, .int .i64 a0_1, .slice A0_2 l0_2.length c0_2] 31 (0, 0)) zi20 hb); have n1_ := Aside0.mk (below_step zi11 hb); clear BK285; clear HB; have BK285 := n0_; have HB := n1_; clear n0_ n1_; (try clear hb); (try clear hb2); (try clear hk); (try clear hi); (try clear hna_); (try clear hnb_)))
    go_roundg k1
    case measure => have := HK1.out; omega
    case rel => exact ⟨(wrap64 (x9_1 + 1)), zi25, H', ⟨by have := HK1.out; omega⟩, ⟨zi20⟩, ⟨zi11⟩⟩
   rw [if_pos c9] at H
   have c9b0 : decide (0 < x9_1) = true := decide_eq_true c9
   clear c9
   obtain ⟨ji10, hji10⟩ : ∃ j_ : Int, (wrap64 (x9_1 - 1)) = j_ := ⟨_, rfl⟩
   replace H : (if 0 ≤ (ji10) then (if (ji10) < (l1.length : Int) then (if (rd l1 (ji10)) ≥ (rd l1 x9_1) then (some false) else (impl_Board_isSet.l0 k1 l1 l1 (l1.length : Int) (wrap64 (x9_1 + 1)) a0_0 a0_1 l0_2)) else (none)) else (none)) = some r := by first | (rw [hji10] at H; exact H) | (simp only [hji10] at H ⊢; exact H)
   (try rw [hji10] at A7)
   have hji10w : (IntKind.i64.wrap (x9_1 - 1)) = ji10 := (i64_w _).trans hji10
   by_cases c11 : 0 ≤ (ji10)
   rotate_left
   ·rw [if_neg c11] at H
    exact absurd H (by simp)
   rw [if_pos c11] at H
   have c11b0 : decide (0 ≤ (ji10)) = true := decide_eq_true c11
   clear c11
   by_cases c12 : (ji10) < (l1.length : Int)
   rotate_left
   ·rw [if_neg c12] at H
    exact absurd H (by simp)
   rw [if_pos c12] at H
   have c12b0 : decide ((ji10) < (l1.length : Int)) = true := decide_eq_true c12
   clear c12
   by_cases c13 : (rd l1 (ji10)) ≥ (rd l1 x9_1)
   ·rw [if_pos c13] at H
    have c13b0 : decide ((rd l1 x9_1) ≤ (rd l1 (ji10))) = true := decide_eq_true c13
    clear c13
    obtain rfl := Option.some.inj H
    have p286 : 0 ≤ (x9_1 : Int) := of_decide_eq_true zi12
    have q286 : x9_1 < (l1.length : Int) := of_decide_eq_true zi12
    obtain ⟨ad286, e286, hx286_0⟩ := Kd.at_int HR1.out x9_1 p286 q286
    cases e286
    (first | replace hx286_0 := (HB.out.cell (World.block_lt_of_cell? w _ hx286_0)).trans hx286_0 | skip)
    replace p286 := eq_true p286
    replace q286 := eq_true q286
    have hcz14_0 : wr.cell? ⟨gb285, 0, none⟩ = some (.int .i64 a0_0) := (blk_cell BK285.out 0).trans rfl
    have hcz14_1 : wr.cell? ⟨gb285, 1, none⟩ = some (.int .i64 a0_1) := (blk_cell BK285.out 1).trans rfl
    have hcz14_2 : wr.cell? ⟨gb285, 2, none⟩ = some (.slice A0_2 l0_2.length c0_2) := (blk_cell BK285.out 2).trans rfl
    have hfz14_0 := blk_frozen BK285.out 0
    have hfz14_1 := blk_frozen BK285.out 1
    have hfz14_2 := blk_frozen BK285.out 2
    go_wp2_with (first | ((with_reducible refine gate_callee (f := 59) rfl ?_); refine goesL_ (some 16) rfl rfl Try.func59 (by kernel_rfl) rfl #[.agg #[.int .i64 a0_0, .int .i64 a0_1, .slice A0_2 l0_2.length c0_2], .int .i64 (rd l1 x9_1)] rfl zi3 ?_; (with_reducible refine (impl_Board_has.calls k1 a0_0 a0_1 _ _ l0_2 (rd l1 x9_1) true _ ?side1 ?side2 A7.out).mono ?_); (case side1 => exact zi7); (case side2 => exact HC0_2.out); rintro e w15 ⟨rfl, hb⟩; refine ⟨_, rfl, ?_⟩; have n0_ := Aside0.mk (blk_below (g := gb285) (o := .cells #[.int .i64 a0_0, .int .i64 a0_1, .slice A0_2 l0_2.length c0_2] 31 (0, 0)) zi20 hb); have n1_ := Aside0.mk (below_step zi11 hb); clear BK285; clear HB; have BK285 := n0_; have HB := n1_; clear n0_ n1_; (try clear hb); (try clear hb2); (try clear hk); (try clear hi); (try clear hna_); (try clear hnb_); have p288 : 0 ≤ ((ji10) : Int) := of_decide_eq_true zi12; have q288 : (ji10) < (l1.length : Int) := of_decide_eq_true zi12; obtain ⟨ad288, e288, hx288_0⟩ := Kd.at_int HR1.out (ji10) p288 q288; obtain rfl : ad286 = ad288 := (by injection e288); (first | replace hx288_0 := (HB.out.cell (World.block_lt_of_cell? w _ hx288_0)).trans hx288_0 | skip); replace p288 := eq_true p288; replace q288 := eq_true q288))
    go_ret
    exact ⟨by first | rfl | (simp [errW_none, errW_some] <;> rfl) | (simp only [← hji10]; first | rfl | (simp [errW_none, errW_some] <;> rfl)) | (simp [*, errW_none, errW_some] <;> rfl), zi11⟩
   rw [if_neg c13] at H
   have c13b0 : decide ((rd l1 x9_1) ≤ (rd l1 (ji10))) = false := decide_eq_false c13
   clear c13
   have H' := Aside0.mk H
   clear H
   have p286 : 0 ≤ (x9_1 : Int) := of_decide_eq_true zi12
   have q286 : x9_1 < (l1.length : Int) := of_decide_eq_true zi12
   obtain ⟨ad286, e286, hx286_0⟩ := Kd.at_int HR1.out x9_1 p286 q286
   cases e286
   (first | replace hx286_0 := (HB.out.cell (World.block_lt_of_cell? w _ hx286_0)).trans hx286_0 | skip)
   replace p286 := eq_true p286
   replace q286 := eq_true q286
   have hcz16_0 : wr.cell? ⟨gb285, 0, none⟩ = some (.int .i64 a0_0) := (blk_cell BK285.out 0).trans rfl
   have hcz16_1 : wr.cell? ⟨gb285, 1, none⟩ = some (.int .i64 a0_1) := (blk_cell BK285.out 1).trans rfl
   have hcz16_2 : wr.cell? ⟨gb285, 2, none⟩ = some (.slice A0_2 l0_2.length c0_2) := (blk_cell BK285.out 2).trans rfl
   have hfz16_0 := blk_frozen BK285.out 0
   have hfz16_1 := blk_frozen BK285.out 1
   have hfz16_2 := blk_frozen BK285.out 2
   go_wp2_with (first | ((with_reducible refine gate_callee (f := 59) rfl ?_); refine goesL_ (some 16) rfl rfl Try.func59 (by kernel_rfl) rfl #[.agg #[.int .i64 a0_0, .int .i64 a0_1, .slice A0_2 l0_2.length c0_2], .int .i64 (rd l1 x9_1)] rfl zi3 ?_; (with_reducible refine (impl_Board_has.calls k1 a0_0 a0_1 _ _ l0_2 (rd l1 x9_1) true _ ?side1 ?side2 A7.out).mono ?_); (case side1 => exact zi7); (case side2 => exact HC0_2.out); rintro e w17 ⟨rfl, hb⟩; refine ⟨_, rfl, ?_⟩; have n0_ := Aside0.mk (blk_below (g := gb285) (o := .cells #[.int .i64 a0_0, .int .i64 a0_1, .slice A0_2 l0_2.length c0_2] 31 (0, 0)) zi20 hb); have n1_ := Aside0.mk (below_step zi11 hb); clear BK285; clear HB; have BK285 := n0_; have HB := n1_; clear n0_ n1_; (try clear hb); (try clear hb2); (try clear hk); (try clear hi); (try clear hna_); (try clear hnb_); have p288 : 0 ≤ ((ji10) : Int) := of_decide_eq_true zi12; have q288 : (ji10) < (l1.length : Int) := of_decide_eq_true zi12; obtain ⟨ad288, e288, hx288_0⟩ := Kd.at_int HR1.out (ji10) p288 q288; obtain rfl : ad286 = ad288 := (by injection e288); (first | replace hx288_0 := (HB.out.cell (World.block_lt_of_cell? w _ hx288_0)).trans hx288_0 | skip); replace p288 := eq_true p288; replace q288 := eq_true q288))
   go_roundg k1
   case measure => have := HK1.out; omega
   case rel => exact ⟨(wrap64 (x9_1 + 1)), zi25, H', ⟨by have := HK1.out; omega⟩, ⟨zi20⟩, ⟨zi11⟩⟩

/-! ### impl_setGraph: function 38 -/
def impl_setGraph.f (k : Nat) (a0_0 : Int) (a0_1 : Int) (l0_2 : List Int) (a1_0 : Int) (a1_1 : Int) (l2 : List Int) : Option (List Int × (List (List Int)) × Bool) := (impl_graphOf.f k a0_0 a0_1 l0_2 a1_0 a1_1).bind fun bt291 => (if bt291.2.2 = true then ((impl_Board_isSet.f k a0_0 a0_1 l0_2 l2).bind fun t300 => (if t300 = true then (some (bt291.1, bt291.2.1, true)) else (some (([] : List Int), ([] : List (List Int)), false)))) else (some (([] : List Int), ([] : List (List Int)), false)))
set_option maxHeartbeats 8000000 in
set_option maxRecDepth 100000 in
theorem impl_setGraph.calls (k : Nat) (a0_0 : Int) (a0_1 : Int) (A0_2 : Option Addr) (c0_2 : Nat) (l0_2 : List Int) (a1_0 : Int) (a1_1 : Int) (A2 : Option Addr) (c2 : Nat) (l2 : List Int) (r1 : List Int) (r2 : List (List Int)) (r3 : Bool) (w : World) (hr0_2 : Kd.C (Kd.int .i64) w A0_2 l0_2.length l0_2) (hc0_2 : l0_2.length ≤ c0_2) (hr2 : Kd.C (Kd.int .i64) w A2 l2.length l2) (hc2 : l2.length ≤ c2) (h : impl_setGraph.f k a0_0 a0_1 l0_2 a1_0 a1_1 l2 = some (r1, r2, r3)) :
  Calls Try.prog 38 #[.agg #[.int .i64 a0_0, .int .i64 a0_1, .slice A0_2 l0_2.length c0_2], .agg #[.int .i64 a1_0, .int .i64 a1_1], .slice A2 l2.length c2] w fun e w' => ∃ v0_ v1_ : Value, ∃ pv_ : Value, e = .returned (.tuple #[pv_, .bool r3]) ∧ GPT r3 pv_ w w' #[.int .i64 a0_0, .int .i64 a0_1, .slice A0_2 l0_2.length c0_2, .int .i64 a1_0, .int .i64 a1_1, v0_, v1_] ∧ Kd.R (Kd.int .i64) 3 w' w.heap.size (fun _ => True) v0_ r1 ∧ Kd.S (Kd.slice 3 (Kd.int .i64)) 22 w' w.heap.size (fun k_ => some k_ ≠ (v0_ : Value).ownBlock) v1_ r2 ∧ Below w.heap.size w w' := by
 have hu31 := Try.underlying31
 have hu33 := Try.underlying33
 have HR0_2 := Aside0.mk hr0_2
 have HC0_2 := Aside0.mk hc0_2
 clear hr0_2 hc0_2
 have HR2 := Aside0.mk hr2
 have HC2 := Aside0.mk hc2
 clear hr2 hc2
 have HB := Aside0.mk (Below.refl w.heap.size w)
 have H : ((impl_graphOf.f k a0_0 a0_1 l0_2 a1_0 a1_1).bind fun bt291 => (if bt291.2.2 = true then ((impl_Board_isSet.f k a0_0 a0_1 l0_2 l2).bind fun t300 => (if t300 = true then (some (bt291.1, bt291.2.1, true)) else (some (([] : List Int), ([] : List (List Int)), false)))) else (some (([] : List Int), ([] : List (List Int)), false)))) = some (r1, r2, r3) := h
 clear h
 replace H := Option.bind_eq_some_iff.mp H
 obtain ⟨⟨t291, t294, t299⟩, A40, H⟩ := H
 replace H : (if t299 = true then ((impl_Board_isSet.f k a0_0 a0_1 l0_2 l2).bind fun t300 => (if t300 = true then (some (t291, t294, true)) else (some (([] : List Int), ([] : List (List Int)), false)))) else (some (([] : List Int), ([] : List (List Int)), false))) = some (r1, r2, r3) := H
 have A4 := Aside0.mk A40
 clear A40
 by_cases c5 : t299 = true
 rotate_left
 ·replace c5 := Bool.eq_false_iff.mpr c5
  subst c5
  have H1 : (some (([] : List Int), ([] : List (List Int)), false)) = some (r1, r2, r3) := by rw [if_neg (show ¬ (false = true) by decide)] at H; exact H
  clear H
  have H := H1
  clear H1
  simp only [Option.some.injEq, Prod.mk.injEq] at H
  obtain ⟨rfl, rfl, rfl⟩ := H
  go_enter Try.func38, Try.ntmps38
  go_wp2_with (first | ((with_reducible refine gate_dst (N := 3) rfl ?_); refine box_event ?hg (N := 3) ?hd (cs := #[.int .i64 a0_0, .int .i64 a0_1, .slice A0_2 l0_2.length c0_2]) (t := 31) ?hr ?_; (case hd => rfl); (case hg => rfl); (case hr => first | (go_simp; done) | (go_simp; rfl)); intro gb289 hg w26 hbox hb; have n0_ := Aside0.mk (below_step zi4 hb); have n1_ := Aside0.mk (hbox); have n2_ := Aside0.mk ((zi43 : w.heap.size ≤ gb289)); have n3_ := Aside0.mk ((zi43 : w.heap.size ≤ gb289)); clear HB; have HB := n0_; have BK289 := n1_; have GW289 := n2_; have GE289 := n3_; clear n0_ n1_ n2_ n3_; clear hb hbox hg) | ((with_reducible refine gate_dst (N := 4) rfl ?_); refine box_event ?hg (N := 4) ?hd (cs := #[.int .i64 a1_0, .int .i64 a1_1]) (t := 33) ?hr ?_; (case hd => rfl); (case hg => rfl); (case hr => first | (go_simp; done) | (go_simp; rfl)); intro gb290 hg w27 hbox hb; have n0_ := Aside0.mk (blk_below (g := gb289) (o := .cells #[.int .i64 a0_0, .int .i64 a0_1, .slice A0_2 l0_2.length c0_2] 31 (0, 0)) zi9 hb); have n1_ := Aside0.mk (below_step zi14 hb); have n2_ := Aside0.mk (hbox); have n3_ := Aside0.mk ((zi48 : w.heap.size ≤ gb290)); have n4_ := Aside0.mk ((zi48 : w.heap.size ≤ gb290)); have n5_ := Aside0.mk ((zi45 : gb289 ≠ gb290)); have n6_ := Aside0.mk ((zi47 : gb290 ≠ gb289)); clear BK289; clear HB; have BK289 := n0_; have HB := n1_; have BK290 := n2_; have GW290 := n3_; have GE290 := n4_; have NB289_290 := n5_; have NB290_289 := n6_; clear n0_ n1_ n2_ n3_ n4_ n5_ n6_; clear hb hbox hg; have hnb28 := NB289_290.out; have hnc28 := NB290_289.out; have hcz29_0 : w27.cell? ⟨gb289, 0, none⟩ = some (.int .i64 a0_0) := (blk_cell BK289.out 0).trans rfl; have hcz29_1 : w27.cell? ⟨gb289, 1, none⟩ = some (.int .i64 a0_1) := (blk_cell BK289.out 1).trans rfl; have hcz29_2 : w27.cell? ⟨gb289, 2, none⟩ = some (.slice A0_2 l0_2.length c0_2) := (blk_cell BK289.out 2).trans rfl; have hfz29_0 := blk_frozen BK289.out 0; have hfz29_1 := blk_frozen BK289.out 1; have hfz29_2 := blk_frozen BK289.out 2; have hcz30_0 : w27.cell? ⟨gb290, 0, none⟩ = some (.int .i64 a1_0) := (blk_cell BK290.out 0).trans rfl; have hcz30_1 : w27.cell? ⟨gb290, 1, none⟩ = some (.int .i64 a1_1) := (blk_cell BK290.out 1).trans rfl; have hfz30_0 := blk_frozen BK290.out 0; have hfz30_1 := blk_frozen BK290.out 1) | ((with_reducible refine gate_callee (f := 31) rfl ?_); refine goesL_ (some 13) rfl rfl Try.func31 (by kernel_rfl) rfl #[.agg #[.int .i64 a0_0, .int .i64 a0_1, .slice A0_2 l0_2.length c0_2], .agg #[.int .i64 a1_0, .int .i64 a1_1]] rfl zi3 ?_; (with_reducible refine (impl_graphOf.calls k a0_0 a0_1 _ _ l0_2 a1_0 a1_1 t291 t294 false _ ?side1 ?side2 A4.out).mono ?_); (case side1 => exact zi7); (case side2 => exact HC0_2.out); rintro e w31 ⟨v292, v295, pv298, rfl, hgp, ho0, ho1, hb⟩; refine ⟨_, rfl, ?_⟩; obtain rfl := hgp.2 rfl; have n0_ := Aside0.mk (Kd.R_lower ho0 (below_size zi6)); have n1_ := Aside0.mk (Kd.S_lower ho1 (below_size zi6)); have n2_ := Aside0.mk (blk_below (g := gb289) (o := .cells #[.int .i64 a0_0, .int .i64 a0_1, .slice A0_2 l0_2.length c0_2] 31 (0, 0)) zi9 hb); have n3_ := Aside0.mk (blk_below (g := gb290) (o := .cells #[.int .i64 a1_0, .int .i64 a1_1] 33 (0, 0)) zi17 hb); have n4_ := Aside0.mk (below_step zi6 hb); clear BK289; clear BK290; clear HB; have HO293 := n0_; have HO296 := n1_; have BK289 := n2_; have BK290 := n3_; have HB := n4_; clear n0_ n1_ n2_ n3_ n4_; (try clear hb); (try clear hb2); (try clear hk); (try clear hi); (try clear ho0); (try clear ho1); (try clear hgp); (try clear hbox); (try clear hge); (try clear hna_); (try clear hnb_)))
  go_ret2
  exact ⟨_, _, _, zi23, ⟨(fun h_ => by cases h_), fun _ => rfl⟩, zi27, zi41, zi6⟩
 subst c5
 have H1 : ((impl_Board_isSet.f k a0_0 a0_1 l0_2 l2).bind fun t300 => (if t300 = true then (some (t291, t294, true)) else (some (([] : List Int), ([] : List (List Int)), false)))) = some (r1, r2, r3) := by rw [if_pos rfl] at H; exact H
 clear H
 have H := H1
 clear H1
 replace H := Option.bind_eq_some_iff.mp H
 obtain ⟨t300, A60, H⟩ := H
 replace H : (if t300 = true then (some (t291, t294, true)) else (some (([] : List Int), ([] : List (List Int)), false))) = some (r1, r2, r3) := H
 have A6 := Aside0.mk A60
 clear A60
 by_cases c7 : t300 = true
 ·subst c7
  have H1 : (some (t291, t294, true)) = some (r1, r2, r3) := by rw [if_pos rfl] at H; exact H
  clear H
  have H := H1
  clear H1
  simp only [Option.some.injEq, Prod.mk.injEq] at H
  obtain ⟨rfl, rfl, rfl⟩ := H
  go_enter Try.func38, Try.ntmps38
  go_wp2_with (first | ((with_reducible refine gate_dst (N := 3) rfl ?_); refine box_event ?hg (N := 3) ?hd (cs := #[.int .i64 a0_0, .int .i64 a0_1, .slice A0_2 l0_2.length c0_2]) (t := 31) ?hr ?_; (case hd => rfl); (case hg => rfl); (case hr => first | (go_simp; done) | (go_simp; rfl)); intro gb289 hg w8 hbox hb; have n0_ := Aside0.mk (below_step zi4 hb); have n1_ := Aside0.mk (hbox); have n2_ := Aside0.mk ((zi43 : w.heap.size ≤ gb289)); have n3_ := Aside0.mk ((zi43 : w.heap.size ≤ gb289)); clear HB; have HB := n0_; have BK289 := n1_; have GW289 := n2_; have GE289 := n3_; clear n0_ n1_ n2_ n3_; clear hb hbox hg) | ((with_reducible refine gate_dst (N := 4) rfl ?_); refine box_event ?hg (N := 4) ?hd (cs := #[.int .i64 a1_0, .int .i64 a1_1]) (t := 33) ?hr ?_; (case hd => rfl); (case hg => rfl); (case hr => first | (go_simp; done) | (go_simp; rfl)); intro gb290 hg w9 hbox hb; have n0_ := Aside0.mk (blk_below (g := gb289) (o := .cells #[.int .i64 a0_0, .int .i64 a0_1, .slice A0_2 l0_2.length c0_2] 31 (0, 0)) zi9 hb); have n1_ := Aside0.mk (below_step zi14 hb); have n2_ := Aside0.mk (hbox); have n3_ := Aside0.mk ((zi48 : w.heap.size ≤ gb290)); have n4_ := Aside0.mk ((zi48 : w.heap.size ≤ gb290)); have n5_ := Aside0.mk ((zi45 : gb289 ≠ gb290)); have n6_ := Aside0.mk ((zi47 : gb290 ≠ gb289)); clear BK289; clear HB; have BK289 := n0_; have HB := n1_; have BK290 := n2_; have GW290 := n3_; have GE290 := n4_; have NB289_290 := n5_; have NB290_289 := n6_; clear n0_ n1_ n2_ n3_ n4_ n5_ n6_; clear hb hbox hg; have hnb10 := NB289_290.out; have hnc10 := NB290_289.out; have hcz11_0 : w9.cell? ⟨gb289, 0, none⟩ = some (.int .i64 a0_0) := (blk_cell BK289.out 0).trans rfl; have hcz11_1 : w9.cell? ⟨gb289, 1, none⟩ = some (.int .i64 a0_1) := (blk_cell BK289.out 1).trans rfl; have hcz11_2 : w9.cell? ⟨gb289, 2, none⟩ = some (.slice A0_2 l0_2.length c0_2) := (blk_cell BK289.out 2).trans rfl; have hfz11_0 := blk_frozen BK289.out 0; have hfz11_1 := blk_frozen BK289.out 1; have hfz11_2 := blk_frozen BK289.out 2; have hcz12_0 : w9.cell? ⟨gb290, 0, none⟩ = some (.int .i64 a1_0) := (blk_cell BK290.out 0).trans rfl; have hcz12_1 : w9.cell? ⟨gb290, 1, none⟩ = some (.int .i64 a1_1) := (blk_cell BK290.out 1).trans rfl; have hfz12_0 := blk_frozen BK290.out 0; have hfz12_1 := blk_frozen BK290.out 1) | ((with_reducible refine gate_callee (f := 31) rfl ?_); refine goesL_ (some 13) rfl rfl Try.func31 (by kernel_rfl) rfl #[.agg #[.int .i64 a0_0, .int .i64 a0_1, .slice A0_2 l0_2.length c0_2], .agg #[.int .i64 a1_0, .int .i64 a1_1]] rfl zi3 ?_; (with_reducible refine (impl_graphOf.calls k a0_0 a0_1 _ _ l0_2 a1_0 a1_1 t291 t294 true _ ?side1 ?side2 A4.out).mono ?_); (case side1 => exact zi7); (case side2 => exact HC0_2.out); rintro e w13 ⟨v292, v295, pv298, rfl, hgp, ho0, ho1, hb⟩; refine ⟨_, rfl, ?_⟩; obtain ⟨gb297, rfl, hbox, hge⟩ := hgp.1 rfl; have n0_ := Aside0.mk (Kd.R_lower ho0 (below_size zi6)); have n1_ := Aside0.mk (Kd.S_lower ho1 (below_size zi6)); have n2_ := Aside0.mk (blk_below (g := gb289) (o := .cells #[.int .i64 a0_0, .int .i64 a0_1, .slice A0_2 l0_2.length c0_2] 31 (0, 0)) zi9 hb); have n3_ := Aside0.mk (blk_below (g := gb290) (o := .cells #[.int .i64 a1_0, .int .i64 a1_1] 33 (0, 0)) zi17 hb); have n4_ := Aside0.mk (hbox); have n5_ := Aside0.mk ((Nat.le_trans (by exact (below_size zi6)) hge : w.heap.size ≤ gb297)); have n6_ := Aside0.mk ((Nat.le_trans (by exact (below_size zi6)) hge : w.heap.size ≤ gb297)); have n7_ := Aside0.mk ((Nat.ne_of_lt (Nat.lt_of_lt_of_le (blk_lt (g := gb289) (o := .cells #[.int .i64 a0_0, .int .i64 a0_1, .slice A0_2 l0_2.length c0_2] 31 (0, 0)) zi9) hge) : gb289 ≠ gb297)); have n8_ := Aside0.mk ((Nat.ne_of_gt (Nat.lt_of_lt_of_le (blk_lt (g := gb289) (o := .cells #[.int .i64 a0_0, .int .i64 a0_1, .slice A0_2 l0_2.length c0_2] 31 (0, 0)) zi9) hge) : gb297 ≠ gb289)); have n9_ := Aside0.mk ((Nat.ne_of_lt (Nat.lt_of_lt_of_le (blk_lt (g := gb290) (o := .cells #[.int .i64 a1_0, .int .i64 a1_1] 33 (0, 0)) zi17) hge) : gb290 ≠ gb297)); have n10_ := Aside0.mk ((Nat.ne_of_gt (Nat.lt_of_lt_of_le (blk_lt (g := gb290) (o := .cells #[.int .i64 a1_0, .int .i64 a1_1] 33 (0, 0)) zi17) hge) : gb297 ≠ gb290)); have n11_ := Aside0.mk (below_step zi6 hb); clear BK289; clear BK290; clear HB; have HO293 := n0_; have HO296 := n1_; have BK289 := n2_; have BK290 := n3_; have BK297 := n4_; have GW297 := n5_; have GE297 := n6_; have NB289_297 := n7_; have NB297_289 := n8_; have NB290_297 := n9_; have NB297_290 := n10_; have HB := n11_; clear n0_ n1_ n2_ n3_ n4_ n5_ n6_ n7_ n8_ n9_ n10_ n11_; (try clear hb); (try clear hb2); (try clear hk); (try clear hi); (try clear ho0); (try clear ho1); (try clear hgp); (try clear hbox); (try clear hge); (try clear hna_); (try clear hnb_); have hnb14 := NB289_297.out; have hnc14 := NB297_289.out; have hcz15_0 : w13.cell? ⟨gb289, 0, none⟩ = some (.int .i64 a0_0) := (blk_cell BK289.out 0).trans rfl; have hcz15_1 : w13.cell? ⟨gb289, 1, none⟩ = some (.int .i64 a0_1) := (blk_cell BK289.out 1).trans rfl; have hcz15_2 : w13.cell? ⟨gb289, 2, none⟩ = some (.slice A0_2 l0_2.length c0_2) := (blk_cell BK289.out 2).trans rfl; have hfz15_0 := blk_frozen BK289.out 0; have hfz15_1 := blk_frozen BK289.out 1; have hfz15_2 := blk_frozen BK289.out 2) | (go_at_call 61; (with_reducible refine (impl_Board_isSet.calls k a0_0 a0_1 _ _ l0_2 _ _ l2 true _ ?side1 ?side2 ?side3 ?side4 A6.out).mono ?_); (case side1 => exact zi7); (case side2 => exact HC0_2.out); (case side3 => exact zi15); (case side4 => exact HC2.out); rintro e w16 ⟨rfl, hb⟩; have n0_ := Aside0.mk (Kd.R_below zi31 hb); have n1_ := Aside0.mk (Kd.S_below zi30 hb); have n2_ := Aside0.mk (blk_below (g := gb289) (o := .cells #[.int .i64 a0_0, .int .i64 a0_1, .slice A0_2 l0_2.length c0_2] 31 (0, 0)) zi9 hb); have n3_ := Aside0.mk (blk_below (g := gb290) (o := .cells #[.int .i64 a1_0, .int .i64 a1_1] 33 (0, 0)) zi17 hb); have n4_ := Aside0.mk (blk_below (g := gb297) (o := .cells #[.int .i64 a0_0, .int .i64 a0_1, .slice A0_2 l0_2.length c0_2, .int .i64 a1_0, .int .i64 a1_1, v292, v295] 59 (0, 0)) zi29 hb); have n5_ := Aside0.mk (below_step zi21 hb); clear HO293; clear HO296; clear BK289; clear BK290; clear BK297; clear HB; have HO293 := n0_; have HO296 := n1_; have BK289 := n2_; have BK290 := n3_; have BK297 := n4_; have HB := n5_; clear n0_ n1_ n2_ n3_ n4_ n5_; (try clear hb); (try clear hb2); (try clear hk); (try clear hi); (try clear hna_); (try clear hnb_)))
  go_ret2
  exact ⟨_, _, _, zi23, ⟨fun _ => ⟨_, rfl, zi29, GW297.out⟩, (fun h_ => by cases h_)⟩, zi31, zi30, zi21⟩
 replace c7 := Bool.eq_false_iff.mpr c7
 subst c7
 have H1 : (some (([] : List Int), ([] : List (List Int)), false)) = some (r1, r2, r3) := by rw [if_neg (show ¬ (false = true) by decide)] at H; exact H
 clear H
 have H := H1
 clear H1
 simp only [Option.some.injEq, Prod.mk.injEq] at H
 obtain ⟨rfl, rfl, rfl⟩ := H
 go_enter Try.func38, Try.ntmps38
 go_wp2_with (first | ((with_reducible refine gate_dst (N := 3) rfl ?_); refine box_event ?hg (N := 3) ?hd (cs := #[.int .i64 a0_0, .int .i64 a0_1, .slice A0_2 l0_2.length c0_2]) (t := 31) ?hr ?_; (case hd => rfl); (case hg => rfl); (case hr => first | (go_simp; done) | (go_simp; rfl)); intro gb289 hg w17 hbox hb; have n0_ := Aside0.mk (below_step zi4 hb); have n1_ := Aside0.mk (hbox); have n2_ := Aside0.mk ((zi43 : w.heap.size ≤ gb289)); have n3_ := Aside0.mk ((zi43 : w.heap.size ≤ gb289)); clear HB; have HB := n0_; have BK289 := n1_; have GW289 := n2_; have GE289 := n3_; clear n0_ n1_ n2_ n3_; clear hb hbox hg) | ((with_reducible refine gate_dst (N := 4) rfl ?_); refine box_event ?hg (N := 4) ?hd (cs := #[.int .i64 a1_0, .int .i64 a1_1]) (t := 33) ?hr ?_; (case hd => rfl); (case hg => rfl); (case hr => first | (go_simp; done) | (go_simp; rfl)); intro gb290 hg w18 hbox hb; have n0_ := Aside0.mk (blk_below (g := gb289) (o := .cells #[.int .i64 a0_0, .int .i64 a0_1, .slice A0_2 l0_2.length c0_2] 31 (0, 0)) zi9 hb); have n1_ := Aside0.mk (below_step zi14 hb); have n2_ := Aside0.mk (hbox); have n3_ := Aside0.mk ((zi48 : w.heap.size ≤ gb290)); have n4_ := Aside0.mk ((zi48 : w.heap.size ≤ gb290)); have n5_ := Aside0.mk ((zi45 : gb289 ≠ gb290)); have n6_ := Aside0.mk ((zi47 : gb290 ≠ gb289)); clear BK289; clear HB; have BK289 := n0_; have HB := n1_; have BK290 := n2_; have GW290 := n3_; have GE290 := n4_; have NB289_290 := n5_; have NB290_289 := n6_; clear n0_ n1_ n2_ n3_ n4_ n5_ n6_; clear hb hbox hg; have hnb19 := NB289_290.out; have hnc19 := NB290_289.out; have hcz20_0 : w18.cell? ⟨gb289, 0, none⟩ = some (.int .i64 a0_0) := (blk_cell BK289.out 0).trans rfl; have hcz20_1 : w18.cell? ⟨gb289, 1, none⟩ = some (.int .i64 a0_1) := (blk_cell BK289.out 1).trans rfl; have hcz20_2 : w18.cell? ⟨gb289, 2, none⟩ = some (.slice A0_2 l0_2.length c0_2) := (blk_cell BK289.out 2).trans rfl; have hfz20_0 := blk_frozen BK289.out 0; have hfz20_1 := blk_frozen BK289.out 1; have hfz20_2 := blk_frozen BK289.out 2; have hcz21_0 : w18.cell? ⟨gb290, 0, none⟩ = some (.int .i64 a1_0) := (blk_cell BK290.out 0).trans rfl; have hcz21_1 : w18.cell? ⟨gb290, 1, none⟩ = some (.int .i64 a1_1) := (blk_cell BK290.out 1).trans rfl; have hfz21_0 := blk_frozen BK290.out 0; have hfz21_1 := blk_frozen BK290.out 1) | ((with_reducible refine gate_callee (f := 31) rfl ?_); refine goesL_ (some 13) rfl rfl Try.func31 (by kernel_rfl) rfl #[.agg #[.int .i64 a0_0, .int .i64 a0_1, .slice A0_2 l0_2.length c0_2], .agg #[.int .i64 a1_0, .int .i64 a1_1]] rfl zi3 ?_; (with_reducible refine (impl_graphOf.calls k a0_0 a0_1 _ _ l0_2 a1_0 a1_1 t291 t294 true _ ?side1 ?side2 A4.out).mono ?_); (case side1 => exact zi7); (case side2 => exact HC0_2.out); rintro e w22 ⟨v292, v295, pv298, rfl, hgp, ho0, ho1, hb⟩; refine ⟨_, rfl, ?_⟩; obtain ⟨gb297, rfl, hbox, hge⟩ := hgp.1 rfl; have n0_ := Aside0.mk (Kd.R_lower ho0 (below_size zi6)); have n1_ := Aside0.mk (Kd.S_lower ho1 (below_size zi6)); have n2_ := Aside0.mk (blk_below (g := gb289) (o := .cells #[.int .i64 a0_0, .int .i64 a0_1, .slice A0_2 l0_2.length c0_2] 31 (0, 0)) zi9 hb); have n3_ := Aside0.mk (blk_below (g := gb290) (o := .cells #[.int .i64 a1_0, .int .i64 a1_1] 33 (0, 0)) zi17 hb); have n4_ := Aside0.mk (hbox); have n5_ := Aside0.mk ((Nat.le_trans (by exact (below_size zi6)) hge : w.heap.size ≤ gb297)); have n6_ := Aside0.mk ((Nat.le_trans (by exact (below_size zi6)) hge : w.heap.size ≤ gb297)); have n7_ := Aside0.mk ((Nat.ne_of_lt (Nat.lt_of_lt_of_le (blk_lt (g := gb289) (o := .cells #[.int .i64 a0_0, .int .i64 a0_1, .slice A0_2 l0_2.length c0_2] 31 (0, 0)) zi9) hge) : gb289 ≠ gb297)); have n8_ := Aside0.mk ((Nat.ne_of_gt (Nat.lt_of_lt_of_le (blk_lt (g := gb289) (o := .cells #[.int .i64 a0_0, .int .i64 a0_1, .slice A0_2 l0_2.length c0_2] 31 (0, 0)) zi9) hge) : gb297 ≠ gb289)); have n9_ := Aside0.mk ((Nat.ne_of_lt (Nat.lt_of_lt_of_le (blk_lt (g := gb290) (o := .cells #[.int .i64 a1_0, .int .i64 a1_1] 33 (0, 0)) zi17) hge) : gb290 ≠ gb297)); have n10_ := Aside0.mk ((Nat.ne_of_gt (Nat.lt_of_lt_of_le (blk_lt (g := gb290) (o := .cells #[.int .i64 a1_0, .int .i64 a1_1] 33 (0, 0)) zi17) hge) : gb297 ≠ gb290)); have n11_ := Aside0.mk (below_step zi6 hb); clear BK289; clear BK290; clear HB; have HO293 := n0_; have HO296 := n1_; have BK289 := n2_; have BK290 := n3_; have BK297 := n4_; have GW297 := n5_; have GE297 := n6_; have NB289_297 := n7_; have NB297_289 := n8_; have NB290_297 := n9_; have NB297_290 := n10_; have HB := n11_; clear n0_ n1_ n2_ n3_ n4_ n5_ n6_ n7_ n8_ n9_ n10_ n11_; (try clear hb); (try clear hb2); (try clear hk); (try clear hi); (try clear ho0); (try clear ho1); (try clear hgp); (try clear hbox); (try clear hge); (try clear hna_); (try clear hnb_); have hnb23 := NB289_297.out; have hnc23 := NB297_289.out; have hcz24_0 : w22.cell? ⟨gb289, 0, none⟩ = some (.int .i64 a0_0) := (blk_cell BK289.out 0).trans rfl; have hcz24_1 : w22.cell? ⟨gb289, 1, none⟩ = some (.int .i64 a0_1) := (blk_cell BK289.out 1).trans rfl; have hcz24_2 : w22.cell? ⟨gb289, 2, none⟩ = some (.slice A0_2 l0_2.length c0_2) := (blk_cell BK289.out 2).trans rfl; have hfz24_0 := blk_frozen BK289.out 0; have hfz24_1 := blk_frozen BK289.out 1; have hfz24_2 := blk_frozen BK289.out 2) | (go_at_call 61; (with_reducible refine (impl_Board_isSet.calls k a0_0 a0_1 _ _ l0_2 _ _ l2 false _ ?side1 ?side2 ?side3 ?side4 A6.out).mono ?_); (case side1 => exact zi7); (case side2 => exact HC0_2.out); (case side3 => exact zi15); (case side4 => exact HC2.out); rintro e w25 ⟨rfl, hb⟩; have n0_ := Aside0.mk (Kd.R_below zi31 hb); have n1_ := Aside0.mk (Kd.S_below zi30 hb); have n2_ := Aside0.mk (blk_below (g := gb289) (o := .cells #[.int .i64 a0_0, .int .i64 a0_1, .slice A0_2 l0_2.length c0_2] 31 (0, 0)) zi9 hb); have n3_ := Aside0.mk (blk_below (g := gb290) (o := .cells #[.int .i64 a1_0, .int .i64 a1_1] 33 (0, 0)) zi17 hb); have n4_ := Aside0.mk (blk_below (g := gb297) (o := .cells #[.int .i64 a0_0, .int .i64 a0_1, .slice A0_2 l0_2.length c0_2, .int .i64 a1_0, .int .i64 a1_1, v292, v295] 59 (0, 0)) zi29 hb); have n5_ := Aside0.mk (below_step zi21 hb); clear HO293; clear HO296; clear BK289; clear BK290; clear BK297; clear HB; have HO293 := n0_; have HO296 := n1_; have BK289 := n2_; have BK290 := n3_; have BK297 := n4_; have HB := n5_; clear n0_ n1_ n2_ n3_ n4_ n5_; (try clear hb); (try clear hb2); (try clear hk); (try clear hi); (try clear hna_); (try clear hnb_)))
 go_ret2
 exact ⟨_, _, _, zi23, ⟨(fun h_ => by cases h_), fun _ => rfl⟩, zi27, zi41, zi21⟩

/-! ### impl_graph_leaps: function 62 -/
def impl_graph_leaps.f (k : Nat) (a0_0 : Int) (a0_1 : Int) (l0_2 : List Int) (a0_3 : Int) (a0_4 : Int) (l0_5 : List Int) (l0_6 : List (List Int)) (a1 : Int) (a2 : Int) : Option (Bool) := if 0 ≤ a1 then (if a1 < (l0_6.length : Int) then ((slices_Contains_int_int.f k (rd_L1 l0_6 a1) a2).bind fun t302 => (some t302)) else (none)) else (none)
set_option maxHeartbeats 8000000 in
set_option maxRecDepth 100000 in
theorem impl_graph_leaps.calls (k : Nat) (gb0 : Nat) (a0_0 : Int) (a0_1 : Int) (A0_2 : Option Addr) (c0_2 : Nat) (l0_2 : List Int) (a0_3 : Int) (a0_4 : Int) (A0_5 : Option Addr) (c0_5 : Nat) (l0_5 : List Int) (A0_6 : Option Addr) (c0_6 : Nat) (l0_6 : List (List Int)) (a1 : Int) (a2 : Int) (r : Bool) (w : World) (hg0 : w.heap[gb0]? = some (.cells #[.int .i64 a0_0, .int .i64 a0_1, .slice A0_2 l0_2.length c0_2, .int .i64 a0_3, .int .i64 a0_4, .slice A0_5 l0_5.length c0_5, .slice A0_6 l0_6.length c0_6] 59 (0, 0))) (hr0_2 : Kd.C (Kd.int .i64) w A0_2 l0_2.length l0_2) (hc0_2 : l0_2.length ≤ c0_2) (hr0_5 : Kd.C (Kd.int .i64) w A0_5 l0_5.length l0_5) (hc0_5 : l0_5.length ≤ c0_5) (hr0_6 : Kd.C (Kd.slice 3 (Kd.int .i64)) w A0_6 l0_6.length l0_6) (hc0_6 : l0_6.length ≤ c0_6) (h : impl_graph_leaps.f k a0_0 a0_1 l0_2 a0_3 a0_4 l0_5 l0_6 a1 a2 = some r) :
  Calls Try.prog 62 #[.pointer (some ⟨gb0, 0, none⟩), .int .i64 a1, .int .i64 a2] w fun e w' => e = .returned (.bool r) ∧ Drawn0 w w' := by
 have HR0_2 := Aside0.mk hr0_2
 have HC0_2 := Aside0.mk hc0_2
 clear hr0_2 hc0_2
 have HR0_5 := Aside0.mk hr0_5
 have HC0_5 := Aside0.mk hc0_5
 clear hr0_5 hc0_5
 have HR0_6 := Aside0.mk hr0_6
 have HC0_6 := Aside0.mk hc0_6
 clear hr0_6 hc0_6
 have BK0 := Aside0.mk hg0
 clear hg0
 have H : (if 0 ≤ a1 then (if a1 < (l0_6.length : Int) then ((slices_Contains_int_int.f k (rd_L1 l0_6 a1) a2).bind fun t302 => (some t302)) else (none)) else (none)) = some r := h
 clear h
 by_cases c4 : 0 ≤ a1
 rotate_left
 ·rw [if_neg c4] at H
  exact absurd H (by simp)
 rw [if_pos c4] at H
 have c4b0 : decide (0 ≤ a1) = true := decide_eq_true c4
 clear c4
 by_cases c5 : a1 < (l0_6.length : Int)
 rotate_left
 ·rw [if_neg c5] at H
  exact absurd H (by simp)
 rw [if_pos c5] at H
 have c5b0 : decide (a1 < (l0_6.length : Int)) = true := decide_eq_true c5
 clear c5
 replace H := Option.bind_eq_some_iff.mp H
 obtain ⟨t302, A60, H⟩ := H
 replace H : (some t302) = some r := H
 have A6 := Aside0.mk A60
 clear A60
 obtain rfl := Option.some.inj H
 have hcz7_0 : w.cell? ⟨gb0, 0, none⟩ = some (.int .i64 a0_0) := (blk_cell BK0.out 0).trans rfl
 have hcz7_1 : w.cell? ⟨gb0, 1, none⟩ = some (.int .i64 a0_1) := (blk_cell BK0.out 1).trans rfl
 have hcz7_2 : w.cell? ⟨gb0, 2, none⟩ = some (.slice A0_2 l0_2.length c0_2) := (blk_cell BK0.out 2).trans rfl
 have hcz7_3 : w.cell? ⟨gb0, 3, none⟩ = some (.int .i64 a0_3) := (blk_cell BK0.out 3).trans rfl
 have hcz7_4 : w.cell? ⟨gb0, 4, none⟩ = some (.int .i64 a0_4) := (blk_cell BK0.out 4).trans rfl
 have hcz7_5 : w.cell? ⟨gb0, 5, none⟩ = some (.slice A0_5 l0_5.length c0_5) := (blk_cell BK0.out 5).trans rfl
 have hcz7_6 : w.cell? ⟨gb0, 6, none⟩ = some (.slice A0_6 l0_6.length c0_6) := (blk_cell BK0.out 6).trans rfl
 have hfz7_0 := blk_frozen BK0.out 0
 have hfz7_1 := blk_frozen BK0.out 1
 have hfz7_2 := blk_frozen BK0.out 2
 have hfz7_3 := blk_frozen BK0.out 3
 have hfz7_4 := blk_frozen BK0.out 4
 have hfz7_5 := blk_frozen BK0.out 5
 have hfz7_6 := blk_frozen BK0.out 6
 have p301 : 0 ≤ (a1 : Int) := of_decide_eq_true zi12
 have q301 : a1 < (l0_6.length : Int) := of_decide_eq_true zi12
 obtain ⟨ad301, A301_0, c301_0, e301, hx301_0, hl301_0, hi301_0⟩ := at_L1 HR0_6.out a1 p301 q301
 cases e301
 have HR301_0 := Aside0.mk hi301_0
 have HC301_0 := Aside0.mk hl301_0
 clear hi301_0 hl301_0
 replace p301 := eq_true p301
 replace q301 := eq_true q301
 go_enter Try.func62, Try.ntmps62
 go_wp2_with (first | ((with_reducible refine gate_callee (f := 41) rfl ?_); refine goesL_ (some 15) rfl rfl Try.func41 (by kernel_rfl) rfl #[.slice A301_0 (rd_L1 l0_6 a1).length c301_0, .int .i64 a2] rfl zi3 ?_; (with_reducible refine (slices_Contains_int_int.calls k _ _ (rd_L1 l0_6 a1) a2 t302 _ ?side1 ?side2 A6.out).mono ?_); (case side1 => repeat (first | exact HR301_0.out | (with_reducible refine Kd.C_alloc ?_ _) | (with_reducible refine Kd.C_drewN ?_ _) | (with_reducible refine Kd.C_drew ?_))); (case side2 => exact HC301_0.out); rintro e w' ⟨rfl, ⟨nd, rfl⟩⟩; refine ⟨_, rfl, ?_⟩))
 go_ret
 exact ⟨zi25, zi28⟩

/-! ### impl_graph_peaceful: function 39 -/
mutual
def impl_graph_peaceful.l0 : Nat → List Int → List Int → Int → Int → Int → Int → List Int → Int → Int → List Int → List (List Int) → Option (Bool)
 | 0, _, _, _, _, _, _, _, _, _, _, _ => none
 | k + 1, x1, x9, x10, x11, x1000, x1001, x1002, x1003, x1004, x1005, x1006 => if x11 < x10 then (if 0 ≤ x11 then (if x11 < (x9.length : Int) then (if x11 ≤ (x1.length : Int) then (impl_graph_peaceful.l1 k x1 (rd x9 x11) x9 x10 x11 (x1.take (x11 : Int).toNat) ((x1.take (x11 : Int).toNat).length : Int) 0 x1000 x1001 x1002 x1003 x1004 x1005 x1006) else (none)) else (none)) else (none)) else (some true)
def impl_graph_peaceful.l1 : Nat → List Int → Int → List Int → Int → Int → List Int → Int → Int → Int → Int → List Int → Int → Int → List Int → List (List Int) → Option (Bool)
 | 0, _, _, _, _, _, _, _, _, _, _, _, _, _, _, _ => none
 | k + 1, x1, x6, x9, x10, x11, x18, x19, x20, x1000, x1001, x1002, x1003, x1004, x1005, x1006 => if x20 < x19 then (if 0 ≤ x20 then (if x20 < (x18.length : Int) then ((impl_graph_leaps.f k x1000 x1001 x1002 x1003 x1004 x1005 x1006 x6 (rd x18 x20)).bind fun t306 => (if t306 = true then (some false) else (impl_graph_peaceful.l1 k x1 x6 x9 x10 x11 x18 x19 (wrap64 (x20 + 1)) x1000 x1001 x1002 x1003 x1004 x1005 x1006))) else (none)) else (none)) else (impl_graph_peaceful.l0 k x1 x9 x10 (wrap64 (x11 + 1)) x1000 x1001 x1002 x1003 x1004 x1005 x1006)
end
def impl_graph_peaceful.f (k : Nat) (a0_0 : Int) (a0_1 : Int) (l0_2 : List Int) (a0_3 : Int) (a0_4 : Int) (l0_5 : List Int) (l0_6 : List (List Int)) (l1 : List Int) : Option (Bool) := impl_graph_peaceful.l0 k l1 l1 (l1.length : Int) 0 a0_0 a0_1 l0_2 a0_3 a0_4 l0_5 l0_6
set_option maxHeartbeats 8000000 in
set_option maxRecDepth 100000 in
theorem impl_graph_peaceful.calls (k : Nat) (gb0 : Nat) (a0_0 : Int) (a0_1 : Int) (A0_2 : Option Addr) (c0_2 : Nat) (l0_2 : List Int) (a0_3 : Int) (a0_4 : Int) (A0_5 : Option Addr) (c0_5 : Nat) (l0_5 : List Int) (A0_6 : Option Addr) (c0_6 : Nat) (l0_6 : List (List Int)) (A1 : Option Addr) (c1 : Nat) (l1 : List Int) (r : Bool) (w : World) (hg0 : w.heap[gb0]? = some (.cells #[.int .i64 a0_0, .int .i64 a0_1, .slice A0_2 l0_2.length c0_2, .int .i64 a0_3, .int .i64 a0_4, .slice A0_5 l0_5.length c0_5, .slice A0_6 l0_6.length c0_6] 59 (0, 0))) (hr0_2 : Kd.C (Kd.int .i64) w A0_2 l0_2.length l0_2) (hc0_2 : l0_2.length ≤ c0_2) (hr0_5 : Kd.C (Kd.int .i64) w A0_5 l0_5.length l0_5) (hc0_5 : l0_5.length ≤ c0_5) (hr0_6 : Kd.C (Kd.slice 3 (Kd.int .i64)) w A0_6 l0_6.length l0_6) (hc0_6 : l0_6.length ≤ c0_6) (hr1 : Kd.C (Kd.int .i64) w A1 l1.length l1) (hc1 : l1.length ≤ c1) (h : impl_graph_peaceful.f k a0_0 a0_1 l0_2 a0_3 a0_4 l0_5 l0_6 l1 = some r) :
  Calls Try.prog 39 #[.pointer (some ⟨gb0, 0, none⟩), .slice A1 l1.length c1] w fun e w' => e = .returned (.bool r) ∧ Drawn0 w w' := by
 have HR0_2 := Aside0.mk hr0_2
 have HC0_2 := Aside0.mk hc0_2
 clear hr0_2 hc0_2
 have HR0_5 := Aside0.mk hr0_5
 have HC0_5 := Aside0.mk hc0_5
 clear hr0_5 hc0_5
 have HR0_6 := Aside0.mk hr0_6
 have HC0_6 := Aside0.mk hc0_6
 clear hr0_6 hc0_6
 have HR1 := Aside0.mk hr1
 have HC1 := Aside0.mk hc1
 clear hr1 hc1
 have BK0 := Aside0.mk hg0
 clear hg0
 have H : (impl_graph_peaceful.l0 k l1 l1 (l1.length : Int) 0 a0_0 a0_1 l0_2 a0_3 a0_4 l0_5 l0_6) = some r := h
 clear h
 have H' := Aside0.mk H
 clear H
 go_enter Try.func39, Try.ntmps39
 go_wp2
 go_loopg [11] k (fun kq v11 w' => ∃ (x11_1 : Int), v11 = .int .i64 x11_1 ∧ Aside0 (impl_graph_peaceful.l0 kq l1 l1 (l1.length : Int) x11_1 a0_0 a0_1 l0_2 a0_3 a0_4 l0_5 l0_6 = some r) ∧ Aside0 (kq ≤ k) ∧ Aside0 (w'.heap[gb0]? = some (.cells #[.int .i64 a0_0, .int .i64 a0_1, (.slice A0_2 l0_2.length c0_2), .int .i64 a0_3, .int .i64 a0_4, (.slice A0_5 l0_5.length c0_5), (.slice A0_6 l0_6.length c0_6)] 59 (0, 0))) ∧ Drawn0 w w')
 case atStart => exact ⟨(0), zi25, H', ⟨Nat.le_refl _⟩, ⟨zi24⟩, zi28⟩
 case round =>
  clear H'
  try clear c1; try clear p2
  obtain ⟨x11_1, rfl, HA, HK1, BK0, ⟨m1, rfl⟩⟩ := hrel
  cases gk with
  | zero => exact absurd HA.out (by simp [impl_graph_peaceful.l0])
  | succ k1 =>
   have H := HA.out
   clear HA
   simp only [impl_graph_peaceful.l0] at H
   by_cases c3 : x11_1 < (l1.length : Int)
   rotate_left
   ·rw [if_neg c3] at H
    have c3b0 : decide (x11_1 < (l1.length : Int)) = false := decide_eq_false c3
    clear c3
    obtain rfl := Option.some.inj H
    go_wp2
    go_ret
    exact ⟨zi25, zi28⟩
   rw [if_pos c3] at H
   have c3b0 : decide (x11_1 < (l1.length : Int)) = true := decide_eq_true c3
   clear c3
   by_cases c4 : 0 ≤ x11_1
   rotate_left
   ·rw [if_neg c4] at H
    exact absurd H (by simp)
   rw [if_pos c4] at H
   have c4b0 : decide (0 ≤ x11_1) = true := decide_eq_true c4
   clear c4
   by_cases c5 : x11_1 < (l1.length : Int)
   rotate_left
   ·rw [if_neg c5] at H
    exact absurd H (by simp)
   rw [if_pos c5] at H
   have c5b0 : decide (x11_1 < (l1.length : Int)) = true := decide_eq_true c5
   clear c5
   have c6b0 := eq_true (of_decide_eq_true zi12 : 0 ≤ x11_1)
   by_cases c7 : x11_1 ≤ (l1.length : Int)
   rotate_left
   ·rw [if_neg c7] at H
    exact absurd H (by simp)
   rw [if_pos c7] at H
   have c7b0 := eq_true c7
   have c7b1 : decide (x11_1 ≤ (l1.length : Int)) = true := decide_eq_true c7
   clear c7
   have H' := Aside0.mk H
   clear H
   have p303 : 0 ≤ (x11_1 : Int) := of_decide_eq_true zi12
   have q303 : x11_1 < (l1.length : Int) := of_decide_eq_true zi12
   obtain ⟨ad303, e303, hx303_0⟩ := Kd.at_int HR1.out x11_1 p303 q303
   cases e303
   replace p303 := eq_true p303
   replace q303 := eq_true q303
   obtain ⟨i08, hi08, _, hsz8, _⟩ := info_parts info3
   obtain ⟨hcut8, hA8, hC8⟩ := print_take_of (P := Try.prog) (Value.int .i64) 0 22 3 .i64 Try.underlying22 hi08 hsz8 (some ad303) c1 l1 x11_1 (of_decide_eq_true zi12) (of_decide_eq_true zi12) HC1.out
   have HR304 := Aside0.mk (Kd.C_of_reads (h1 := fun _ => rfl) (hA8 _ (Kd.reads_of_C HR1.out)))
   have HC304 := Aside0.mk hC8
   clear hA8 hC8 hi08 hsz8
   have hcl8 := Aside0.mk (show (l1.take (x11_1 : Int).toNat).length = x11_1.toNat from (by rw [List.length_take]; have h_ : (x11_1 : Int) ≤ (l1.length : Int) := of_decide_eq_true zi12; omega))
   go_wp2
   go_loopg [20] k1 (fun kq v20 w' => ∃ (x20_2 : Int), v20 = .int .i64 x20_2 ∧ Aside0 (impl_graph_peaceful.l1 kq l1 (rd l1 x11_1) l1 (l1.length : Int) x11_1 (l1.take (x11_1 : Int).toNat) ((l1.take (x11_1 : Int).toNat).length : Int) x20_2 a0_0 a0_1 l0_2 a0_3 a0_4 l0_5 l0_6 = some r) ∧ Aside0 (kq ≤ k1) ∧ Aside0 (w'.heap[gb0]? = some (.cells #[.int .i64 a0_0, .int .i64 a0_1, (.slice A0_2 l0_2.length c0_2), .int .i64 a0_3, .int .i64 a0_4, (.slice A0_5 l0_5.length c0_5), (.slice A0_6 l0_6.length c0_6)] 59 (0, 0))) ∧ Drawn0 w w')
   case atStart => exact ⟨(0), zi25, H', ⟨Nat.le_refl _⟩, ⟨zi24⟩, zi28⟩
   case round =>
    clear H'
    try clear c1; try clear p2; try clear c3; try clear c3b0; try clear p3; try clear q3; try clear hx3; try clear c4; try clear c4b0; try clear c5; try clear c5b0; try clear c6; try clear c6b0; try clear c7; try clear c7b0; try clear c7b1; try clear hx303_0; try clear p2; try clear p303; try clear q303
    obtain ⟨x20_2, rfl, HA, HK2, BK0, ⟨m2, rfl⟩⟩ := hrel
    cases gk with
    | zero => exact absurd HA.out (by simp [impl_graph_peaceful.l1])
    | succ k2 =>
     have H := HA.out
     clear HA
     simp only [impl_graph_peaceful.l1] at H
     by_cases c9 : x20_2 < ((l1.take (x11_1 : Int).toNat).length : Int)
     rotate_left
     ·rw [if_neg c9] at H
      have c9b0 : decide (x20_2 < ((l1.take (x11_1 : Int).toNat).length : Int)) = false := decide_eq_false c9
      have c9b8 := c9b0
      (try simp only [hcl8.out] at c9b8)
      have c9b7 := c9b8
      (try simp only [Int.ofNat_toNat] at c9b7)
      (try have c9b6 := eq_true (of_decide_eq_true c9b7))
      clear c9
      have H' := Aside0.mk H
      clear H
      go_wp2
      go_roundg k2
      case measure => have := HK1.out; have := HK2.out; omega
      case rel => exact ⟨(wrap64 (x11_1 + 1)), zi25, H', ⟨by have := HK1.out; have := HK2.out; omega⟩, ⟨zi24⟩, zi28⟩
     rw [if_pos c9] at H
     have c9b0 : decide (x20_2 < ((l1.take (x11_1 : Int).toNat).length : Int)) = true := decide_eq_true c9
     have c9b8 := c9b0
     (try simp only [hcl8.out] at c9b8)
     have c9b7 := c9b8
     (try simp only [Int.ofNat_toNat] at c9b7)
     (try have c9b6 := eq_true (of_decide_eq_true c9b7))
     clear c9
     by_cases c10 : 0 ≤ x20_2
     rotate_left
     ·rw [if_neg c10] at H
      exact absurd H (by simp)
     rw [if_pos c10] at H
     have c10b0 : decide (0 ≤ x20_2) = true := decide_eq_true c10
     clear c10
     by_cases c11 : x20_2 < ((l1.take (x11_1 : Int).toNat).length : Int)
     rotate_left
     ·rw [if_neg c11] at H
      exact absurd H (by simp)
     rw [if_pos c11] at H
     have c11b0 : decide (x20_2 < ((l1.take (x11_1 : Int).toNat).length : Int)) = true := decide_eq_true c11
     have c11b8 := c11b0
     (try simp only [hcl8.out] at c11b8)
     have c11b7 := c11b8
     (try simp only [Int.ofNat_toNat] at c11b7)
     (try have c11b6 := eq_true (of_decide_eq_true c11b7))
     clear c11
     replace H := Option.bind_eq_some_iff.mp H
     obtain ⟨t306, A120, H⟩ := H
     replace H : (if t306 = true then (some false) else (impl_graph_peaceful.l1 k2 l1 (rd l1 x11_1) l1 (l1.length : Int) x11_1 (l1.take (x11_1 : Int).toNat) ((l1.take (x11_1 : Int).toNat).length : Int) (wrap64 (x20_2 + 1)) a0_0 a0_1 l0_2 a0_3 a0_4 l0_5 l0_6)) = some r := H
     have A12 := Aside0.mk A120
     clear A120
     by_cases c13 : t306 = true
     ·subst c13
      have H1 : (some false) = some r := by rw [if_pos rfl] at H; exact H
      clear H
      have H := H1
      clear H1
      obtain rfl := Option.some.inj H
      have p305 : 0 ≤ (x20_2 : Int) := of_decide_eq_true zi12
      have q305 : x20_2 < ((l1.take (x11_1 : Int).toNat).length : Int) := of_decide_eq_true zi12
      obtain ⟨ad305, e305, hx305_0⟩ := Kd.at_int HR304.out x20_2 p305 q305
      obtain rfl : ad303 = ad305 := (by injection e305)
      replace p305 := eq_true p305
      replace q305 := eq_true q305
      go_wp2_with (first | ((with_reducible refine gate_callee (f := 62) rfl ?_); refine goesL_ (some 27) rfl rfl Try.func62 (by kernel_rfl) rfl #[.pointer (some ⟨gb0, 0, none⟩), .int .i64 (rd l1 x11_1), .int .i64 (rd (l1.take (x11_1 : Int).toNat) x20_2)] rfl zi3 ?_; (with_reducible refine (impl_graph_leaps.calls k2 gb0 a0_0 a0_1 A0_2 c0_2 l0_2 a0_3 a0_4 A0_5 c0_5 l0_5 A0_6 c0_6 l0_6 (rd l1 x11_1) (rd (l1.take (x11_1 : Int).toNat) x20_2) true _ ?side1 ?side2 ?side3 ?side4 ?side5 ?side6 ?side7 A12.out).mono ?_); (case side1 => exact zi24); (case side2 => exact zi40); (case side3 => exact HC0_2.out); (case side4 => exact zi39); (case side5 => exact HC0_5.out); (case side6 => exact zi38); (case side7 => exact HC0_6.out); rintro e w' ⟨rfl, ⟨nd, rfl⟩⟩; refine ⟨_, rfl, ?_⟩))
      go_ret
      exact ⟨zi25, zi28⟩
     replace c13 := Bool.eq_false_iff.mpr c13
     subst c13
     have H1 : (impl_graph_peaceful.l1 k2 l1 (rd l1 x11_1) l1 (l1.length : Int) x11_1 (l1.take (x11_1 : Int).toNat) ((l1.take (x11_1 : Int).toNat).length : Int) (wrap64 (x20_2 + 1)) a0_0 a0_1 l0_2 a0_3 a0_4 l0_5 l0_6) = some r := by rw [if_neg (show ¬ (false = true) by decide)] at H; exact H
     clear H
     have H := H1
     clear H1
     have H' := Aside0.mk H
     clear H
     have p305 : 0 ≤ (x20_2 : Int) := of_decide_eq_true zi12
     have q305 : x20_2 < ((l1.take (x11_1 : Int).toNat).length : Int) := of_decide_eq_true zi12
     obtain ⟨ad305, e305, hx305_0⟩ := Kd.at_int HR304.out x20_2 p305 q305
     obtain rfl : ad303 = ad305 := (by injection e305)
     replace p305 := eq_true p305
     replace q305 := eq_true q305
     go_wp2_with (first | ((with_reducible refine gate_callee (f := 62) rfl ?_); refine goesL_ (some 27) rfl rfl Try.func62 (by kernel_rfl) rfl #[.pointer (some ⟨gb0, 0, none⟩), .int .i64 (rd l1 x11_1), .int .i64 (rd (l1.take (x11_1 : Int).toNat) x20_2)] rfl zi3 ?_; (with_reducible refine (impl_graph_leaps.calls k2 gb0 a0_0 a0_1 A0_2 c0_2 l0_2 a0_3 a0_4 A0_5 c0_5 l0_5 A0_6 c0_6 l0_6 (rd l1 x11_1) (rd (l1.take (x11_1 : Int).toNat) x20_2) false _ ?side1 ?side2 ?side3 ?side4 ?side5 ?side6 ?side7 A12.out).mono ?_); (case side1 => exact zi24); (case side2 => exact zi40); (case side3 => exact HC0_2.out); (case side4 => exact zi39); (case side5 => exact HC0_5.out); (case side6 => exact zi38); (case side7 => exact HC0_6.out); rintro e w' ⟨rfl, ⟨nd, rfl⟩⟩; refine ⟨_, rfl, ?_⟩))
     go_roundg k2
     case measure => have := HK1.out; have := HK2.out; omega
     case rel => exact ⟨(wrap64 (x20_2 + 1)), zi25, H', ⟨by have := HK1.out; have := HK2.out; omega⟩, ⟨zi24⟩, zi28⟩

/-! ### impl_FillPeaceful: function 19 -/
def impl_FillPeaceful.l0 : Nat → List Int → List Int → Int → Int → Int → Int → List Int → Int → Int → List Int → List (List Int) → Option (List Int × Bool)
 | 0, _, _, _, _, _, _, _, _, _, _, _ => none
 | k + 1, x10, x33, x34, x35, x316000, x316001, x316002, x316003, x316004, x316005, x316006 => if x35 < x34 then (if 0 ≤ x35 then (if x35 < (x33.length : Int) then ((slices_Contains_int_int.f k x10 (rd x33 x35)).bind fun t324 => (if t324 = true then (impl_FillPeaceful.l0 k x10 x33 x34 (wrap64 (x35 + 1)) x316000 x316001 x316002 x316003 x316004 x316005 x316006) else ((slices_Clone_int_int.f x10).bind fun t325 => (if t325.length < 17592186044416 then ((impl_graph_peaceful.f k x316000 x316001 x316002 x316003 x316004 x316005 x316006 (t325 ++ [rd x33 x35])).bind fun t331 => (if t331 = true then (if x10.length < 17592186044416 then (impl_FillPeaceful.l0 k (x10 ++ [rd x33 x35]) x33 x34 (wrap64 (x35 + 1)) x316000 x316001 x316002 x316003 x316004 x316005 x316006) else (none)) else (impl_FillPeaceful.l0 k x10 x33 x34 (wrap64 (x35 + 1)) x316000 x316001 x316002 x316003 x316004 x316005 x316006))) else (none))))) else (none)) else (none)) else ((slices_Sort_int_int.f x10).bind fun t322 => (some (t322, true)))
def impl_FillPeaceful.f (k : Nat) (a0_0 : Int) (a0_1 : Int) (l0_2 : List Int) (a1_0 : Int) (a1_1 : Int) (l2 : List Int) : Option (List Int × Bool) := (impl_setGraph.f k a0_0 a0_1 l0_2 a1_0 a1_1 l2).bind fun bt309 => (if bt309.2.2 = true then ((impl_graph_peaceful.f k a0_0 a0_1 l0_2 a1_0 a1_1 bt309.1 bt309.2.1 l2).bind fun t318 => (if t318 = true then ((slices_Clone_int_int.f l2).bind fun t319 => (impl_FillPeaceful.l0 k t319 bt309.1 (bt309.1.length : Int) 0 a0_0 a0_1 l0_2 a1_0 a1_1 bt309.1 bt309.2.1)) else (some (([] : List Int), false)))) else (some (([] : List Int), false)))
set_option maxHeartbeats 8000000 in
set_option maxRecDepth 100000 in
theorem impl_FillPeaceful.calls (k : Nat) (a0_0 : Int) (a0_1 : Int) (A0_2 : Option Addr) (c0_2 : Nat) (l0_2 : List Int) (a1_0 : Int) (a1_1 : Int) (A2 : Option Addr) (c2 : Nat) (l2 : List Int) (r1 : List Int) (r2 : Bool) (w : World) (hr0_2 : Kd.C (Kd.int .i64) w A0_2 l0_2.length l0_2) (hc0_2 : l0_2.length ≤ c0_2) (hr2 : Kd.C (Kd.int .i64) w A2 l2.length l2) (hc2 : l2.length ≤ c2) (h : impl_FillPeaceful.f k a0_0 a0_1 l0_2 a1_0 a1_1 l2 = some (r1, r2)) :
  Calls Try.prog 19 #[.agg #[.int .i64 a0_0, .int .i64 a0_1, .slice A0_2 l0_2.length c0_2], .agg #[.int .i64 a1_0, .int .i64 a1_1], .slice A2 l2.length c2] w fun e w' => ∃ v0_ : Value, e = .returned (.tuple #[v0_, .bool r2]) ∧ Kd.R (Kd.int .i64) 3 w' w.heap.size (fun _ => True) v0_ r1 ∧ Below w.heap.size w w' := by
 have hu31 := Try.underlying31
 have hu33 := Try.underlying33
 have HR0_2 := Aside0.mk hr0_2
 have HC0_2 := Aside0.mk hc0_2
 clear hr0_2 hc0_2
 have HR2 := Aside0.mk hr2
 have HC2 := Aside0.mk hc2
 clear hr2 hc2
 have HB := Aside0.mk (Below.refl w.heap.size w)
 have H : ((impl_setGraph.f k a0_0 a0_1 l0_2 a1_0 a1_1 l2).bind fun bt309 => (if bt309.2.2 = true then ((impl_graph_peaceful.f k a0_0 a0_1 l0_2 a1_0 a1_1 bt309.1 bt309.2.1 l2).bind fun t318 => (if t318 = true then ((slices_Clone_int_int.f l2).bind fun t319 => (impl_FillPeaceful.l0 k t319 bt309.1 (bt309.1.length : Int) 0 a0_0 a0_1 l0_2 a1_0 a1_1 bt309.1 bt309.2.1)) else (some (([] : List Int), false)))) else (some (([] : List Int), false)))) = some (r1, r2) := h
 clear h
 replace H := Option.bind_eq_some_iff.mp H
 obtain ⟨⟨t309, t312, t317⟩, A40, H⟩ := H
 replace H : (if t317 = true then ((impl_graph_peaceful.f k a0_0 a0_1 l0_2 a1_0 a1_1 t309 t312 l2).bind fun t318 => (if t318 = true then ((slices_Clone_int_int.f l2).bind fun t319 => (impl_FillPeaceful.l0 k t319 t309 (t309.length : Int) 0 a0_0 a0_1 l0_2 a1_0 a1_1 t309 t312)) else (some (([] : List Int), false)))) else (some (([] : List Int), false))) = some (r1, r2) := H
 have A4 := Aside0.mk A40
 clear A40
 by_cases c5 : t317 = true
 rotate_left
 ·replace c5 := Bool.eq_false_iff.mpr c5
  subst c5
  have H1 : (some (([] : List Int), false)) = some (r1, r2) := by rw [if_neg (show ¬ (false = true) by decide)] at H; exact H
  clear H
  have H := H1
  clear H1
  simp only [Option.some.injEq, Prod.mk.injEq] at H
  obtain ⟨rfl, rfl⟩ := H
  go_enter Try.func19, Try.ntmps19
  go_wp2_with (first | ((with_reducible refine gate_dst (N := 3) rfl ?_); refine box_event ?hg (N := 3) ?hd (cs := #[.int .i64 a0_0, .int .i64 a0_1, .slice A0_2 l0_2.length c0_2]) (t := 31) ?hr ?_; (case hd => rfl); (case hg => rfl); (case hr => first | (go_simp; done) | (go_simp; rfl)); intro gb307 hg w52 hbox hb; have n0_ := Aside0.mk (below_step zi4 hb); have n1_ := Aside0.mk (hbox); have n2_ := Aside0.mk ((zi43 : w.heap.size ≤ gb307)); have n3_ := Aside0.mk ((zi43 : w.heap.size ≤ gb307)); clear HB; have HB := n0_; have BK307 := n1_; have GW307 := n2_; have GE307 := n3_; clear n0_ n1_ n2_ n3_; clear hb hbox hg) | ((with_reducible refine gate_dst (N := 4) rfl ?_); refine box_event ?hg (N := 4) ?hd (cs := #[.int .i64 a1_0, .int .i64 a1_1]) (t := 33) ?hr ?_; (case hd => rfl); (case hg => rfl); (case hr => first | (go_simp; done) | (go_simp; rfl)); intro gb308 hg w53 hbox hb; have n0_ := Aside0.mk (blk_below (g := gb307) (o := .cells #[.int .i64 a0_0, .int .i64 a0_1, .slice A0_2 l0_2.length c0_2] 31 (0, 0)) zi2 hb); have n1_ := Aside0.mk (below_step zi13 hb); have n2_ := Aside0.mk (hbox); have n3_ := Aside0.mk ((zi49 : w.heap.size ≤ gb308)); have n4_ := Aside0.mk ((zi49 : w.heap.size ≤ gb308)); have n5_ := Aside0.mk ((zi44 : gb307 ≠ gb308)); have n6_ := Aside0.mk ((zi46 : gb308 ≠ gb307)); clear BK307; clear HB; have BK307 := n0_; have HB := n1_; have BK308 := n2_; have GW308 := n3_; have GE308 := n4_; have NB307_308 := n5_; have NB308_307 := n6_; clear n0_ n1_ n2_ n3_ n4_ n5_ n6_; clear hb hbox hg; have hnb54 := NB307_308.out; have hnc54 := NB308_307.out; have hcz55_0 : w53.cell? ⟨gb307, 0, none⟩ = some (.int .i64 a0_0) := (blk_cell BK307.out 0).trans rfl; have hcz55_1 : w53.cell? ⟨gb307, 1, none⟩ = some (.int .i64 a0_1) := (blk_cell BK307.out 1).trans rfl; have hcz55_2 : w53.cell? ⟨gb307, 2, none⟩ = some (.slice A0_2 l0_2.length c0_2) := (blk_cell BK307.out 2).trans rfl; have hfz55_0 := blk_frozen BK307.out 0; have hfz55_1 := blk_frozen BK307.out 1; have hfz55_2 := blk_frozen BK307.out 2; have hcz56_0 : w53.cell? ⟨gb308, 0, none⟩ = some (.int .i64 a1_0) := (blk_cell BK308.out 0).trans rfl; have hcz56_1 : w53.cell? ⟨gb308, 1, none⟩ = some (.int .i64 a1_1) := (blk_cell BK308.out 1).trans rfl; have hfz56_0 := blk_frozen BK308.out 0; have hfz56_1 := blk_frozen BK308.out 1) | ((with_reducible refine gate_callee (f := 38) rfl ?_); refine goesL_ (some 17) rfl rfl Try.func38 (by kernel_rfl) rfl #[.agg #[.int .i64 a0_0, .int .i64 a0_1, .slice A0_2 l0_2.length c0_2], .agg #[.int .i64 a1_0, .int .i64 a1_1], .slice A2 l2.length c2] rfl zi3 ?_; (with_reducible refine (impl_setGraph.calls k a0_0 a0_1 _ _ l0_2 a1_0 a1_1 _ _ l2 t309 t312 false _ ?side1 ?side2 ?side3 ?side4 A4.out).mono ?_); (case side1 => exact zi7); (case side2 => exact HC0_2.out); (case side3 => exact zi15); (case side4 => exact HC2.out); rintro e w57 ⟨v310, v313, pv316, rfl, hgp, ho0, ho1, hb⟩; refine ⟨_, rfl, ?_⟩; obtain rfl := hgp.2 rfl; have n0_ := Aside0.mk (Kd.R_lower ho0 (below_size zi5)); have n1_ := Aside0.mk (Kd.S_lower ho1 (below_size zi5)); have n2_ := Aside0.mk (blk_below (g := gb307) (o := .cells #[.int .i64 a0_0, .int .i64 a0_1, .slice A0_2 l0_2.length c0_2] 31 (0, 0)) zi2 hb); have n3_ := Aside0.mk (blk_below (g := gb308) (o := .cells #[.int .i64 a1_0, .int .i64 a1_1] 33 (0, 0)) zi8 hb); have n4_ := Aside0.mk (below_step zi5 hb); clear BK307; clear BK308; clear HB; have HO311 := n0_; have HO314 := n1_; have BK307 := n2_; have BK308 := n3_; have HB := n4_; clear n0_ n1_ n2_ n3_ n4_; (try clear hb); (try clear hb2); (try clear hk); (try clear hi); (try clear ho0); (try clear ho1); (try clear hgp); (try clear hbox); (try clear hge); (try clear hna_); (try clear hnb_)))
  go_ret2
  exact ⟨_, zi23, zi27, zi5⟩
 subst c5
 have H1 : ((impl_graph_peaceful.f k a0_0 a0_1 l0_2 a1_0 a1_1 t309 t312 l2).bind fun t318 => (if t318 = true then ((slices_Clone_int_int.f l2).bind fun t319 => (impl_FillPeaceful.l0 k t319 t309 (t309.length : Int) 0 a0_0 a0_1 l0_2 a1_0 a1_1 t309 t312)) else (some (([] : List Int), false)))) = some (r1, r2) := by rw [if_pos rfl] at H; exact H
 clear H
 have H := H1
 clear H1
 replace H := Option.bind_eq_some_iff.mp H
 obtain ⟨t318, A60, H⟩ := H
 replace H : (if t318 = true then ((slices_Clone_int_int.f l2).bind fun t319 => (impl_FillPeaceful.l0 k t319 t309 (t309.length : Int) 0 a0_0 a0_1 l0_2 a1_0 a1_1 t309 t312)) else (some (([] : List Int), false))) = some (r1, r2) := H
 have A6 := Aside0.mk A60
 clear A60
 by_cases c7 : t318 = true
 rotate_left
 ·replace c7 := Bool.eq_false_iff.mpr c7
  subst c7
  have H1 : (some (([] : List Int), false)) = some (r1, r2) := by rw [if_neg (show ¬ (false = true) by decide)] at H; exact H
  clear H
  have H := H1
  clear H1
  simp only [Option.some.injEq, Prod.mk.injEq] at H
  obtain ⟨rfl, rfl⟩ := H
  go_enter Try.func19, Try.ntmps19
  go_wp2_with (first | ((with_reducible refine gate_dst (N := 3) rfl ?_); refine box_event ?hg (N := 3) ?hd (cs := #[.int .i64 a0_0, .int .i64 a0_1, .slice A0_2 l0_2.length c0_2]) (t := 31) ?hr ?_; (case hd => rfl); (case hg => rfl); (case hr => first | (go_simp; done) | (go_simp; rfl)); intro gb307 hg w44 hbox hb; have n0_ := Aside0.mk (below_step zi4 hb); have n1_ := Aside0.mk (hbox); have n2_ := Aside0.mk ((zi43 : w.heap.size ≤ gb307)); have n3_ := Aside0.mk ((zi43 : w.heap.size ≤ gb307)); clear HB; have HB := n0_; have BK307 := n1_; have GW307 := n2_; have GE307 := n3_; clear n0_ n1_ n2_ n3_; clear hb hbox hg) | ((with_reducible refine gate_dst (N := 4) rfl ?_); refine box_event ?hg (N := 4) ?hd (cs := #[.int .i64 a1_0, .int .i64 a1_1]) (t := 33) ?hr ?_; (case hd => rfl); (case hg => rfl); (case hr => first | (go_simp; done) | (go_simp; rfl)); intro gb308 hg w45 hbox hb; have n0_ := Aside0.mk (blk_below (g := gb307) (o := .cells #[.int .i64 a0_0, .int .i64 a0_1, .slice A0_2 l0_2.length c0_2] 31 (0, 0)) zi2 hb); have n1_ := Aside0.mk (below_step zi13 hb); have n2_ := Aside0.mk (hbox); have n3_ := Aside0.mk ((zi49 : w.heap.size ≤ gb308)); have n4_ := Aside0.mk ((zi49 : w.heap.size ≤ gb308)); have n5_ := Aside0.mk ((zi44 : gb307 ≠ gb308)); have n6_ := Aside0.mk ((zi46 : gb308 ≠ gb307)); clear BK307; clear HB; have BK307 := n0_; have HB := n1_; have BK308 := n2_; have GW308 := n3_; have GE308 := n4_; have NB307_308 := n5_; have NB308_307 := n6_; clear n0_ n1_ n2_ n3_ n4_ n5_ n6_; clear hb hbox hg; have hnb46 := NB307_308.out; have hnc46 := NB308_307.out; have hcz47_0 : w45.cell? ⟨gb307, 0, none⟩ = some (.int .i64 a0_0) := (blk_cell BK307.out 0).trans rfl; have hcz47_1 : w45.cell? ⟨gb307, 1, none⟩ = some (.int .i64 a0_1) := (blk_cell BK307.out 1).trans rfl; have hcz47_2 : w45.cell? ⟨gb307, 2, none⟩ = some (.slice A0_2 l0_2.length c0_2) := (blk_cell BK307.out 2).trans rfl; have hfz47_0 := blk_frozen BK307.out 0; have hfz47_1 := blk_frozen BK307.out 1; have hfz47_2 := blk_frozen BK307.out 2; have hcz48_0 : w45.cell? ⟨gb308, 0, none⟩ = some (.int .i64 a1_0) := (blk_cell BK308.out 0).trans rfl; have hcz48_1 : w45.cell? ⟨gb308, 1, none⟩ = some (.int .i64 a1_1) := (blk_cell BK308.out 1).trans rfl; have hfz48_0 := blk_frozen BK308.out 0; have hfz48_1 := blk_frozen BK308.out 1) | ((with_reducible refine gate_callee (f := 38) rfl ?_); refine goesL_ (some 17) rfl rfl Try.func38 (by kernel_rfl) rfl #[.agg #[.int .i64 a0_0, .int .i64 a0_1, .slice A0_2 l0_2.length c0_2], .agg #[.int .i64 a1_0, .int .i64 a1_1], .slice A2 l2.length c2] rfl zi3 ?_; (with_reducible refine (impl_setGraph.calls k a0_0 a0_1 _ _ l0_2 a1_0 a1_1 _ _ l2 t309 t312 true _ ?side1 ?side2 ?side3 ?side4 A4.out).mono ?_); (case side1 => exact zi7); (case side2 => exact HC0_2.out); (case side3 => exact zi15); (case side4 => exact HC2.out); rintro e w49 ⟨v310, v313, pv316, rfl, hgp, ho0, ho1, hb⟩; refine ⟨_, rfl, ?_⟩; obtain ⟨gb315, rfl, hbox, hge⟩ := hgp.1 rfl; have n0_ := Aside0.mk (Kd.R_lower ho0 (below_size zi5)); have n1_ := Aside0.mk (Kd.S_lower ho1 (below_size zi5)); have n2_ := Aside0.mk (blk_below (g := gb307) (o := .cells #[.int .i64 a0_0, .int .i64 a0_1, .slice A0_2 l0_2.length c0_2] 31 (0, 0)) zi2 hb); have n3_ := Aside0.mk (blk_below (g := gb308) (o := .cells #[.int .i64 a1_0, .int .i64 a1_1] 33 (0, 0)) zi8 hb); have n4_ := Aside0.mk (hbox); have n5_ := Aside0.mk ((Nat.le_trans (by exact (below_size zi5)) hge : w.heap.size ≤ gb315)); have n6_ := Aside0.mk ((Nat.le_trans (by exact (below_size zi5)) hge : w.heap.size ≤ gb315)); have n7_ := Aside0.mk ((Nat.ne_of_lt (Nat.lt_of_lt_of_le (blk_lt (g := gb307) (o := .cells #[.int .i64 a0_0, .int .i64 a0_1, .slice A0_2 l0_2.length c0_2] 31 (0, 0)) zi2) hge) : gb307 ≠ gb315)); have n8_ := Aside0.mk ((Nat.ne_of_gt (Nat.lt_of_lt_of_le (blk_lt (g := gb307) (o := .cells #[.int .i64 a0_0, .int .i64 a0_1, .slice A0_2 l0_2.length c0_2] 31 (0, 0)) zi2) hge) : gb315 ≠ gb307)); have n9_ := Aside0.mk ((Nat.ne_of_lt (Nat.lt_of_lt_of_le (blk_lt (g := gb308) (o := .cells #[.int .i64 a1_0, .int .i64 a1_1] 33 (0, 0)) zi8) hge) : gb308 ≠ gb315)); have n10_ := Aside0.mk ((Nat.ne_of_gt (Nat.lt_of_lt_of_le (blk_lt (g := gb308) (o := .cells #[.int .i64 a1_0, .int .i64 a1_1] 33 (0, 0)) zi8) hge) : gb315 ≠ gb308)); have n11_ := Aside0.mk (below_step zi5 hb); clear BK307; clear BK308; clear HB; have HO311 := n0_; have HO314 := n1_; have BK307 := n2_; have BK308 := n3_; have BK315 := n4_; have GW315 := n5_; have GE315 := n6_; have NB307_315 := n7_; have NB315_307 := n8_; have NB308_315 := n9_; have NB315_308 := n10_; have HB := n11_; clear n0_ n1_ n2_ n3_ n4_ n5_ n6_ n7_ n8_ n9_ n10_ n11_; (try clear hb); (try clear hb2); (try clear hk); (try clear hi); (try clear ho0); (try clear ho1); (try clear hgp); (try clear hbox); (try clear hge); (try clear hna_); (try clear hnb_); obtain ⟨Ao50, co50, eo50⟩ := Kd.R_slice HO311.out; subst eo50; obtain ⟨Ao51, co51, eo51⟩ := Kd.S_slice HO314.out; subst eo51) | (go_at_call 39; (with_reducible refine (impl_graph_peaceful.calls k gb315 a0_0 a0_1 A0_2 c0_2 l0_2 a1_0 a1_1 Ao50 co50 t309 Ao51 co51 t312 _ _ l2 false _ ?side1 ?side2 ?side3 ?side4 ?side5 ?side6 ?side7 ?side8 ?side9 A6.out).mono ?_); (case side1 => exact zi10); (case side2 => exact zi7); (case side3 => exact HC0_2.out); (case side4 => exact zi37); (case side5 => exact (Kd.R_reads' HO311.out).2.1); (case side6 => exact zi35); (case side7 => exact (Kd.S_reads' HO314.out).2.1); (case side8 => exact zi15); (case side9 => exact HC2.out); rintro e w' ⟨rfl, ⟨nd, rfl⟩⟩))
  go_ret2
  exact ⟨_, zi23, zi27, zi1⟩
 subst c7
 have H1 : ((slices_Clone_int_int.f l2).bind fun t319 => (impl_FillPeaceful.l0 k t319 t309 (t309.length : Int) 0 a0_0 a0_1 l0_2 a1_0 a1_1 t309 t312)) = some (r1, r2) := by rw [if_pos rfl] at H; exact H
 clear H
 have H := H1
 clear H1
 replace H := Option.bind_eq_some_iff.mp H
 obtain ⟨t319, A80, H⟩ := H
 replace H : (impl_FillPeaceful.l0 k t319 t309 (t309.length : Int) 0 a0_0 a0_1 l0_2 a1_0 a1_1 t309 t312) = some (r1, r2) := H
 have A8 := Aside0.mk A80
 clear A80
 have H' := Aside0.mk H
 clear H
 go_enter Try.func19, Try.ntmps19
 go_wp2_with (first | ((with_reducible refine gate_dst (N := 3) rfl ?_); refine box_event ?hg (N := 3) ?hd (cs := #[.int .i64 a0_0, .int .i64 a0_1, .slice A0_2 l0_2.length c0_2]) (t := 31) ?hr ?_; (case hd => rfl); (case hg => rfl); (case hr => first | (go_simp; done) | (go_simp; rfl)); intro gb307 hg w9 hbox hb; have n0_ := Aside0.mk (below_step zi4 hb); have n1_ := Aside0.mk (hbox); have n2_ := Aside0.mk ((zi43 : w.heap.size ≤ gb307)); have n3_ := Aside0.mk ((zi43 : w.heap.size ≤ gb307)); clear HB; have HB := n0_; have BK307 := n1_; have GW307 := n2_; have GE307 := n3_; clear n0_ n1_ n2_ n3_; clear hb hbox hg) | ((with_reducible refine gate_dst (N := 4) rfl ?_); refine box_event ?hg (N := 4) ?hd (cs := #[.int .i64 a1_0, .int .i64 a1_1]) (t := 33) ?hr ?_; (case hd => rfl); (case hg => rfl); (case hr => first | (go_simp; done) | (go_simp; rfl)); intro gb308 hg w10 hbox hb; have n0_ := Aside0.mk (blk_below (g := gb307) (o := .cells #[.int .i64 a0_0, .int .i64 a0_1, .slice A0_2 l0_2.length c0_2] 31 (0, 0)) zi2 hb); have n1_ := Aside0.mk (below_step zi13 hb); have n2_ := Aside0.mk (hbox); have n3_ := Aside0.mk ((zi49 : w.heap.size ≤ gb308)); have n4_ := Aside0.mk ((zi49 : w.heap.size ≤ gb308)); have n5_ := Aside0.mk ((zi44 : gb307 ≠ gb308)); have n6_ := Aside0.mk ((zi46 : gb308 ≠ gb307)); clear BK307; clear HB; have BK307 := n0_; have HB := n1_; have BK308 := n2_; have GW308 := n3_; have GE308 := n4_; have NB307_308 := n5_; have NB308_307 := n6_; clear n0_ n1_ n2_ n3_ n4_ n5_ n6_; clear hb hbox hg; have hnb11 := NB307_308.out; have hnc11 := NB308_307.out; have hcz12_0 : w10.cell? ⟨gb307, 0, none⟩ = some (.int .i64 a0_0) := (blk_cell BK307.out 0).trans rfl; have hcz12_1 : w10.cell? ⟨gb307, 1, none⟩ = some (.int .i64 a0_1) := (blk_cell BK307.out 1).trans rfl; have hcz12_2 : w10.cell? ⟨gb307, 2, none⟩ = some (.slice A0_2 l0_2.length c0_2) := (blk_cell BK307.out 2).trans rfl; have hfz12_0 := blk_frozen BK307.out 0; have hfz12_1 := blk_frozen BK307.out 1; have hfz12_2 := blk_frozen BK307.out 2; have hcz13_0 : w10.cell? ⟨gb308, 0, none⟩ = some (.int .i64 a1_0) := (blk_cell BK308.out 0).trans rfl; have hcz13_1 : w10.cell? ⟨gb308, 1, none⟩ = some (.int .i64 a1_1) := (blk_cell BK308.out 1).trans rfl; have hfz13_0 := blk_frozen BK308.out 0; have hfz13_1 := blk_frozen BK308.out 1) | ((with_reducible refine gate_callee (f := 38) rfl ?_); refine goesL_ (some 17) rfl rfl Try.func38 (by kernel_rfl) rfl #[.agg #[.int .i64 a0_0, .int .i64 a0_1, .slice A0_2 l0_2.length c0_2], .agg #[.int .i64 a1_0, .int .i64 a1_1], .slice A2 l2.length c2] rfl zi3 ?_; (with_reducible refine (impl_setGraph.calls k a0_0 a0_1 _ _ l0_2 a1_0 a1_1 _ _ l2 t309 t312 true _ ?side1 ?side2 ?side3 ?side4 A4.out).mono ?_); (case side1 => exact zi7); (case side2 => exact HC0_2.out); (case side3 => exact zi15); (case side4 => exact HC2.out); rintro e w14 ⟨v310, v313, pv316, rfl, hgp, ho0, ho1, hb⟩; refine ⟨_, rfl, ?_⟩; obtain ⟨gb315, rfl, hbox, hge⟩ := hgp.1 rfl; have n0_ := Aside0.mk (Kd.R_lower ho0 (below_size zi5)); have n1_ := Aside0.mk (Kd.S_lower ho1 (below_size zi5)); have n2_ := Aside0.mk (blk_below (g := gb307) (o := .cells #[.int .i64 a0_0, .int .i64 a0_1, .slice A0_2 l0_2.length c0_2] 31 (0, 0)) zi2 hb); have n3_ := Aside0.mk (blk_below (g := gb308) (o := .cells #[.int .i64 a1_0, .int .i64 a1_1] 33 (0, 0)) zi8 hb); have n4_ := Aside0.mk (hbox); have n5_ := Aside0.mk ((Nat.le_trans (by exact (below_size zi5)) hge : w.heap.size ≤ gb315)); have n6_ := Aside0.mk ((Nat.le_trans (by exact (below_size zi5)) hge : w.heap.size ≤ gb315)); have n7_ := Aside0.mk ((Nat.ne_of_lt (Nat.lt_of_lt_of_le (blk_lt (g := gb307) (o := .cells #[.int .i64 a0_0, .int .i64 a0_1, .slice A0_2 l0_2.length c0_2] 31 (0, 0)) zi2) hge) : gb307 ≠ gb315)); have n8_ := Aside0.mk ((Nat.ne_of_gt (Nat.lt_of_lt_of_le (blk_lt (g := gb307) (o := .cells #[.int .i64 a0_0, .int .i64 a0_1, .slice A0_2 l0_2.length c0_2] 31 (0, 0)) zi2) hge) : gb315 ≠ gb307)); have n9_ := Aside0.mk ((Nat.ne_of_lt (Nat.lt_of_lt_of_le (blk_lt (g := gb308) (o := .cells #[.int .i64 a1_0, .int .i64 a1_1] 33 (0, 0)) zi8) hge) : gb308 ≠ gb315)); have n10_ := Aside0.mk ((Nat.ne_of_gt (Nat.lt_of_lt_of_le (blk_lt (g := gb308) (o := .cells #[.int .i64 a1_0, .int .i64 a1_1] 33 (0, 0)) zi8) hge) : gb315 ≠ gb308)); have n11_ := Aside0.mk (below_step zi5 hb); clear BK307; clear BK308; clear HB; have HO311 := n0_; have HO314 := n1_; have BK307 := n2_; have BK308 := n3_; have BK315 := n4_; have GW315 := n5_; have GE315 := n6_; have NB307_315 := n7_; have NB315_307 := n8_; have NB308_315 := n9_; have NB315_308 := n10_; have HB := n11_; clear n0_ n1_ n2_ n3_ n4_ n5_ n6_ n7_ n8_ n9_ n10_ n11_; (try clear hb); (try clear hb2); (try clear hk); (try clear hi); (try clear ho0); (try clear ho1); (try clear hgp); (try clear hbox); (try clear hge); (try clear hna_); (try clear hnb_); obtain ⟨Ao15, co15, eo15⟩ := Kd.R_slice HO311.out; subst eo15; obtain ⟨Ao16, co16, eo16⟩ := Kd.S_slice HO314.out; subst eo16) | (go_at_call 39; (with_reducible refine (impl_graph_peaceful.calls k gb315 a0_0 a0_1 A0_2 c0_2 l0_2 a1_0 a1_1 Ao15 co15 t309 Ao16 co16 t312 _ _ l2 true _ ?side1 ?side2 ?side3 ?side4 ?side5 ?side6 ?side7 ?side8 ?side9 A6.out).mono ?_); (case side1 => exact zi10); (case side2 => exact zi7); (case side3 => exact HC0_2.out); (case side4 => exact zi37); (case side5 => exact (Kd.R_reads' HO311.out).2.1); (case side6 => exact zi35); (case side7 => exact (Kd.S_reads' HO314.out).2.1); (case side8 => exact zi15); (case side9 => exact HC2.out); rintro e w' ⟨rfl, ⟨nd, rfl⟩⟩) | ((with_reducible refine gate_callee (f := 40) rfl ?_); refine goesL_ (some 29) rfl rfl Try.func40 (by kernel_rfl) rfl #[.slice A2 l2.length c2] rfl zi3 ?_; (with_reducible refine (slices_Clone_int_int.calls _ _ l2 t319 _ ?side1 ?side2 A8.out).mono ?_); (case side1 => repeat (first | exact (Kd.C_below HR2.out zi1) | (with_reducible refine Kd.C_alloc ?_ _) | (with_reducible refine Kd.C_drewN ?_ _) | (with_reducible refine Kd.C_drew ?_))); (case side2 => exact HC2.out); rintro e w17 ⟨v320, rfl, ho0, hb⟩; refine ⟨_, rfl, ?_⟩; have n0_ := Aside0.mk (Kd.R_elder' (by first | exact HO311.out | ((with_reducible repeat (first | apply Kd.R_alloc | apply Kd.R_drewN | apply Kd.R_drew)); exact HO311.out)) (Kd.R_base ho0) hb); have n1_ := Aside0.mk (Kd.S_elder' (by first | exact HO314.out | ((with_reducible repeat (first | apply Kd.S_alloc | apply Kd.S_drewN | apply Kd.S_drew)); exact HO314.out)) (Kd.R_base ho0) hb); have n2_ := Aside0.mk (Kd.R_lower (Kd.R_new' ho0 (Kd.R_lt (by first | exact HO311.out | ((with_reducible repeat (first | apply Kd.R_alloc | apply Kd.R_drewN | apply Kd.R_drew)); exact HO311.out)))) (below_size zi1)); have n3_ := Aside0.mk (blk_below (g := gb307) (o := .cells #[.int .i64 a0_0, .int .i64 a0_1, .slice A0_2 l0_2.length c0_2] 31 (0, 0)) zi2 hb); have n4_ := Aside0.mk (blk_below (g := gb308) (o := .cells #[.int .i64 a1_0, .int .i64 a1_1] 33 (0, 0)) zi8 hb); have n5_ := Aside0.mk (blk_below (g := gb315) (o := .cells #[.int .i64 a0_0, .int .i64 a0_1, .slice A0_2 l0_2.length c0_2, .int .i64 a1_0, .int .i64 a1_1, .slice Ao15 t309.length co15, .slice Ao16 t312.length co16] 59 (0, 0)) zi10 hb); have n6_ := Aside0.mk (below_step zi1 hb); clear HO311; clear HO314; clear BK307; clear BK308; clear BK315; clear HB; have HO311 := n0_; have HO314 := n1_; have HO321 := n2_; have BK307 := n3_; have BK308 := n4_; have BK315 := n5_; have HB := n6_; clear n0_ n1_ n2_ n3_ n4_ n5_ n6_; (try clear hb); (try clear hb2); (try clear hk); (try clear hi); (try clear ho0); (try clear hna_); (try clear hnb_); have hnb18 := NB315_307.out; have hnc18 := NB307_315.out; have hnb19 := NB315_308.out; have hnc19 := NB308_315.out; have hcz20_0 : w17.cell? ⟨gb315, 0, none⟩ = some (.int .i64 a0_0) := (blk_cell BK315.out 0).trans rfl; have hcz20_1 : w17.cell? ⟨gb315, 1, none⟩ = some (.int .i64 a0_1) := (blk_cell BK315.out 1).trans rfl; have hcz20_2 : w17.cell? ⟨gb315, 2, none⟩ = some (.slice A0_2 l0_2.length c0_2) := (blk_cell BK315.out 2).trans rfl; have hcz20_3 : w17.cell? ⟨gb315, 3, none⟩ = some (.int .i64 a1_0) := (blk_cell BK315.out 3).trans rfl; have hcz20_4 : w17.cell? ⟨gb315, 4, none⟩ = some (.int .i64 a1_1) := (blk_cell BK315.out 4).trans rfl; have hcz20_5 : w17.cell? ⟨gb315, 5, none⟩ = some (.slice Ao15 t309.length co15) := (blk_cell BK315.out 5).trans rfl; have hcz20_6 : w17.cell? ⟨gb315, 6, none⟩ = some (.slice Ao16 t312.length co16) := (blk_cell BK315.out 6).trans rfl; have hfz20_0 := blk_frozen BK315.out 0; have hfz20_1 := blk_frozen BK315.out 1; have hfz20_2 := blk_frozen BK315.out 2; have hfz20_3 := blk_frozen BK315.out 3; have hfz20_4 := blk_frozen BK315.out 4; have hfz20_5 := blk_frozen BK315.out 5; have hfz20_6 := blk_frozen BK315.out 6))
 go_loopg [10, 35] k (fun kq v10 v35 w' => ∃ (x10_1 : List Int) (x35_1 : Int), v35 = .int .i64 x35_1 ∧ Aside0 (impl_FillPeaceful.l0 kq x10_1 t309 (t309.length : Int) x35_1 a0_0 a0_1 l0_2 a1_0 a1_1 t309 t312 = some (r1, r2)) ∧ Aside0 (kq ≤ k) ∧ Aside0 (Kd.R (Kd.int .i64) 3 w' w.heap.size (fun k_ => some k_ ≠ ((.slice Ao15 t309.length co15) : Value).ownBlock ∧ some k_ ≠ ((.slice Ao15 t309.length co15) : Value).ownBlock) v10 x10_1) ∧ Aside0 (Kd.R (Kd.int .i64) 3 w' w.heap.size (fun k_ => some k_ ≠ (v10 : Value).ownBlock) (.slice Ao15 t309.length co15) t309) ∧ Aside0 (Kd.R (Kd.int .i64) 3 w' w.heap.size (fun k_ => some k_ ≠ (v10 : Value).ownBlock) (.slice Ao15 t309.length co15) t309) ∧ Aside0 (Kd.S (Kd.slice 3 (Kd.int .i64)) 22 w' w.heap.size (fun k_ => some k_ ≠ (v10 : Value).ownBlock ∧ some k_ ≠ ((.slice Ao15 t309.length co15) : Value).ownBlock ∧ some k_ ≠ ((.slice Ao15 t309.length co15) : Value).ownBlock) (.slice Ao16 t312.length co16) t312) ∧ Aside0 (w'.heap[gb307]? = some (.cells #[.int .i64 a0_0, .int .i64 a0_1, (.slice A0_2 l0_2.length c0_2)] 31 (0, 0))) ∧ Aside0 (w'.heap[gb308]? = some (.cells #[.int .i64 a1_0, .int .i64 a1_1] 33 (0, 0))) ∧ Aside0 (w'.heap[gb315]? = some (.cells #[.int .i64 a0_0, .int .i64 a0_1, (.slice A0_2 l0_2.length c0_2), .int .i64 a1_0, .int .i64 a1_1, (.slice Ao15 t309.length co15), (.slice Ao16 t312.length co16)] 59 (0, 0))) ∧ Aside0 (Below w.heap.size w w'))
 case atStart => exact ⟨(t319), (0), zi25, H', ⟨Nat.le_refl _⟩, ⟨by (with_reducible repeat (first | apply Kd.R_alloc | apply Kd.R_drewN | apply Kd.R_drew)); exact Kd.R_mono HO321.out (fun _ hk => ⟨hk.2, hk.2⟩)⟩, ⟨zi42⟩, ⟨zi42⟩, ⟨by (with_reducible repeat (first | apply Kd.S_alloc | apply Kd.S_drewN | apply Kd.S_drew)); exact Kd.S_mono HO314.out (fun _ hk => ⟨hk.2, ⟨hk.1, hk.1⟩⟩)⟩, ⟨zi2⟩, ⟨zi8⟩, ⟨zi10⟩, ⟨zi1⟩⟩
 case round =>
  clear H'
  try clear c1; try clear c2; try clear p2; try clear c3; try clear c4; try clear c5; try clear c7; try clear c11; try clear c18; try clear c19; try clear hcz12_0; try clear hcz12_1; try clear hcz12_2; try clear hcz13_0; try clear hcz13_1; try clear hcz20_0; try clear hcz20_1; try clear hcz20_2; try clear hcz20_3; try clear hcz20_4; try clear hcz20_5; try clear hcz20_6; try clear hfz12_0; try clear hfz12_1; try clear hfz12_2; try clear hfz13_0; try clear hfz13_1; try clear hfz20_0; try clear hfz20_1; try clear hfz20_2; try clear hfz20_3; try clear hfz20_4; try clear hfz20_5; try clear hfz20_6
  obtain ⟨x10_1, x35_1, rfl, HA, HK1, HO_10, HO_33, HO_316005, HO_316006, BK307, BK308, BK315, HB⟩ := hrel
  cases gk with
  | zero => exact absurd HA.out (by simp [impl_FillPeaceful.l0])
  | succ k1 =>
   have H := HA.out
   clear HA
   simp only [impl_FillPeaceful.l0] at H
   by_cases c21 : x35_1 < (t309.length : Int)
   rotate_left
   ·rw [if_neg c21] at H
    have c21b0 : decide (x35_1 < (t309.length : Int)) = false := decide_eq_false c21
    clear c21
    replace H := Option.bind_eq_some_iff.mp H
    obtain ⟨t322, A410, H⟩ := H
    replace H : (some (t322, true)) = some (r1, r2) := H
    have A41 := Aside0.mk A410
    clear A410
    simp only [Option.some.injEq, Prod.mk.injEq] at H
    obtain ⟨rfl, rfl⟩ := H
    obtain ⟨Ao42, co42, eo42⟩ := Kd.R_slice HO_10.out
    subst eo42
    go_wp2_with (first | ((with_reducible refine gate_callee (f := 42) rfl ?_); refine goesL_ (some 55) rfl rfl Try.func42 (by kernel_rfl) rfl #[.slice Ao42 x10_1.length co42] rfl zi3 ?_; (with_reducible refine (slices_Sort_int_int.calls (fun k_ => some k_ = (.slice Ao42 x10_1.length co42 : Value).ownBlock) (.slice Ao42 x10_1.length co42) x10_1 t322 w _ ?side1 ?side2 A41.out).mono ?_); (case side1 => exact zi1); (case side2 => exact Kd.R_tight rfl HO_10.out); rintro e w43 ⟨rfl, hy0, hb, hkp⟩; refine ⟨_, rfl, ?_⟩; have n0_ := Aside0.mk (Kd.R_reok rfl hy0 (fun k_ e_ => HO_10.out.1 k_ e_)); have n1_ := Aside0.mk (Kd.R_mono (ok' := fun k_ => some k_ ≠ (.slice Ao42 x10_1.length co42 : Value).ownBlock) (Kd.R_keptB (HO_33.out) hkp (fun k_ hk_ hs_ => (hk_) hs_)) (fun k_ hk_ => hk_.1)); have n2_ := Aside0.mk (Kd.R_mono (ok' := fun k_ => some k_ ≠ (.slice Ao42 x10_1.length co42 : Value).ownBlock) (Kd.R_keptB (HO_316005.out) hkp (fun k_ hk_ hs_ => (hk_) hs_)) (fun k_ hk_ => hk_.1)); have n3_ := Aside0.mk (Kd.S_mono (ok' := fun k_ => some k_ ≠ (.slice Ao42 x10_1.length co42 : Value).ownBlock ∧ some k_ ≠ (.slice Ao15 t309.length co15 : Value).ownBlock ∧ some k_ ≠ (.slice Ao15 t309.length co15 : Value).ownBlock) (Kd.S_keptB (HO_316006.out) hkp (fun k_ hk_ hs_ => (hk_.1) hs_)) (fun k_ hk_ => ⟨hk_.1.1, hk_.1.2.1, hk_.1.2.2⟩)); have n4_ := Aside0.mk (blk_kept zi2 hkp (fun hs_ => (fun e_ => (Kd.R_ne HO_10.out BK307.out (by decide)) e_) hs_)); have n5_ := Aside0.mk (blk_kept zi8 hkp (fun hs_ => (fun e_ => (Kd.R_ne HO_10.out BK308.out (by decide)) e_) hs_)); have n6_ := Aside0.mk (blk_kept zi10 hkp (fun hs_ => (fun e_ => (Kd.R_ne HO_10.out BK315.out (by decide)) e_) hs_)); have n7_ := Aside0.mk (hb); clear HO_10; clear HO_33; clear HO_316005; clear HO_316006; clear BK307; clear BK308; clear BK315; clear HB; have HO_10 := n0_; have HO_33 := n1_; have HO_316005 := n2_; have HO_316006 := n3_; have BK307 := n4_; have BK308 := n5_; have BK315 := n6_; have HB := n7_; clear n0_ n1_ n2_ n3_ n4_ n5_ n6_ n7_; (try clear hb); (try clear hkp); (try clear hy0)))
    go_ret2
    exact ⟨_, zi23, by (with_reducible repeat (first | apply Kd.R_alloc | apply Kd.R_drewN | apply Kd.R_drew)); exact Kd.R_mono HO_10.out (fun _ hk => trivial), zi1⟩
   rw [if_pos c21] at H
   have c21b0 : decide (x35_1 < (t309.length : Int)) = true := decide_eq_true c21
   clear c21
   by_cases c22 : 0 ≤ x35_1
   rotate_left
   ·rw [if_neg c22] at H
    exact absurd H (by simp)
   rw [if_pos c22] at H
   have c22b0 : decide (0 ≤ x35_1) = true := decide_eq_true c22
   clear c22
   by_cases c23 : x35_1 < (t309.length : Int)
   rotate_left
   ·rw [if_neg c23] at H
    exact absurd H (by simp)
   rw [if_pos c23] at H
   have c23b0 : decide (x35_1 < (t309.length : Int)) = true := decide_eq_true c23
   clear c23
   replace H := Option.bind_eq_some_iff.mp H
   obtain ⟨t324, A240, H⟩ := H
   replace H : (if t324 = true then (impl_FillPeaceful.l0 k1 x10_1 t309 (t309.length : Int) (wrap64 (x35_1 + 1)) a0_0 a0_1 l0_2 a1_0 a1_1 t309 t312) else ((slices_Clone_int_int.f x10_1).bind fun t325 => (if t325.length < 17592186044416 then ((impl_graph_peaceful.f k1 a0_0 a0_1 l0_2 a1_0 a1_1 t309 t312 (t325 ++ [rd t309 x35_1])).bind fun t331 => (if t331 = true then (if x10_1.length < 17592186044416 then (impl_FillPeaceful.l0 k1 (x10_1 ++ [rd t309 x35_1]) t309 (t309.length : Int) (wrap64 (x35_1 + 1)) a0_0 a0_1 l0_2 a1_0 a1_1 t309 t312) else (none)) else (impl_FillPeaceful.l0 k1 x10_1 t309 (t309.length : Int) (wrap64 (x35_1 + 1)) a0_0 a0_1 l0_2 a1_0 a1_1 t309 t312))) else (none)))) = some (r1, r2) := H
   have A24 := Aside0.mk A240
   clear A240
   by_cases c25 : t324 = true
   ·subst c25
    have H1 : (impl_FillPeaceful.l0 k1 x10_1 t309 (t309.length : Int) (wrap64 (x35_1 + 1)) a0_0 a0_1 l0_2 a1_0 a1_1 t309 t312) = some (r1, r2) := by rw [if_pos rfl] at H; exact H
    clear H
    have H := H1
    clear H1
    have H' := Aside0.mk H
    clear H
    have p323 : 0 ≤ (x35_1 : Int) := of_decide_eq_true zi12
    have q323 : x35_1 < (t309.length : Int) := of_decide_eq_true zi12
    obtain ⟨ad323, e323, hx323_0⟩ := Kd.at_int (Kd.R_reads' HO_33.out).2.2 x35_1 p323 q323
    cases e323
    replace p323 := eq_true p323
    replace q323 := eq_true q323
    obtain ⟨Ao26, co26, eo26⟩ := Kd.R_slice HO_10.out
    subst eo26
    go_wp2_with (first | ((with_reducible refine gate_callee (f := 41) rfl ?_); refine goesL_ (some 41) rfl rfl Try.func41 (by kernel_rfl) rfl #[.slice Ao26 x10_1.length co26, .int .i64 (rd t309 x35_1)] rfl zi3 ?_; (with_reducible refine (slices_Contains_int_int.calls k1 _ _ x10_1 (rd t309 x35_1) true _ ?side1 ?side2 A24.out).mono ?_); (case side1 => exact zi22); (case side2 => exact (Kd.R_reads' HO_10.out).2.1); rintro e w' ⟨rfl, ⟨nd, rfl⟩⟩; refine ⟨_, rfl, ?_⟩))
    go_roundg k1
    case measure => have := HK1.out; omega
    case rel => exact ⟨(x10_1), (wrap64 (x35_1 + 1)), zi25, H', ⟨by have := HK1.out; omega⟩, ⟨zi19⟩, ⟨zi18⟩, ⟨zi16⟩, ⟨zi26⟩, ⟨zi2⟩, ⟨zi8⟩, ⟨zi10⟩, ⟨zi1⟩⟩
   replace c25 := Bool.eq_false_iff.mpr c25
   subst c25
   have H1 : ((slices_Clone_int_int.f x10_1).bind fun t325 => (if t325.length < 17592186044416 then ((impl_graph_peaceful.f k1 a0_0 a0_1 l0_2 a1_0 a1_1 t309 t312 (t325 ++ [rd t309 x35_1])).bind fun t331 => (if t331 = true then (if x10_1.length < 17592186044416 then (impl_FillPeaceful.l0 k1 (x10_1 ++ [rd t309 x35_1]) t309 (t309.length : Int) (wrap64 (x35_1 + 1)) a0_0 a0_1 l0_2 a1_0 a1_1 t309 t312) else (none)) else (impl_FillPeaceful.l0 k1 x10_1 t309 (t309.length : Int) (wrap64 (x35_1 + 1)) a0_0 a0_1 l0_2 a1_0 a1_1 t309 t312))) else (none))) = some (r1, r2) := by rw [if_neg (show ¬ (false = true) by decide)] at H; exact H
   clear H
   have H := H1
   clear H1
   replace H := Option.bind_eq_some_iff.mp H
   obtain ⟨t325, A270, H⟩ := H
   replace H : (if t325.length < 17592186044416 then ((impl_graph_peaceful.f k1 a0_0 a0_1 l0_2 a1_0 a1_1 t309 t312 (t325 ++ [rd t309 x35_1])).bind fun t331 => (if t331 = true then (if x10_1.length < 17592186044416 then (impl_FillPeaceful.l0 k1 (x10_1 ++ [rd t309 x35_1]) t309 (t309.length : Int) (wrap64 (x35_1 + 1)) a0_0 a0_1 l0_2 a1_0 a1_1 t309 t312) else (none)) else (impl_FillPeaceful.l0 k1 x10_1 t309 (t309.length : Int) (wrap64 (x35_1 + 1)) a0_0 a0_1 l0_2 a1_0 a1_1 t309 t312))) else (none)) = some (r1, r2) := H
   have A27 := Aside0.mk A270
   clear A270
   by_cases c28 : t325.length < 17592186044416
   rotate_left
   ·rw [if_neg c28] at H
    exact absurd H (by simp)
   rw [if_pos c28] at H
   have LMc28 := Aside0.mk c28
   clear c28
   obtain ⟨y328, hy328⟩ : ∃ y_ : List Int, y_ = (t325 ++ [rd t309 x35_1]) := ⟨_, rfl⟩
   replace H : ((impl_graph_peaceful.f k1 a0_0 a0_1 l0_2 a1_0 a1_1 t309 t312 y328).bind fun t331 => (if t331 = true then (if x10_1.length < 17592186044416 then (impl_FillPeaceful.l0 k1 (x10_1 ++ [rd t309 x35_1]) t309 (t309.length : Int) (wrap64 (x35_1 + 1)) a0_0 a0_1 l0_2 a1_0 a1_1 t309 t312) else (none)) else (impl_FillPeaceful.l0 k1 x10_1 t309 (t309.length : Int) (wrap64 (x35_1 + 1)) a0_0 a0_1 l0_2 a1_0 a1_1 t309 t312))) = some (r1, r2) := by first | (rw [hy328]; with_reducible exact H) | (have H2_ := (Option.bind_some _ _).symm.trans H; rw [hy328]; with_reducible exact H2_) | (have H2_ := (Option.bind_some _ _).symm.trans H; with_reducible exact H2_) | with_reducible exact H | (rw [hy328]; exact H) | exact H
   have Ny328 := Aside0.mk hy328
   clear hy328
   replace H := Option.bind_eq_some_iff.mp H
   obtain ⟨t331, A290, H⟩ := H
   replace H : (if t331 = true then (if x10_1.length < 17592186044416 then (impl_FillPeaceful.l0 k1 (x10_1 ++ [rd t309 x35_1]) t309 (t309.length : Int) (wrap64 (x35_1 + 1)) a0_0 a0_1 l0_2 a1_0 a1_1 t309 t312) else (none)) else (impl_FillPeaceful.l0 k1 x10_1 t309 (t309.length : Int) (wrap64 (x35_1 + 1)) a0_0 a0_1 l0_2 a1_0 a1_1 t309 t312)) = some (r1, r2) := H
   have A29 := Aside0.mk A290
   clear A290
   by_cases c30 : t331 = true
   rotate_left
   ·replace c30 := Bool.eq_false_iff.mpr c30
    subst c30
    have H1 : (impl_FillPeaceful.l0 k1 x10_1 t309 (t309.length : Int) (wrap64 (x35_1 + 1)) a0_0 a0_1 l0_2 a1_0 a1_1 t309 t312) = some (r1, r2) := by rw [if_neg (show ¬ (false = true) by decide)] at H; exact H
    clear H
    have H := H1
    clear H1
    have H' := Aside0.mk H
    clear H
    have p323 : 0 ≤ (x35_1 : Int) := of_decide_eq_true zi12
    have q323 : x35_1 < (t309.length : Int) := of_decide_eq_true zi12
    obtain ⟨ad323, e323, hx323_0⟩ := Kd.at_int (Kd.R_reads' HO_33.out).2.2 x35_1 p323 q323
    cases e323
    replace p323 := eq_true p323
    replace q323 := eq_true q323
    obtain ⟨Ao37, co37, eo37⟩ := Kd.R_slice HO_10.out
    subst eo37
    go_wp2_with (first | ((with_reducible refine gate_callee (f := 41) rfl ?_); refine goesL_ (some 41) rfl rfl Try.func41 (by kernel_rfl) rfl #[.slice Ao37 x10_1.length co37, .int .i64 (rd t309 x35_1)] rfl zi3 ?_; (with_reducible refine (slices_Contains_int_int.calls k1 _ _ x10_1 (rd t309 x35_1) false _ ?side1 ?side2 A24.out).mono ?_); (case side1 => exact zi22); (case side2 => exact (Kd.R_reads' HO_10.out).2.1); rintro e w' ⟨rfl, ⟨nd, rfl⟩⟩; refine ⟨_, rfl, ?_⟩) | ((with_reducible refine gate_callee (f := 40) rfl ?_); refine goesL_ (some 44) rfl rfl Try.func40 (by kernel_rfl) rfl #[.slice Ao37 x10_1.length co37] rfl zi3 ?_; (with_reducible refine (slices_Clone_int_int.calls _ _ x10_1 t325 _ ?side1 ?side2 A27.out).mono ?_); (case side1 => exact zi22); (case side2 => exact (Kd.R_reads' HO_10.out).2.1); rintro e w38 ⟨v326, rfl, ho0, hb⟩; refine ⟨_, rfl, ?_⟩; have n0_ := Aside0.mk (Kd.R_elder' zi19 (Kd.R_base ho0) hb); have n1_ := Aside0.mk (Kd.R_elder' zi18 (Kd.R_base ho0) hb); have n2_ := Aside0.mk (Kd.R_elder' zi16 (Kd.R_base ho0) hb); have n3_ := Aside0.mk (Kd.S_elder' zi26 (Kd.R_base ho0) hb); have n4_ := Aside0.mk (Kd.R_lower (Kd.R_new' (Kd.R_new' (Kd.R_new' ho0 (Kd.R_lt zi19)) (Kd.R_lt zi18)) (Kd.R_lt zi16)) (below_size zi1)); have n5_ := Aside0.mk (blk_below (g := gb307) (o := .cells #[.int .i64 a0_0, .int .i64 a0_1, .slice A0_2 l0_2.length c0_2] 31 (0, 0)) zi2 hb); have n6_ := Aside0.mk (blk_below (g := gb308) (o := .cells #[.int .i64 a1_0, .int .i64 a1_1] 33 (0, 0)) zi8 hb); have n7_ := Aside0.mk (blk_below (g := gb315) (o := .cells #[.int .i64 a0_0, .int .i64 a0_1, .slice A0_2 l0_2.length c0_2, .int .i64 a1_0, .int .i64 a1_1, .slice (some ad323) t309.length co15, .slice Ao16 t312.length co16] 59 (0, 0)) zi10 hb); have n8_ := Aside0.mk (below_step zi1 hb); clear HO_10; clear HO_33; clear HO_316005; clear HO_316006; clear BK307; clear BK308; clear BK315; clear HB; have HO_10 := n0_; have HO_33 := n1_; have HO_316005 := n2_; have HO_316006 := n3_; have HO327 := n4_; have BK307 := n5_; have BK308 := n6_; have BK315 := n7_; have HB := n8_; clear n0_ n1_ n2_ n3_ n4_ n5_ n6_ n7_ n8_; (try clear hb); (try clear hb2); (try clear hk); (try clear hi); (try clear ho0); (try clear hna_); (try clear hnb_)) | ((with_reducible refine gate_builtin (b := .append) (xs := #[.tmp 44, .tmp 46]) rfl ?_); at_builtin; refine Kd.R_append (Kd.int .i64) (w0 := w) w.heap.size rfl (.tmp 44) (.tmp 46) 22 3 (.int .i64 0) 8 rfl Try.underlying22 info3 rfl (by decide) (by omega) v326 t325 (rd t309 x35_1) [.int .i64 (rd t309 x35_1)] (fun k_ => some k_ ≠ (.slice Ao37 x10_1.length co37 : Value).ownBlock ∧ some k_ ≠ (.slice (some ad323) t309.length co15 : Value).ownBlock ∧ some k_ ≠ (.slice (some ad323) t309.length co15 : Value).ownBlock) (fun _ => False) rfl rfl ?aP (fun _ hk => hk.elim) ?aF ?aO ?aB ?aS ?aL ?_; (case aP => exact rfl); (case aB => exact zi1); (case aF => exact (fun k_ hk => ⟨Kd.fresh' (Kd.R_lt zi19) k_ hk, Kd.fresh' (Kd.R_lt zi18) k_ hk, Kd.fresh' (Kd.R_lt zi16) k_ hk⟩)); (case aO => exact zi34); (case aS => exact (below_size zi1)); (case aL => have := LMc28.out; omega); intro v329 w39 ho hb hg hat; rw [← Ny328.out] at ho; have n0_ := Aside0.mk (Kd.R_after (ok := (fun k_ => some k_ ≠ (.slice (some ad323) t309.length co15 : Value).ownBlock ∧ some k_ ≠ (.slice (some ad323) t309.length co15 : Value).ownBlock)) zi19 hg hat); have n1_ := Aside0.mk (Kd.R_after (ok := (fun k_ => some k_ ≠ (.slice Ao37 x10_1.length co37 : Value).ownBlock)) zi18 hg hat); have n2_ := Aside0.mk (Kd.R_after (ok := (fun k_ => some k_ ≠ (.slice Ao37 x10_1.length co37 : Value).ownBlock)) zi16 hg hat); have n3_ := Aside0.mk (Kd.S_after (ok := (fun k_ => some k_ ≠ (.slice Ao37 x10_1.length co37 : Value).ownBlock ∧ some k_ ≠ (.slice (some ad323) t309.length co15 : Value).ownBlock ∧ some k_ ≠ (.slice (some ad323) t309.length co15 : Value).ownBlock)) zi26 hg hat); have n4_ := Aside0.mk (blk_grown (g := gb307) (o := .cells #[.int .i64 a0_0, .int .i64 a0_1, .slice A0_2 l0_2.length c0_2] 31 (0, 0)) zi2 hg (Kd.R_ne HO327.out BK307.out (by decide))); have n5_ := Aside0.mk (blk_grown (g := gb308) (o := .cells #[.int .i64 a1_0, .int .i64 a1_1] 33 (0, 0)) zi8 hg (Kd.R_ne HO327.out BK308.out (by decide))); have n6_ := Aside0.mk (blk_grown (g := gb315) (o := .cells #[.int .i64 a0_0, .int .i64 a0_1, .slice A0_2 l0_2.length c0_2, .int .i64 a1_0, .int .i64 a1_1, .slice (some ad323) t309.length co15, .slice Ao16 t312.length co16] 59 (0, 0)) zi10 hg (Kd.R_ne HO327.out BK315.out (by decide))); have n7_ := Aside0.mk (hb); have n8_ := Aside0.mk (ho); clear HO_10; clear HO_33; clear HO_316005; clear HO_316006; clear BK307; clear BK308; clear BK315; clear HB; clear HO327; have HO_10 := n0_; have HO_33 := n1_; have HO_316005 := n2_; have HO_316006 := n3_; have BK307 := n4_; have BK308 := n5_; have BK315 := n6_; have HB := n7_; have HO330 := n8_; clear n0_ n1_ n2_ n3_ n4_ n5_ n6_ n7_ n8_; clear ho hb hg hat; obtain ⟨Ao40, co40, eo40⟩ := Kd.R_slice HO330.out; subst eo40) | ((with_reducible refine gate_callee (f := 39) rfl ?_); refine goesL_ (some 48) rfl rfl Try.func39 (by kernel_rfl) rfl #[.pointer (some ⟨gb315, 0, none⟩), .slice Ao40 y328.length co40] rfl zi3 ?_; (with_reducible refine (impl_graph_peaceful.calls k1 gb315 a0_0 a0_1 A0_2 c0_2 l0_2 a1_0 a1_1 (some ad323) co15 t309 Ao16 co16 t312 _ _ y328 false _ ?side1 ?side2 ?side3 ?side4 ?side5 ?side6 ?side7 ?side8 ?side9 A29.out).mono ?_); (case side1 => exact zi10); (case side2 => exact zi7); (case side3 => exact HC0_2.out); (case side4 => exact zi33); (case side5 => exact (Kd.R_reads' HO_316005.out).2.1); (case side6 => exact zi32); (case side7 => exact (Kd.S_reads' HO_316006.out).2.1); (case side8 => exact zi36); (case side9 => exact (Kd.R_reads' HO330.out).2.1); rintro e w' ⟨rfl, ⟨nd, rfl⟩⟩; refine ⟨_, rfl, ?_⟩))
    go_roundg k1
    case measure => have := HK1.out; omega
    case rel => exact ⟨(x10_1), (wrap64 (x35_1 + 1)), zi25, H', ⟨by have := HK1.out; omega⟩, ⟨by (with_reducible repeat (first | apply Kd.R_alloc | apply Kd.R_drewN | apply Kd.R_drew)); exact Kd.R_mono HO_10.out (fun _ hk => ⟨hk.1.1, hk.1.2⟩)⟩, ⟨by (with_reducible repeat (first | apply Kd.R_alloc | apply Kd.R_drewN | apply Kd.R_drew)); exact Kd.R_mono HO_33.out (fun _ hk => hk.1)⟩, ⟨by (with_reducible repeat (first | apply Kd.R_alloc | apply Kd.R_drewN | apply Kd.R_drew)); exact Kd.R_mono HO_316005.out (fun _ hk => hk.1)⟩, ⟨by (with_reducible repeat (first | apply Kd.S_alloc | apply Kd.S_drewN | apply Kd.S_drew)); exact Kd.S_mono HO_316006.out (fun _ hk => ⟨hk.1.1, ⟨hk.1.2.1, hk.1.2.2⟩⟩)⟩, ⟨zi2⟩, ⟨zi8⟩, ⟨zi10⟩, ⟨zi1⟩⟩
   subst c30
   have H1 : (if x10_1.length < 17592186044416 then (impl_FillPeaceful.l0 k1 (x10_1 ++ [rd t309 x35_1]) t309 (t309.length : Int) (wrap64 (x35_1 + 1)) a0_0 a0_1 l0_2 a1_0 a1_1 t309 t312) else (none)) = some (r1, r2) := by rw [if_pos rfl] at H; exact H
   clear H
   have H := H1
   clear H1
   by_cases c31 : x10_1.length < 17592186044416
   rotate_left
   ·rw [if_neg c31] at H
    exact absurd H (by simp)
   rw [if_pos c31] at H
   have LMc31 := Aside0.mk c31
   clear c31
   obtain ⟨y332, hy332⟩ : ∃ y_ : List Int, y_ = (x10_1 ++ [rd t309 x35_1]) := ⟨_, rfl⟩
   replace H : (impl_FillPeaceful.l0 k1 y332 t309 (t309.length : Int) (wrap64 (x35_1 + 1)) a0_0 a0_1 l0_2 a1_0 a1_1 t309 t312) = some (r1, r2) := by first | (rw [hy332]; with_reducible exact H) | (have H2_ := (Option.bind_some _ _).symm.trans H; rw [hy332]; with_reducible exact H2_) | (have H2_ := (Option.bind_some _ _).symm.trans H; with_reducible exact H2_) | with_reducible exact H | (rw [hy332]; exact H) | exact H
   have Ny332 := Aside0.mk hy332
   clear hy332
   have H' := Aside0.mk H
   clear H
   have p323 : 0 ≤ (x35_1 : Int) := of_decide_eq_true zi12
   have q323 : x35_1 < (t309.length : Int) := of_decide_eq_true zi12
   obtain ⟨ad323, e323, hx323_0⟩ := Kd.at_int (Kd.R_reads' HO_33.out).2.2 x35_1 p323 q323
   cases e323
   replace p323 := eq_true p323
   replace q323 := eq_true q323
   obtain ⟨Ao32, co32, eo32⟩ := Kd.R_slice HO_10.out
   subst eo32
   go_wp2_with (first | ((with_reducible refine gate_callee (f := 41) rfl ?_); refine goesL_ (some 41) rfl rfl Try.func41 (by kernel_rfl) rfl #[.slice Ao32 x10_1.length co32, .int .i64 (rd t309 x35_1)] rfl zi3 ?_; (with_reducible refine (slices_Contains_int_int.calls k1 _ _ x10_1 (rd t309 x35_1) false _ ?side1 ?side2 A24.out).mono ?_); (case side1 => exact zi22); (case side2 => exact (Kd.R_reads' HO_10.out).2.1); rintro e w' ⟨rfl, ⟨nd, rfl⟩⟩; refine ⟨_, rfl, ?_⟩) | ((with_reducible refine gate_callee (f := 40) rfl ?_); refine goesL_ (some 44) rfl rfl Try.func40 (by kernel_rfl) rfl #[.slice Ao32 x10_1.length co32] rfl zi3 ?_; (with_reducible refine (slices_Clone_int_int.calls _ _ x10_1 t325 _ ?side1 ?side2 A27.out).mono ?_); (case side1 => exact zi22); (case side2 => exact (Kd.R_reads' HO_10.out).2.1); rintro e w33 ⟨v326, rfl, ho0, hb⟩; refine ⟨_, rfl, ?_⟩; have n0_ := Aside0.mk (Kd.R_elder' zi19 (Kd.R_base ho0) hb); have n1_ := Aside0.mk (Kd.R_elder' zi18 (Kd.R_base ho0) hb); have n2_ := Aside0.mk (Kd.R_elder' zi16 (Kd.R_base ho0) hb); have n3_ := Aside0.mk (Kd.S_elder' zi26 (Kd.R_base ho0) hb); have n4_ := Aside0.mk (Kd.R_lower (Kd.R_new' (Kd.R_new' (Kd.R_new' ho0 (Kd.R_lt zi19)) (Kd.R_lt zi18)) (Kd.R_lt zi16)) (below_size zi1)); have n5_ := Aside0.mk (blk_below (g := gb307) (o := .cells #[.int .i64 a0_0, .int .i64 a0_1, .slice A0_2 l0_2.length c0_2] 31 (0, 0)) zi2 hb); have n6_ := Aside0.mk (blk_below (g := gb308) (o := .cells #[.int .i64 a1_0, .int .i64 a1_1] 33 (0, 0)) zi8 hb); have n7_ := Aside0.mk (blk_below (g := gb315) (o := .cells #[.int .i64 a0_0, .int .i64 a0_1, .slice A0_2 l0_2.length c0_2, .int .i64 a1_0, .int .i64 a1_1, .slice (some ad323) t309.length co15, .slice Ao16 t312.length co16] 59 (0, 0)) zi10 hb); have n8_ := Aside0.mk (below_step zi1 hb); clear HO_10; clear HO_33; clear HO_316005; clear HO_316006; clear BK307; clear BK308; clear BK315; clear HB; have HO_10 := n0_; have HO_33 := n1_; have HO_316005 := n2_; have HO_316006 := n3_; have HO327 := n4_; have BK307 := n5_; have BK308 := n6_; have BK315 := n7_; have HB := n8_; clear n0_ n1_ n2_ n3_ n4_ n5_ n6_ n7_ n8_; (try clear hb); (try clear hb2); (try clear hk); (try clear hi); (try clear ho0); (try clear hna_); (try clear hnb_)) | ((with_reducible refine gate_builtin (b := .append) (xs := #[.tmp 44, .tmp 46]) rfl ?_); at_builtin; refine Kd.R_append (Kd.int .i64) (w0 := w) w.heap.size rfl (.tmp 44) (.tmp 46) 22 3 (.int .i64 0) 8 rfl Try.underlying22 info3 rfl (by decide) (by omega) v326 t325 (rd t309 x35_1) [.int .i64 (rd t309 x35_1)] (fun k_ => some k_ ≠ (.slice Ao32 x10_1.length co32 : Value).ownBlock ∧ some k_ ≠ (.slice (some ad323) t309.length co15 : Value).ownBlock ∧ some k_ ≠ (.slice (some ad323) t309.length co15 : Value).ownBlock) (fun _ => False) rfl rfl ?aP (fun _ hk => hk.elim) ?aF ?aO ?aB ?aS ?aL ?_; (case aP => exact rfl); (case aB => exact zi1); (case aF => exact (fun k_ hk => ⟨Kd.fresh' (Kd.R_lt zi19) k_ hk, Kd.fresh' (Kd.R_lt zi18) k_ hk, Kd.fresh' (Kd.R_lt zi16) k_ hk⟩)); (case aO => exact zi34); (case aS => exact (below_size zi1)); (case aL => have := LMc28.out; omega); intro v329 w34 ho hb hg hat; rw [← Ny328.out] at ho; have n0_ := Aside0.mk (Kd.R_after (ok := (fun k_ => some k_ ≠ (.slice (some ad323) t309.length co15 : Value).ownBlock ∧ some k_ ≠ (.slice (some ad323) t309.length co15 : Value).ownBlock)) zi19 hg hat); have n1_ := Aside0.mk (Kd.R_after (ok := (fun k_ => some k_ ≠ (.slice Ao32 x10_1.length co32 : Value).ownBlock)) zi18 hg hat); have n2_ := Aside0.mk (Kd.R_after (ok := (fun k_ => some k_ ≠ (.slice Ao32 x10_1.length co32 : Value).ownBlock)) zi16 hg hat); have n3_ := Aside0.mk (Kd.S_after (ok := (fun k_ => some k_ ≠ (.slice Ao32 x10_1.length co32 : Value).ownBlock ∧ some k_ ≠ (.slice (some ad323) t309.length co15 : Value).ownBlock ∧ some k_ ≠ (.slice (some ad323) t309.length co15 : Value).ownBlock)) zi26 hg hat); have n4_ := Aside0.mk (blk_grown (g := gb307) (o := .cells #[.int .i64 a0_0, .int .i64 a0_1, .slice A0_2 l0_2.length c0_2] 31 (0, 0)) zi2 hg (Kd.R_ne HO327.out BK307.out (by decide))); have n5_ := Aside0.mk (blk_grown (g := gb308) (o := .cells #[.int .i64 a1_0, .int .i64 a1_1] 33 (0, 0)) zi8 hg (Kd.R_ne HO327.out BK308.out (by decide))); have n6_ := Aside0.mk (blk_grown (g := gb315) (o := .cells #[.int .i64 a0_0, .int .i64 a0_1, .slice A0_2 l0_2.length c0_2, .int .i64 a1_0, .int .i64 a1_1, .slice (some ad323) t309.length co15, .slice Ao16 t312.length co16] 59 (0, 0)) zi10 hg (Kd.R_ne HO327.out BK315.out (by decide))); have n7_ := Aside0.mk (hb); have n8_ := Aside0.mk (ho); clear HO_10; clear HO_33; clear HO_316005; clear HO_316006; clear BK307; clear BK308; clear BK315; clear HB; clear HO327; have HO_10 := n0_; have HO_33 := n1_; have HO_316005 := n2_; have HO_316006 := n3_; have BK307 := n4_; have BK308 := n5_; have BK315 := n6_; have HB := n7_; have HO330 := n8_; clear n0_ n1_ n2_ n3_ n4_ n5_ n6_ n7_ n8_; clear ho hb hg hat; obtain ⟨Ao35, co35, eo35⟩ := Kd.R_slice HO330.out; subst eo35) | ((with_reducible refine gate_callee (f := 39) rfl ?_); refine goesL_ (some 48) rfl rfl Try.func39 (by kernel_rfl) rfl #[.pointer (some ⟨gb315, 0, none⟩), .slice Ao35 y328.length co35] rfl zi3 ?_; (with_reducible refine (impl_graph_peaceful.calls k1 gb315 a0_0 a0_1 A0_2 c0_2 l0_2 a1_0 a1_1 (some ad323) co15 t309 Ao16 co16 t312 _ _ y328 true _ ?side1 ?side2 ?side3 ?side4 ?side5 ?side6 ?side7 ?side8 ?side9 A29.out).mono ?_); (case side1 => exact zi10); (case side2 => exact zi7); (case side3 => exact HC0_2.out); (case side4 => exact zi33); (case side5 => exact (Kd.R_reads' HO_316005.out).2.1); (case side6 => exact zi32); (case side7 => exact (Kd.S_reads' HO_316006.out).2.1); (case side8 => exact zi36); (case side9 => exact (Kd.R_reads' HO330.out).2.1); rintro e w' ⟨rfl, ⟨nd, rfl⟩⟩; refine ⟨_, rfl, ?_⟩) | ((with_reducible refine gate_builtin (b := .append) (xs := #[.tmp 49, .tmp 51]) rfl ?_); at_builtin; refine Kd.R_append (Kd.int .i64) (w0 := w) w.heap.size rfl (.tmp 49) (.tmp 51) 22 3 (.int .i64 0) 8 rfl Try.underlying22 info3 rfl (by decide) (by omega) (.slice Ao32 x10_1.length co32) x10_1 (rd t309 x35_1) [.int .i64 (rd t309 x35_1)] (fun k_ => some k_ ≠ (.slice (some ad323) t309.length co15 : Value).ownBlock ∧ some k_ ≠ (.slice (some ad323) t309.length co15 : Value).ownBlock ∧ some k_ ≠ (.slice Ao35 y328.length co35 : Value).ownBlock) (fun _ => False) rfl rfl ?aP (fun _ hk => hk.elim) ?aF ?aO ?aB ?aS ?aL ?_; (case aP => exact rfl); (case aB => exact zi1); (case aF => exact (fun k_ hk => ⟨Kd.fresh' (Kd.R_lt zi18) k_ hk, Kd.fresh' (Kd.R_lt zi16) k_ hk, Kd.fresh' (Kd.R_lt (by first | exact HO330.out | ((with_reducible repeat (first | apply Kd.R_alloc | apply Kd.R_drewN | apply Kd.R_drew)); exact HO330.out))) k_ hk⟩)); (case aO => exact (by (with_reducible repeat (first | apply Kd.R_alloc | apply Kd.R_drewN | apply Kd.R_drew)); exact Kd.R_mono HO_10.out (fun _ hk => ⟨hk.1.1, ⟨hk.1.2, hk.2⟩⟩))); (case aS => exact (below_size zi1)); (case aL => have := LMc31.out; omega); intro v333 w36 ho hb hg hat; rw [← Ny332.out] at ho; have n0_ := Aside0.mk (Kd.R_after (ok := (fun k_ => some k_ ≠ (.slice Ao35 y328.length co35 : Value).ownBlock)) (by (with_reducible repeat (first | apply Kd.R_alloc | apply Kd.R_drewN | apply Kd.R_drew)); exact Kd.R_mono HO_33.out (fun _ hk => ⟨hk.2, hk.1⟩)) hg hat); have n1_ := Aside0.mk (Kd.R_after (ok := (fun k_ => some k_ ≠ (.slice Ao35 y328.length co35 : Value).ownBlock)) (by (with_reducible repeat (first | apply Kd.R_alloc | apply Kd.R_drewN | apply Kd.R_drew)); exact Kd.R_mono HO_316005.out (fun _ hk => ⟨hk.2, hk.1⟩)) hg hat); have n2_ := Aside0.mk (Kd.S_after (ok := (fun k_ => some k_ ≠ (.slice (some ad323) t309.length co15 : Value).ownBlock ∧ some k_ ≠ (.slice (some ad323) t309.length co15 : Value).ownBlock ∧ some k_ ≠ (.slice Ao35 y328.length co35 : Value).ownBlock)) (by (with_reducible repeat (first | apply Kd.S_alloc | apply Kd.S_drewN | apply Kd.S_drew)); exact Kd.S_mono HO_316006.out (fun _ hk => ⟨⟨hk.1.2.1, ⟨hk.1.2.2, hk.2⟩⟩, hk.1.1⟩)) hg hat); have n3_ := Aside0.mk (blk_grown (g := gb307) (o := .cells #[.int .i64 a0_0, .int .i64 a0_1, .slice A0_2 l0_2.length c0_2] 31 (0, 0)) zi2 hg (Kd.R_ne HO_10.out BK307.out (by decide))); have n4_ := Aside0.mk (blk_grown (g := gb308) (o := .cells #[.int .i64 a1_0, .int .i64 a1_1] 33 (0, 0)) zi8 hg (Kd.R_ne HO_10.out BK308.out (by decide))); have n5_ := Aside0.mk (blk_grown (g := gb315) (o := .cells #[.int .i64 a0_0, .int .i64 a0_1, .slice A0_2 l0_2.length c0_2, .int .i64 a1_0, .int .i64 a1_1, .slice (some ad323) t309.length co15, .slice Ao16 t312.length co16] 59 (0, 0)) zi10 hg (Kd.R_ne HO_10.out BK315.out (by decide))); have n6_ := Aside0.mk (Kd.R_after (ok := (fun k_ => some k_ ≠ (.slice (some ad323) t309.length co15 : Value).ownBlock ∧ some k_ ≠ (.slice (some ad323) t309.length co15 : Value).ownBlock)) (by (with_reducible repeat (first | apply Kd.R_alloc | apply Kd.R_drewN | apply Kd.R_drew)); exact Kd.R_mono HO330.out (fun _ hk => ⟨⟨hk.2.1, hk.2.2⟩, hk.1⟩)) hg hat); have n7_ := Aside0.mk (hb); have n8_ := Aside0.mk (ho); clear HO_33; clear HO_316005; clear HO_316006; clear BK307; clear BK308; clear BK315; clear HO330; clear HB; clear HO_10; have HO_33 := n0_; have HO_316005 := n1_; have HO_316006 := n2_; have BK307 := n3_; have BK308 := n4_; have BK315 := n5_; have HO330 := n6_; have HB := n7_; have HO334 := n8_; clear n0_ n1_ n2_ n3_ n4_ n5_ n6_ n7_ n8_; clear ho hb hg hat))
   go_roundg k1
   case measure => have := HK1.out; omega
   case rel => exact ⟨(y332), (wrap64 (x35_1 + 1)), zi25, H', ⟨by have := HK1.out; omega⟩, ⟨by (with_reducible repeat (first | apply Kd.R_alloc | apply Kd.R_drewN | apply Kd.R_drew)); exact Kd.R_mono HO334.out (fun _ hk => ⟨hk.1, hk.2.1⟩)⟩, ⟨by (with_reducible repeat (first | apply Kd.R_alloc | apply Kd.R_drewN | apply Kd.R_drew)); exact Kd.R_mono HO_33.out (fun _ hk => hk.2)⟩, ⟨by (with_reducible repeat (first | apply Kd.R_alloc | apply Kd.R_drewN | apply Kd.R_drew)); exact Kd.R_mono HO_316005.out (fun _ hk => hk.2)⟩, ⟨by (with_reducible repeat (first | apply Kd.S_alloc | apply Kd.S_drewN | apply Kd.S_drew)); exact Kd.S_mono HO_316006.out (fun _ hk => ⟨hk.2, ⟨hk.1.1, hk.1.2.1⟩⟩)⟩, ⟨zi2⟩, ⟨zi8⟩, ⟨zi10⟩, ⟨zi1⟩⟩

end Go.Proofs.Ytemaokhlolimhaa.Q

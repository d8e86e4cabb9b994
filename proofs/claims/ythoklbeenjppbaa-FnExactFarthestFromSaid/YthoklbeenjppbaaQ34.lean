/- Written by a program of this session: functions of the translation as plain Lean functions, each with a proof that the call does what the plain function says; the conditions stand in each theorem. -/
import Derived.Test.YthoklbeenjppbaaQ0
import Derived.Test.YthoklbeenjppbaaQ2
import Derived.Test.YthoklbeenjppbaaQ11
import Derived.Test.YthoklbeenjppbaaQ13
import Derived.Test.YthoklbeenjppbaaQ14
import Derived.Test.YthoklbeenjppbaaHSort
namespace Go.Proofs.Ythoklbeenjppbaa.Q
open Go.RowKit Go.Proofs.YthoklbeenjppbaaW.PrintWords Go.Proofs.YthoklbeenjppbaaW.PrintLast Go.Proofs.YthoklbeenjppbaaW.PrintMore
attribute [local go_sem] max2_int min2_int max_two min_two max_three min_three max_four min_four   -- for this text's walks alone
set_option linter.unusedVariables false
set_option linter.unusedSimpArgs false

theorem zai1 {p : Prop} (h : p := by repeat (first | (with_reducible first | exact HB.out | apply below_alloc | apply pw_below_drewN | apply below_drew1 | refine below_set ?_ GE822.out | refine below_set ?_ GE823.out) | exact HB.out)) : p := h
theorem zai2 {p : Prop} (h : p := by repeat (first | (with_reducible first | exact HB.out | apply below_alloc | apply pw_below_drewN | apply below_drew1) | exact HB.out)) : p := h
theorem zai3 {p : Prop} (h : p := by (with_reducible repeat (first | refine blk_drewN ?_ _ | refine blk_drew ?_ | refine blk_alloc ?_ _)); exact BK822.out) : p := h
theorem zai4 {p : Prop} (h : p := by (try simp only [List.map_toArray, List.map_cons, List.map_nil]); first | done | rfl | (simp only [List.length_drop, List.length_take]; rfl)) : p := h
theorem zai5 {p : Prop} (h : p := by repeat (first | (with_reducible first | exact HB.out | apply below_alloc | apply pw_below_drewN | apply below_drew1 | refine below_set ?_ GE814.out | refine below_set ?_ GE815.out) | exact HB.out)) : p := h
theorem zai6 {p : Prop} (h : p := by (with_reducible repeat (first | refine blk_drewN ?_ _ | refine blk_drew ?_ | refine blk_alloc ?_ _)); exact BK814.out) : p := h
theorem zai7 {p : Prop} (h : p := by repeat (first | exact (Kd.C_below HR0_2.out HB.out) | (with_reducible refine Kd.C_alloc ?_ _) | (with_reducible refine Kd.C_drewN ?_ _) | (with_reducible refine Kd.C_drew ?_))) : p := h
theorem zai8 {p : Prop} (h : p := by repeat (first | (with_reducible first | exact HB.out | apply below_alloc | apply pw_below_drewN | apply below_drew1 | refine below_set ?_ GE822.out) | exact HB.out)) : p := h
theorem zai9 {p : Prop} (h : p := by repeat (first | (with_reducible first | exact HB.out | apply below_alloc | apply pw_below_drewN | apply below_drew1 | refine below_set ?_ GE814.out) | exact HB.out)) : p := h
theorem zai10 {p : Prop} (h : p := by first | (with_reducible assumption) | assumption) : p := h
theorem zai11 {p : Prop} (h : p := by (with_reducible repeat (first | refine blk_drewN ?_ _ | refine blk_drew ?_ | refine blk_alloc ?_ _)); exact BK823.out) : p := h
theorem zai12 {p : Prop} (h : p := by repeat (first | (with_reducible first | exact HB.out | apply below_alloc | apply pw_below_drewN | apply below_drew1 | refine below_set ?_ GE822.out | refine below_set ?_ GE823.out | refine below_set ?_ GE830.out) | exact HB.out)) : p := h
theorem zai13 {p : Prop} (h : p := by first | rfl | (simp; done) | (simp [*]; done)) : p := h
theorem zai14 {p : Prop} (h : p := by first | rfl | (simp [errW_none, errW_some] <;> rfl) | (simp [*, errW_none, errW_some] <;> rfl)) : p := h
theorem zai15 {p : Prop} (h : p := by repeat (first | exact Drawn0.refl _ | apply Drawn0.step)) : p := h
theorem zai16 {p : Prop} (h : p := by (with_reducible repeat (first | refine blk_drewN ?_ _ | refine blk_drew ?_ | refine blk_alloc ?_ _)); exact BK815.out) : p := h
theorem zai17 {p : Prop} (h : p := by repeat (first | exact (Kd.R_reads' HO835.out).2.2 | (with_reducible refine Kd.C_alloc ?_ _) | (with_reducible refine Kd.C_drewN ?_ _) | (with_reducible refine Kd.C_drew ?_))) : p := h
theorem zai18 {p : Prop} (h : p := by (with_reducible repeat (first | refine blk_drewN ?_ _ | refine blk_drew ?_ | refine blk_alloc ?_ _)); exact BK830.out) : p := h
theorem zai19 {p : Prop} (h : p := by rw [hg]; exact (below_size zai2)) : p := h
theorem zai20 {p : Prop} (h : p := by rw [hg]; exact Nat.ne_of_lt (blk_lt (g := gb822) (o := .cells #[.int .i64 a0_0, .int .i64 a0_1, .slice A0_2 l0_2.length c0_2] 30 (0, 0)) zai3)) : p := h
theorem zai21 {p : Prop} (h : p := by rw [hg]; exact Nat.ne_of_lt (blk_lt (g := gb814) (o := .cells #[.int .i64 a0_0, .int .i64 a0_1, .slice A0_2 l0_2.length c0_2] 30 (0, 0)) zai6)) : p := h
theorem zai22 {p : Prop} (h : p := by rw [hg]; exact Nat.ne_of_gt (blk_lt (g := gb822) (o := .cells #[.int .i64 a0_0, .int .i64 a0_1, .slice A0_2 l0_2.length c0_2] 30 (0, 0)) zai3)) : p := h
theorem zai23 {p : Prop} (h : p := by rw [hg]; exact Nat.ne_of_gt (blk_lt (g := gb814) (o := .cells #[.int .i64 a0_0, .int .i64 a0_1, .slice A0_2 l0_2.length c0_2] 30 (0, 0)) zai6)) : p := h
/-! ### spec_faMost: function 72 -/
def spec_faMost.l0 : Nat → List Int → Int → List Int → Int → Int → Option (Int × Int)
 | 0, _, _, _, _, _ => none
 | k + 1, x0, x4, x7, x8, x9 => if x9 < x8 then (if 0 ≤ x9 then (if x9 < (x7.length : Int) then (if (rd x7 x9) ≥ 0 then (if x4 < 0 then (spec_faMost.l0 k x0 x9 x7 x8 (wrap64 (x9 + 1))) else (if 0 ≤ x4 then (if x4 < (x0.length : Int) then (if (rd x7 x9) > (rd x0 x4) then (spec_faMost.l0 k x0 x9 x7 x8 (wrap64 (x9 + 1))) else (spec_faMost.l0 k x0 x4 x7 x8 (wrap64 (x9 + 1)))) else (none)) else (none))) else (spec_faMost.l0 k x0 x4 x7 x8 (wrap64 (x9 + 1)))) else (none)) else (none)) else (if 0 ≤ x4 then (if x4 < (x0.length : Int) then (some (x4, rd x0 x4)) else (none)) else (none))
def spec_faMost.f (k : Nat) (l0 : List Int) : Option (Int × Int) := spec_faMost.l0 k l0 (-1) l0 (l0.length : Int) 0
set_option maxHeartbeats 8000000 in
set_option maxRecDepth 100000 in
theorem spec_faMost.calls (k : Nat) (A0 : Option Addr) (c0 : Nat) (l0 : List Int) (r1 : Int) (r2 : Int) (w : World) (hr0 : Kd.C (Kd.int .i64) w A0 l0.length l0) (hc0 : l0.length ≤ c0) (h : spec_faMost.f k l0 = some (r1, r2)) :
  Calls Try.prog 72 #[.slice A0 l0.length c0] w fun e w' => e = .returned (.tuple #[.int .i64 r1, .int .i64 r2]) ∧ Drawn0 w w' := by
 have HR0 := Aside0.mk hr0
 have HC0 := Aside0.mk hc0
 clear hr0 hc0
 have H : (spec_faMost.l0 k l0 (-1) l0 (l0.length : Int) 0) = some (r1, r2) := h
 clear h
 have H' := Aside0.mk H
 clear H
 go_enter Try.func72, Try.ntmps72
 go_wp2
 repeat ((first | go_quiet (fail) | (refine wp_region_quiet_lit (by kernel_rfl) (by kernel_rfl) ?_; (repeat (any_goals (first | go_big_quiet_step (fail) | quiet_step (fail)))); all_goals (refine wpQuiet_nil ?_; intro _ hw2_; obtain ⟨nq, hw3_⟩ := hw2_; subst hw3_))); try go_wp2)
 go_loopg [4, 9] k (fun kq v4 v9 w' => ∃ (x4_1 : Int) (x9_1 : Int), v4 = .int .i64 x4_1 ∧ v9 = .int .i64 x9_1 ∧ Aside0 (spec_faMost.l0 kq l0 x4_1 l0 (l0.length : Int) x9_1 = some (r1, r2)) ∧ Aside0 (kq ≤ k) ∧ Drawn0 w w')
 case atStart => exact ⟨((-1)), (0), zai13, zai13, H', ⟨Nat.le_refl _⟩, zai15⟩
 case round =>
  clear H'
  obtain ⟨x4_1, x9_1, rfl, rfl, HA, HK1, ⟨m1, rfl⟩⟩ := hrel
  cases gk with
  | zero => exact absurd HA.out (by simp [spec_faMost.l0])
  | succ k1 =>
   have H := HA.out
   clear HA
   simp only [spec_faMost.l0] at H
   by_cases c2 : x9_1 < (l0.length : Int)
   rotate_left
   ·rw [if_neg c2] at H
    have c2b0 : decide (x9_1 < (l0.length : Int)) = false := decide_eq_false c2
    clear c2
    by_cases c10 : 0 ≤ x4_1
    rotate_left
    ·rw [if_neg c10] at H
     exact absurd H (by simp)
    rw [if_pos c10] at H
    have c10b0 : decide (0 ≤ x4_1) = true := decide_eq_true c10
    clear c10
    by_cases c11 : x4_1 < (l0.length : Int)
    rotate_left
    ·rw [if_neg c11] at H
     exact absurd H (by simp)
    rw [if_pos c11] at H
    have c11b0 : decide (x4_1 < (l0.length : Int)) = true := decide_eq_true c11
    clear c11
    simp only [Option.some.injEq, Prod.mk.injEq] at H
    obtain ⟨rfl, rfl⟩ := H
    have p813 : 0 ≤ (x4_1 : Int) := of_decide_eq_true zai10
    have q813 : x4_1 < (l0.length : Int) := of_decide_eq_true zai10
    obtain ⟨ad813, e813, hx813_0⟩ := Kd.at_int HR0.out x4_1 p813 q813
    cases e813
    replace p813 := eq_true p813
    replace q813 := eq_true q813
    go_wp2
    repeat ((first | go_quiet (fail) | (refine wp_region_quiet_lit (by kernel_rfl) (by kernel_rfl) ?_; (repeat (any_goals (first | go_big_quiet_step (fail) | quiet_step (fail)))); all_goals (refine wpQuiet_nil ?_; intro _ hw2_; obtain ⟨nq, hw3_⟩ := hw2_; subst hw3_))); try go_wp2)
    go_ret2
    exact ⟨zai13, zai15⟩
   rw [if_pos c2] at H
   have c2b0 : decide (x9_1 < (l0.length : Int)) = true := decide_eq_true c2
   clear c2
   by_cases c3 : 0 ≤ x9_1
   rotate_left
   ·rw [if_neg c3] at H
    exact absurd H (by simp)
   rw [if_pos c3] at H
   have c3b0 : decide (0 ≤ x9_1) = true := decide_eq_true c3
   clear c3
   by_cases c4 : x9_1 < (l0.length : Int)
   rotate_left
   ·rw [if_neg c4] at H
    exact absurd H (by simp)
   rw [if_pos c4] at H
   have c4b0 : decide (x9_1 < (l0.length : Int)) = true := decide_eq_true c4
   clear c4
   by_cases c5 : (rd l0 x9_1) ≥ 0
   rotate_left
   ·rw [if_neg c5] at H
    have c5b0 : decide (0 ≤ (rd l0 x9_1)) = false := decide_eq_false c5
    clear c5
    have H' := Aside0.mk H
    clear H
    have p811 : 0 ≤ (x9_1 : Int) := of_decide_eq_true zai10
    have q811 : x9_1 < (l0.length : Int) := of_decide_eq_true zai10
    obtain ⟨ad811, e811, hx811_0⟩ := Kd.at_int HR0.out x9_1 p811 q811
    cases e811
    replace p811 := eq_true p811
    replace q811 := eq_true q811
    go_wp2
    repeat ((first | go_quiet (fail) | (refine wp_region_quiet_lit (by kernel_rfl) (by kernel_rfl) ?_; (repeat (any_goals (first | go_big_quiet_step (fail) | quiet_step (fail)))); all_goals (refine wpQuiet_nil ?_; intro _ hw2_; obtain ⟨nq, hw3_⟩ := hw2_; subst hw3_))); try go_wp2)
    go_roundg k1
    case measure => have := HK1.out; omega
    case rel => exact ⟨(x4_1), (wrap64 (x9_1 + 1)), zai13, zai13, H', ⟨by have := HK1.out; omega⟩, zai15⟩
   rw [if_pos c5] at H
   have c5b0 : decide (0 ≤ (rd l0 x9_1)) = true := decide_eq_true c5
   clear c5
   by_cases c6 : x4_1 < 0
   ·rw [if_pos c6] at H
    have c6b0 : decide (x4_1 < 0) = true := decide_eq_true c6
    clear c6
    have H' := Aside0.mk H
    clear H
    have p811 : 0 ≤ (x9_1 : Int) := of_decide_eq_true zai10
    have q811 : x9_1 < (l0.length : Int) := of_decide_eq_true zai10
    obtain ⟨ad811, e811, hx811_0⟩ := Kd.at_int HR0.out x9_1 p811 q811
    cases e811
    replace p811 := eq_true p811
    replace q811 := eq_true q811
    go_wp2
    repeat ((first | go_quiet (fail) | (refine wp_region_quiet_lit (by kernel_rfl) (by kernel_rfl) ?_; (repeat (any_goals (first | go_big_quiet_step (fail) | quiet_step (fail)))); all_goals (refine wpQuiet_nil ?_; intro _ hw2_; obtain ⟨nq, hw3_⟩ := hw2_; subst hw3_))); try go_wp2)
    go_roundg k1
    case measure => have := HK1.out; omega
    case rel => exact ⟨(x9_1), (wrap64 (x9_1 + 1)), zai13, zai13, H', ⟨by have := HK1.out; omega⟩, zai15⟩
   rw [if_neg c6] at H
   have c6b0 : decide (x4_1 < 0) = false := decide_eq_false c6
   clear c6
   by_cases c7 : 0 ≤ x4_1
   rotate_left
   ·rw [if_neg c7] at H
    exact absurd H (by simp)
   rw [if_pos c7] at H
   have c7b0 : decide (0 ≤ x4_1) = true := decide_eq_true c7
   clear c7
   by_cases c8 : x4_1 < (l0.length : Int)
   rotate_left
   ·rw [if_neg c8] at H
    exact absurd H (by simp)
   rw [if_pos c8] at H
   have c8b0 : decide (x4_1 < (l0.length : Int)) = true := decide_eq_true c8
   clear c8
   by_cases c9 : (rd l0 x9_1) > (rd l0 x4_1)
   ·rw [if_pos c9] at H
    have c9b0 : decide ((rd l0 x4_1) < (rd l0 x9_1)) = true := decide_eq_true c9
    clear c9
    have H' := Aside0.mk H
    clear H
    have p811 : 0 ≤ (x9_1 : Int) := of_decide_eq_true zai10
    have q811 : x9_1 < (l0.length : Int) := of_decide_eq_true zai10
    obtain ⟨ad811, e811, hx811_0⟩ := Kd.at_int HR0.out x9_1 p811 q811
    cases e811
    replace p811 := eq_true p811
    replace q811 := eq_true q811
    have p812 : 0 ≤ (x4_1 : Int) := of_decide_eq_true zai10
    have q812 : x4_1 < (l0.length : Int) := of_decide_eq_true zai10
    obtain ⟨ad812, e812, hx812_0⟩ := Kd.at_int HR0.out x4_1 p812 q812
    obtain rfl : ad811 = ad812 := (by injection e812)
    replace p812 := eq_true p812
    replace q812 := eq_true q812
    go_wp2
    repeat ((first | go_quiet (fail) | (refine wp_region_quiet_lit (by kernel_rfl) (by kernel_rfl) ?_; (repeat (any_goals (first | go_big_quiet_step (fail) | quiet_step (fail)))); all_goals (refine wpQuiet_nil ?_; intro _ hw2_; obtain ⟨nq, hw3_⟩ := hw2_; subst hw3_))); try go_wp2)
    go_roundg k1
    case measure => have := HK1.out; omega
    case rel => exact ⟨(x9_1), (wrap64 (x9_1 + 1)), zai13, zai13, H', ⟨by have := HK1.out; omega⟩, zai15⟩
   rw [if_neg c9] at H
   have c9b0 : decide ((rd l0 x4_1) < (rd l0 x9_1)) = false := decide_eq_false c9
   clear c9
   have H' := Aside0.mk H
   clear H
   have p811 : 0 ≤ (x9_1 : Int) := of_decide_eq_true zai10
   have q811 : x9_1 < (l0.length : Int) := of_decide_eq_true zai10
   obtain ⟨ad811, e811, hx811_0⟩ := Kd.at_int HR0.out x9_1 p811 q811
   cases e811
   replace p811 := eq_true p811
   replace q811 := eq_true q811
   have p812 : 0 ≤ (x4_1 : Int) := of_decide_eq_true zai10
   have q812 : x4_1 < (l0.length : Int) := of_decide_eq_true zai10
   obtain ⟨ad812, e812, hx812_0⟩ := Kd.at_int HR0.out x4_1 p812 q812
   obtain rfl : ad811 = ad812 := (by injection e812)
   replace p812 := eq_true p812
   replace q812 := eq_true q812
   go_wp2
   repeat ((first | go_quiet (fail) | (refine wp_region_quiet_lit (by kernel_rfl) (by kernel_rfl) ?_; (repeat (any_goals (first | go_big_quiet_step (fail) | quiet_step (fail)))); all_goals (refine wpQuiet_nil ?_; intro _ hw2_; obtain ⟨nq, hw3_⟩ := hw2_; subst hw3_))); try go_wp2)
   go_roundg k1
   case measure => have := HK1.out; omega
   case rel => exact ⟨(x4_1), (wrap64 (x9_1 + 1)), zai13, zai13, H', ⟨by have := HK1.out; omega⟩, zai15⟩

/-! ### spec_FarthestFrom: function 36 -/
def spec_FarthestFrom.f (k : Nat) (a0_0 : Int) (a0_1 : Int) (l0_2 : List Int) (a1_0 : Int) (a1_1 : Int) (a2 : Int) : Option (Int × Int × Bool) := (spec_faAsked.f k a0_0 a0_1 l0_2 a1_0 a1_1 a2 a2).bind fun t816 => (if t816 = true then ((spec_faFrom.f k a0_0 a0_1 l0_2 a1_0 a1_1 a2).bind fun t817 => ((spec_faMost.f k t817).bind fun bt820 => (some (bt820.1, bt820.2, true)))) else (some (0, 0, false)))
set_option maxHeartbeats 8000000 in
set_option maxRecDepth 100000 in
theorem spec_FarthestFrom.calls (k : Nat) (a0_0 : Int) (a0_1 : Int) (A0_2 : Option Addr) (c0_2 : Nat) (l0_2 : List Int) (a1_0 : Int) (a1_1 : Int) (a2 : Int) (r1 : Int) (r2 : Int) (r3 : Bool) (w : World) (hr0_2 : Kd.C (Kd.int .i64) w A0_2 l0_2.length l0_2) (hc0_2 : l0_2.length ≤ c0_2) (h : spec_FarthestFrom.f k a0_0 a0_1 l0_2 a1_0 a1_1 a2 = some (r1, r2, r3)) :
  Calls Try.prog 36 #[.agg #[.int .i64 a0_0, .int .i64 a0_1, .slice A0_2 l0_2.length c0_2], .agg #[.int .i64 a1_0, .int .i64 a1_1], .int .i64 a2] w fun e w' => e = .returned (.tuple #[.int .i64 r1, .int .i64 r2, .bool r3]) ∧ Below w.heap.size w w' := by
 have hu30 := Try.underlying30
 have hu32 := Try.underlying32
 have HR0_2 := Aside0.mk hr0_2
 have HC0_2 := Aside0.mk hc0_2
 clear hr0_2 hc0_2
 have HB := Aside0.mk (Below.refl w.heap.size w)
 have H : ((spec_faAsked.f k a0_0 a0_1 l0_2 a1_0 a1_1 a2 a2).bind fun t816 => (if t816 = true then ((spec_faFrom.f k a0_0 a0_1 l0_2 a1_0 a1_1 a2).bind fun t817 => ((spec_faMost.f k t817).bind fun bt820 => (some (bt820.1, bt820.2, true)))) else (some (0, 0, false)))) = some (r1, r2, r3) := h
 clear h
 replace H := Option.bind_eq_some_iff.mp H
 obtain ⟨t816, A40, H⟩ := H
 replace H : (if t816 = true then ((spec_faFrom.f k a0_0 a0_1 l0_2 a1_0 a1_1 a2).bind fun t817 => ((spec_faMost.f k t817).bind fun bt820 => (some (bt820.1, bt820.2, true)))) else (some (0, 0, false))) = some (r1, r2, r3) := H
 have A4 := Aside0.mk A40
 clear A40
 by_cases c5 : t816 = true
 rotate_left
 ·replace c5 := Bool.eq_false_iff.mpr c5
  subst c5
  have H1 : (some (0, 0, false)) = some (r1, r2, r3) := by rw [if_neg (show ¬ (false = true) by decide)] at H; exact H
  clear H
  have H := H1
  clear H1
  simp only [Option.some.injEq, Prod.mk.injEq] at H
  obtain ⟨rfl, rfl, rfl⟩ := H
  go_enter Try.func36, Try.ntmps36
  go_wp2_with (first | ((with_reducible refine gate_dst (N := 3) rfl ?_); refine box_event ?hg (N := 3) ?hd (cs := #[.int .i64 a0_0, .int .i64 a0_1, .slice A0_2 l0_2.length c0_2]) (t := 30) ?hr ?_; (case hd => rfl); (case hg => rfl); (case hr => first | (go_simp; done) | (go_simp; rfl)); intro gb814 hg w18 hbox hb; have n0_ := Aside0.mk (below_step zai2 hb); have n1_ := Aside0.mk (hbox); have n2_ := Aside0.mk ((zai19 : w.heap.size ≤ gb814)); have n3_ := Aside0.mk ((zai19 : w.heap.size ≤ gb814)); clear HB; have HB := n0_; have BK814 := n1_; have GW814 := n2_; have GE814 := n3_; clear n0_ n1_ n2_ n3_; clear hb hbox hg) | ((with_reducible refine gate_dst (N := 4) rfl ?_); refine box_event ?hg (N := 4) ?hd (cs := #[.int .i64 a1_0, .int .i64 a1_1]) (t := 32) ?hr ?_; (case hd => rfl); (case hg => rfl); (case hr => first | (go_simp; done) | (go_simp; rfl)); intro gb815 hg w19 hbox hb; have n0_ := Aside0.mk (blk_below (g := gb814) (o := .cells #[.int .i64 a0_0, .int .i64 a0_1, .slice A0_2 l0_2.length c0_2] 30 (0, 0)) zai6 hb); have n1_ := Aside0.mk (below_step zai9 hb); have n2_ := Aside0.mk (hbox); have n3_ := Aside0.mk ((by rw [hg]; exact (below_size zai9) : w.heap.size ≤ gb815)); have n4_ := Aside0.mk ((by rw [hg]; exact (below_size zai9) : w.heap.size ≤ gb815)); have n5_ := Aside0.mk ((zai21 : gb814 ≠ gb815)); have n6_ := Aside0.mk ((zai23 : gb815 ≠ gb814)); clear BK814; clear HB; have BK814 := n0_; have HB := n1_; have BK815 := n2_; have GW815 := n3_; have GE815 := n4_; have NB814_815 := n5_; have NB815_814 := n6_; clear n0_ n1_ n2_ n3_ n4_ n5_ n6_; clear hb hbox hg; have hnb20 := NB814_815.out; have hnc20 := NB815_814.out; have hcz21_0 : w19.cell? ⟨gb814, 0, none⟩ = some (.int .i64 a0_0) := (blk_cell BK814.out 0).trans rfl; have hcz21_1 : w19.cell? ⟨gb814, 1, none⟩ = some (.int .i64 a0_1) := (blk_cell BK814.out 1).trans rfl; have hcz21_2 : w19.cell? ⟨gb814, 2, none⟩ = some (.slice A0_2 l0_2.length c0_2) := (blk_cell BK814.out 2).trans rfl; have hfz21_0 := blk_frozen BK814.out 0; have hfz21_1 := blk_frozen BK814.out 1; have hfz21_2 := blk_frozen BK814.out 2; have hcz22_0 : w19.cell? ⟨gb815, 0, none⟩ = some (.int .i64 a1_0) := (blk_cell BK815.out 0).trans rfl; have hcz22_1 : w19.cell? ⟨gb815, 1, none⟩ = some (.int .i64 a1_1) := (blk_cell BK815.out 1).trans rfl; have hfz22_0 := blk_frozen BK815.out 0; have hfz22_1 := blk_frozen BK815.out 1) | ((with_reducible refine gate_callee (f := 53) rfl ?_); refine goesL_ (some 15) rfl rfl Try.func53 (by kernel_rfl) rfl #[.agg #[.int .i64 a0_0, .int .i64 a0_1, .slice A0_2 l0_2.length c0_2], .agg #[.int .i64 a1_0, .int .i64 a1_1], .int .i64 a2, .int .i64 a2] rfl zai4 ?_; (with_reducible refine (spec_faAsked.calls k a0_0 a0_1 _ _ l0_2 a1_0 a1_1 a2 a2 false _ ?side1 ?side2 A4.out).mono ?_); (case side1 => exact zai7); (case side2 => exact HC0_2.out); rintro e w23 ⟨rfl, hb⟩; refine ⟨_, rfl, ?_⟩; have n0_ := Aside0.mk (blk_below (g := gb814) (o := .cells #[.int .i64 a0_0, .int .i64 a0_1, .slice A0_2 l0_2.length c0_2] 30 (0, 0)) zai6 hb); have n1_ := Aside0.mk (blk_below (g := gb815) (o := .cells #[.int .i64 a1_0, .int .i64 a1_1] 32 (0, 0)) zai16 hb); have n2_ := Aside0.mk (below_step zai5 hb); clear BK814; clear BK815; clear HB; have BK814 := n0_; have BK815 := n1_; have HB := n2_; clear n0_ n1_ n2_; (try clear hb); (try clear hb2); (try clear hk); (try clear hi); (try clear hna_); (try clear hnb_)))
  go_ret3
  exact ⟨zai14, zai5⟩
 subst c5
 have H1 : ((spec_faFrom.f k a0_0 a0_1 l0_2 a1_0 a1_1 a2).bind fun t817 => ((spec_faMost.f k t817).bind fun bt820 => (some (bt820.1, bt820.2, true)))) = some (r1, r2, r3) := by rw [if_pos rfl] at H; exact H
 clear H
 have H := H1
 clear H1
 replace H := Option.bind_eq_some_iff.mp H
 obtain ⟨t817, A60, H⟩ := H
 replace H : ((spec_faMost.f k t817).bind fun bt820 => (some (bt820.1, bt820.2, true))) = some (r1, r2, r3) := H
 have A6 := Aside0.mk A60
 clear A60
 replace H := Option.bind_eq_some_iff.mp H
 obtain ⟨⟨t820, t821⟩, A70, H⟩ := H
 replace H : (some (t820, t821, true)) = some (r1, r2, r3) := H
 have A7 := Aside0.mk A70
 clear A70
 simp only [Option.some.injEq, Prod.mk.injEq] at H
 obtain ⟨rfl, rfl, rfl⟩ := H
 go_enter Try.func36, Try.ntmps36
 go_wp2_with (first | ((with_reducible refine gate_dst (N := 3) rfl ?_); refine box_event ?hg (N := 3) ?hd (cs := #[.int .i64 a0_0, .int .i64 a0_1, .slice A0_2 l0_2.length c0_2]) (t := 30) ?hr ?_; (case hd => rfl); (case hg => rfl); (case hr => first | (go_simp; done) | (go_simp; rfl)); intro gb814 hg w8 hbox hb; have n0_ := Aside0.mk (below_step zai2 hb); have n1_ := Aside0.mk (hbox); have n2_ := Aside0.mk ((zai19 : w.heap.size ≤ gb814)); have n3_ := Aside0.mk ((zai19 : w.heap.size ≤ gb814)); clear HB; have HB := n0_; have BK814 := n1_; have GW814 := n2_; have GE814 := n3_; clear n0_ n1_ n2_ n3_; clear hb hbox hg) | ((with_reducible refine gate_dst (N := 4) rfl ?_); refine box_event ?hg (N := 4) ?hd (cs := #[.int .i64 a1_0, .int .i64 a1_1]) (t := 32) ?hr ?_; (case hd => rfl); (case hg => rfl); (case hr => first | (go_simp; done) | (go_simp; rfl)); intro gb815 hg w9 hbox hb; have n0_ := Aside0.mk (blk_below (g := gb814) (o := .cells #[.int .i64 a0_0, .int .i64 a0_1, .slice A0_2 l0_2.length c0_2] 30 (0, 0)) zai6 hb); have n1_ := Aside0.mk (below_step zai9 hb); have n2_ := Aside0.mk (hbox); have n3_ := Aside0.mk ((by rw [hg]; exact (below_size zai9) : w.heap.size ≤ gb815)); have n4_ := Aside0.mk ((by rw [hg]; exact (below_size zai9) : w.heap.size ≤ gb815)); have n5_ := Aside0.mk ((zai21 : gb814 ≠ gb815)); have n6_ := Aside0.mk ((zai23 : gb815 ≠ gb814)); clear BK814; clear HB; have BK814 := n0_; have HB := n1_; have BK815 := n2_; have GW815 := n3_; have GE815 := n4_; have NB814_815 := n5_; have NB815_814 := n6_; clear n0_ n1_ n2_ n3_ n4_ n5_ n6_; clear hb hbox hg; have hnb10 := NB814_815.out; have hnc10 := NB815_814.out; have hcz11_0 : w9.cell? ⟨gb814, 0, none⟩ = some (.int .i64 a0_0) := (blk_cell BK814.out 0).trans rfl; have hcz11_1 : w9.cell? ⟨gb814, 1, none⟩ = some (.int .i64 a0_1) := (blk_cell BK814.out 1).trans rfl; have hcz11_2 : w9.cell? ⟨gb814, 2, none⟩ = some (.slice A0_2 l0_2.length c0_2) := (blk_cell BK814.out 2).trans rfl; have hfz11_0 := blk_frozen BK814.out 0; have hfz11_1 := blk_frozen BK814.out 1; have hfz11_2 := blk_frozen BK814.out 2; have hcz12_0 : w9.cell? ⟨gb815, 0, none⟩ = some (.int .i64 a1_0) := (blk_cell BK815.out 0).trans rfl; have hcz12_1 : w9.cell? ⟨gb815, 1, none⟩ = some (.int .i64 a1_1) := (blk_cell BK815.out 1).trans rfl; have hfz12_0 := blk_frozen BK815.out 0; have hfz12_1 := blk_frozen BK815.out 1) | ((with_reducible refine gate_callee (f := 53) rfl ?_); refine goesL_ (some 15) rfl rfl Try.func53 (by kernel_rfl) rfl #[.agg #[.int .i64 a0_0, .int .i64 a0_1, .slice A0_2 l0_2.length c0_2], .agg #[.int .i64 a1_0, .int .i64 a1_1], .int .i64 a2, .int .i64 a2] rfl zai4 ?_; (with_reducible refine (spec_faAsked.calls k a0_0 a0_1 _ _ l0_2 a1_0 a1_1 a2 a2 true _ ?side1 ?side2 A4.out).mono ?_); (case side1 => exact zai7); (case side2 => exact HC0_2.out); rintro e w13 ⟨rfl, hb⟩; refine ⟨_, rfl, ?_⟩; have n0_ := Aside0.mk (blk_below (g := gb814) (o := .cells #[.int .i64 a0_0, .int .i64 a0_1, .slice A0_2 l0_2.length c0_2] 30 (0, 0)) zai6 hb); have n1_ := Aside0.mk (blk_below (g := gb815) (o := .cells #[.int .i64 a1_0, .int .i64 a1_1] 32 (0, 0)) zai16 hb); have n2_ := Aside0.mk (below_step zai5 hb); clear BK814; clear BK815; clear HB; have BK814 := n0_; have BK815 := n1_; have HB := n2_; clear n0_ n1_ n2_; (try clear hb); (try clear hb2); (try clear hk); (try clear hi); (try clear hna_); (try clear hnb_); have hcz14_0 : w13.cell? ⟨gb814, 0, none⟩ = some (.int .i64 a0_0) := (blk_cell BK814.out 0).trans rfl; have hcz14_1 : w13.cell? ⟨gb814, 1, none⟩ = some (.int .i64 a0_1) := (blk_cell BK814.out 1).trans rfl; have hcz14_2 : w13.cell? ⟨gb814, 2, none⟩ = some (.slice A0_2 l0_2.length c0_2) := (blk_cell BK814.out 2).trans rfl; have hfz14_0 := blk_frozen BK814.out 0; have hfz14_1 := blk_frozen BK814.out 1; have hfz14_2 := blk_frozen BK814.out 2; have hcz15_0 : w13.cell? ⟨gb815, 0, none⟩ = some (.int .i64 a1_0) := (blk_cell BK815.out 0).trans rfl; have hcz15_1 : w13.cell? ⟨gb815, 1, none⟩ = some (.int .i64 a1_1) := (blk_cell BK815.out 1).trans rfl; have hfz15_0 := blk_frozen BK815.out 0; have hfz15_1 := blk_frozen BK815.out 1) | ((with_reducible refine gate_callee (f := 54) rfl ?_); refine goesL_ (some 21) rfl rfl Try.func54 (by kernel_rfl) rfl #[.agg #[.int .i64 a0_0, .int .i64 a0_1, .slice A0_2 l0_2.length c0_2], .agg #[.int .i64 a1_0, .int .i64 a1_1], .int .i64 a2] rfl zai4 ?_; (with_reducible refine (spec_faFrom.calls k a0_0 a0_1 _ _ l0_2 a1_0 a1_1 a2 t817 _ ?side1 ?side2 A6.out).mono ?_); (case side1 => exact zai7); (case side2 => exact HC0_2.out); rintro e w16 ⟨v818, rfl, ho0, hb⟩; refine ⟨_, rfl, ?_⟩; have n0_ := Aside0.mk (Kd.R_lower ho0 (below_size zai5)); have n1_ := Aside0.mk (blk_below (g := gb814) (o := .cells #[.int .i64 a0_0, .int .i64 a0_1, .slice A0_2 l0_2.length c0_2] 30 (0, 0)) zai6 hb); have n2_ := Aside0.mk (blk_below (g := gb815) (o := .cells #[.int .i64 a1_0, .int .i64 a1_1] 32 (0, 0)) zai16 hb); have n3_ := Aside0.mk (below_step zai5 hb); clear BK814; clear BK815; clear HB; have HO819 := n0_; have BK814 := n1_; have BK815 := n2_; have HB := n3_; clear n0_ n1_ n2_ n3_; (try clear hb); (try clear hb2); (try clear hk); (try clear hi); (try clear ho0); (try clear hna_); (try clear hnb_); obtain ⟨Ao17, co17, eo17⟩ := Kd.R_slice HO819.out; subst eo17) | ((with_reducible refine gate_callee (f := 72) rfl ?_); refine goesL_ (some 22) rfl rfl Try.func72 (by kernel_rfl) rfl #[.slice Ao17 t817.length co17] rfl zai4 ?_; (with_reducible refine (spec_faMost.calls k _ _ t817 t820 t821 _ ?side1 ?side2 A7.out).mono ?_); (case side1 => repeat (first | exact (Kd.R_reads' HO819.out).2.2 | (with_reducible refine Kd.C_alloc ?_ _) | (with_reducible refine Kd.C_drewN ?_ _) | (with_reducible refine Kd.C_drew ?_))); (case side2 => exact (Kd.R_reads' HO819.out).2.1); rintro e w' ⟨rfl, ⟨nd, rfl⟩⟩; refine ⟨_, rfl, ?_⟩))
 go_ret3
 exact ⟨zai14, zai5⟩

/-! ### impl_FarthestFrom: function 37 -/
def impl_FarthestFrom.f (k : Nat) (a0_0 : Int) (a0_1 : Int) (l0_2 : List Int) (a1_0 : Int) (a1_1 : Int) (a2 : Int) : Option (Int × Int × Bool) := (impl_two.f k a0_0 a0_1 l0_2 a1_0 a1_1 a2 a2).bind fun bt824 => (if bt824.2.2 = true then ((impl_graph_far.f k a0_0 a0_1 l0_2 a1_0 a1_1 bt824.1 bt824.2.1 a2).bind fun t833 => ((slices_Max_int_int.f t833).bind fun t836 => ((slices_Index_int_int.f k t833 t836).bind fun t837 => (some (t837, t836, true))))) else (some (0, 0, false)))
set_option maxHeartbeats 8000000 in
set_option maxRecDepth 100000 in
theorem impl_FarthestFrom.calls (k : Nat) (a0_0 : Int) (a0_1 : Int) (A0_2 : Option Addr) (c0_2 : Nat) (l0_2 : List Int) (a1_0 : Int) (a1_1 : Int) (a2 : Int) (r1 : Int) (r2 : Int) (r3 : Bool) (w : World) (hr0_2 : Kd.C (Kd.int .i64) w A0_2 l0_2.length l0_2) (hc0_2 : l0_2.length ≤ c0_2) (h : impl_FarthestFrom.f k a0_0 a0_1 l0_2 a1_0 a1_1 a2 = some (r1, r2, r3)) :
  Calls Try.prog 37 #[.agg #[.int .i64 a0_0, .int .i64 a0_1, .slice A0_2 l0_2.length c0_2], .agg #[.int .i64 a1_0, .int .i64 a1_1], .int .i64 a2] w fun e w' => e = .returned (.tuple #[.int .i64 r1, .int .i64 r2, .bool r3]) ∧ Below w.heap.size w w' := by
 have hu30 := Try.underlying30
 have hu32 := Try.underlying32
 have HR0_2 := Aside0.mk hr0_2
 have HC0_2 := Aside0.mk hc0_2
 clear hr0_2 hc0_2
 have HB := Aside0.mk (Below.refl w.heap.size w)
 have H : ((impl_two.f k a0_0 a0_1 l0_2 a1_0 a1_1 a2 a2).bind fun bt824 => (if bt824.2.2 = true then ((impl_graph_far.f k a0_0 a0_1 l0_2 a1_0 a1_1 bt824.1 bt824.2.1 a2).bind fun t833 => ((slices_Max_int_int.f t833).bind fun t836 => ((slices_Index_int_int.f k t833 t836).bind fun t837 => (some (t837, t836, true))))) else (some (0, 0, false)))) = some (r1, r2, r3) := h
 clear h
 replace H := Option.bind_eq_some_iff.mp H
 obtain ⟨⟨t824, t827, t832⟩, A40, H⟩ := H
 replace H : (if t832 = true then ((impl_graph_far.f k a0_0 a0_1 l0_2 a1_0 a1_1 t824 t827 a2).bind fun t833 => ((slices_Max_int_int.f t833).bind fun t836 => ((slices_Index_int_int.f k t833 t836).bind fun t837 => (some (t837, t836, true))))) else (some (0, 0, false))) = some (r1, r2, r3) := H
 have A4 := Aside0.mk A40
 clear A40
 by_cases c5 : t832 = true
 rotate_left
 ·replace c5 := Bool.eq_false_iff.mpr c5
  subst c5
  have H1 : (some (0, 0, false)) = some (r1, r2, r3) := by rw [if_neg (show ¬ (false = true) by decide)] at H; exact H
  clear H
  have H := H1
  clear H1
  simp only [Option.some.injEq, Prod.mk.injEq] at H
  obtain ⟨rfl, rfl, rfl⟩ := H
  go_enter Try.func37, Try.ntmps37
  go_wp2_with (first | ((with_reducible refine gate_dst (N := 3) rfl ?_); refine box_event ?hg (N := 3) ?hd (cs := #[.int .i64 a0_0, .int .i64 a0_1, .slice A0_2 l0_2.length c0_2]) (t := 30) ?hr ?_; (case hd => rfl); (case hg => rfl); (case hr => first | (go_simp; done) | (go_simp; rfl)); intro gb822 hg w19 hbox hb; have n0_ := Aside0.mk (below_step zai2 hb); have n1_ := Aside0.mk (hbox); have n2_ := Aside0.mk ((zai19 : w.heap.size ≤ gb822)); have n3_ := Aside0.mk ((zai19 : w.heap.size ≤ gb822)); clear HB; have HB := n0_; have BK822 := n1_; have GW822 := n2_; have GE822 := n3_; clear n0_ n1_ n2_ n3_; clear hb hbox hg) | ((with_reducible refine gate_dst (N := 4) rfl ?_); refine box_event ?hg (N := 4) ?hd (cs := #[.int .i64 a1_0, .int .i64 a1_1]) (t := 32) ?hr ?_; (case hd => rfl); (case hg => rfl); (case hr => first | (go_simp; done) | (go_simp; rfl)); intro gb823 hg w20 hbox hb; have n0_ := Aside0.mk (blk_below (g := gb822) (o := .cells #[.int .i64 a0_0, .int .i64 a0_1, .slice A0_2 l0_2.length c0_2] 30 (0, 0)) zai3 hb); have n1_ := Aside0.mk (below_step zai8 hb); have n2_ := Aside0.mk (hbox); have n3_ := Aside0.mk ((by rw [hg]; exact (below_size zai8) : w.heap.size ≤ gb823)); have n4_ := Aside0.mk ((by rw [hg]; exact (below_size zai8) : w.heap.size ≤ gb823)); have n5_ := Aside0.mk ((zai20 : gb822 ≠ gb823)); have n6_ := Aside0.mk ((zai22 : gb823 ≠ gb822)); clear BK822; clear HB; have BK822 := n0_; have HB := n1_; have BK823 := n2_; have GW823 := n3_; have GE823 := n4_; have NB822_823 := n5_; have NB823_822 := n6_; clear n0_ n1_ n2_ n3_ n4_ n5_ n6_; clear hb hbox hg; have hnb21 := NB822_823.out; have hnc21 := NB823_822.out; have hcz22_0 : w20.cell? ⟨gb822, 0, none⟩ = some (.int .i64 a0_0) := (blk_cell BK822.out 0).trans rfl; have hcz22_1 : w20.cell? ⟨gb822, 1, none⟩ = some (.int .i64 a0_1) := (blk_cell BK822.out 1).trans rfl; have hcz22_2 : w20.cell? ⟨gb822, 2, none⟩ = some (.slice A0_2 l0_2.length c0_2) := (blk_cell BK822.out 2).trans rfl; have hfz22_0 := blk_frozen BK822.out 0; have hfz22_1 := blk_frozen BK822.out 1; have hfz22_2 := blk_frozen BK822.out 2; have hcz23_0 : w20.cell? ⟨gb823, 0, none⟩ = some (.int .i64 a1_0) := (blk_cell BK823.out 0).trans rfl; have hcz23_1 : w20.cell? ⟨gb823, 1, none⟩ = some (.int .i64 a1_1) := (blk_cell BK823.out 1).trans rfl; have hfz23_0 := blk_frozen BK823.out 0; have hfz23_1 := blk_frozen BK823.out 1) | ((with_reducible refine gate_callee (f := 55) rfl ?_); refine goesL_ (some 18) rfl rfl Try.func55 (by kernel_rfl) rfl #[.agg #[.int .i64 a0_0, .int .i64 a0_1, .slice A0_2 l0_2.length c0_2], .agg #[.int .i64 a1_0, .int .i64 a1_1], .int .i64 a2, .int .i64 a2] rfl zai4 ?_; (with_reducible refine (impl_two.calls k a0_0 a0_1 _ _ l0_2 a1_0 a1_1 a2 a2 t824 t827 false _ ?side1 ?side2 A4.out).mono ?_); (case side1 => exact zai7); (case side2 => exact HC0_2.out); rintro e w24 ⟨v825, v828, pv831, rfl, hgp, ho0, ho1, hb⟩; refine ⟨_, rfl, ?_⟩; obtain rfl := hgp.2 rfl; have n0_ := Aside0.mk (Kd.R_lower ho0 (below_size zai1)); have n1_ := Aside0.mk (Kd.S_lower ho1 (below_size zai1)); have n2_ := Aside0.mk (blk_below (g := gb822) (o := .cells #[.int .i64 a0_0, .int .i64 a0_1, .slice A0_2 l0_2.length c0_2] 30 (0, 0)) zai3 hb); have n3_ := Aside0.mk (blk_below (g := gb823) (o := .cells #[.int .i64 a1_0, .int .i64 a1_1] 32 (0, 0)) zai11 hb); have n4_ := Aside0.mk (below_step zai1 hb); clear BK822; clear BK823; clear HB; have HO826 := n0_; have HO829 := n1_; have BK822 := n2_; have BK823 := n3_; have HB := n4_; clear n0_ n1_ n2_ n3_ n4_; (try clear hb); (try clear hb2); (try clear hk); (try clear hi); (try clear ho0); (try clear ho1); (try clear hgp); (try clear hbox); (try clear hge); (try clear hna_); (try clear hnb_)))
  go_ret3
  exact ⟨zai14, zai1⟩
 subst c5
 have H1 : ((impl_graph_far.f k a0_0 a0_1 l0_2 a1_0 a1_1 t824 t827 a2).bind fun t833 => ((slices_Max_int_int.f t833).bind fun t836 => ((slices_Index_int_int.f k t833 t836).bind fun t837 => (some (t837, t836, true))))) = some (r1, r2, r3) := by rw [if_pos rfl] at H; exact H
 clear H
 have H := H1
 clear H1
 replace H := Option.bind_eq_some_iff.mp H
 obtain ⟨t833, A60, H⟩ := H
 replace H : ((slices_Max_int_int.f t833).bind fun t836 => ((slices_Index_int_int.f k t833 t836).bind fun t837 => (some (t837, t836, true)))) = some (r1, r2, r3) := H
 have A6 := Aside0.mk A60
 clear A60
 replace H := Option.bind_eq_some_iff.mp H
 obtain ⟨t836, A70, H⟩ := H
 replace H : ((slices_Index_int_int.f k t833 t836).bind fun t837 => (some (t837, t836, true))) = some (r1, r2, r3) := H
 have A7 := Aside0.mk A70
 clear A70
 replace H := Option.bind_eq_some_iff.mp H
 obtain ⟨t837, A80, H⟩ := H
 replace H : (some (t837, t836, true)) = some (r1, r2, r3) := H
 have A8 := Aside0.mk A80
 clear A80
 simp only [Option.some.injEq, Prod.mk.injEq] at H
 obtain ⟨rfl, rfl, rfl⟩ := H
 go_enter Try.func37, Try.ntmps37
 go_wp2_with (first | ((with_reducible refine gate_dst (N := 3) rfl ?_); refine box_event ?hg (N := 3) ?hd (cs := #[.int .i64 a0_0, .int .i64 a0_1, .slice A0_2 l0_2.length c0_2]) (t := 30) ?hr ?_; (case hd => rfl); (case hg => rfl); (case hr => first | (go_simp; done) | (go_simp; rfl)); intro gb822 hg w9 hbox hb; have n0_ := Aside0.mk (below_step zai2 hb); have n1_ := Aside0.mk (hbox); have n2_ := Aside0.mk ((zai19 : w.heap.size ≤ gb822)); have n3_ := Aside0.mk ((zai19 : w.heap.size ≤ gb822)); clear HB; have HB := n0_; have BK822 := n1_; have GW822 := n2_; have GE822 := n3_; clear n0_ n1_ n2_ n3_; clear hb hbox hg) | ((with_reducible refine gate_dst (N := 4) rfl ?_); refine box_event ?hg (N := 4) ?hd (cs := #[.int .i64 a1_0, .int .i64 a1_1]) (t := 32) ?hr ?_; (case hd => rfl); (case hg => rfl); (case hr => first | (go_simp; done) | (go_simp; rfl)); intro gb823 hg w10 hbox hb; have n0_ := Aside0.mk (blk_below (g := gb822) (o := .cells #[.int .i64 a0_0, .int .i64 a0_1, .slice A0_2 l0_2.length c0_2] 30 (0, 0)) zai3 hb); have n1_ := Aside0.mk (below_step zai8 hb); have n2_ := Aside0.mk (hbox); have n3_ := Aside0.mk ((by rw [hg]; exact (below_size zai8) : w.heap.size ≤ gb823)); have n4_ := Aside0.mk ((by rw [hg]; exact (below_size zai8) : w.heap.size ≤ gb823)); have n5_ := Aside0.mk ((zai20 : gb822 ≠ gb823)); have n6_ := Aside0.mk ((zai22 : gb823 ≠ gb822)); clear BK822; clear HB; have BK822 := n0_; have HB := n1_; have BK823 := n2_; have GW823 := n3_; have GE823 := n4_; have NB822_823 := n5_; have NB823_822 := n6_; clear n0_ n1_ n2_ n3_ n4_ n5_ n6_; clear hb hbox hg; have hnb11 := NB822_823.out; have hnc11 := NB823_822.out; have hcz12_0 : w10.cell? ⟨gb822, 0, none⟩ = some (.int .i64 a0_0) := (blk_cell BK822.out 0).trans rfl; have hcz12_1 : w10.cell? ⟨gb822, 1, none⟩ = some (.int .i64 a0_1) := (blk_cell BK822.out 1).trans rfl; have hcz12_2 : w10.cell? ⟨gb822, 2, none⟩ = some (.slice A0_2 l0_2.length c0_2) := (blk_cell BK822.out 2).trans rfl; have hfz12_0 := blk_frozen BK822.out 0; have hfz12_1 := blk_frozen BK822.out 1; have hfz12_2 := blk_frozen BK822.out 2; have hcz13_0 : w10.cell? ⟨gb823, 0, none⟩ = some (.int .i64 a1_0) := (blk_cell BK823.out 0).trans rfl; have hcz13_1 : w10.cell? ⟨gb823, 1, none⟩ = some (.int .i64 a1_1) := (blk_cell BK823.out 1).trans rfl; have hfz13_0 := blk_frozen BK823.out 0; have hfz13_1 := blk_frozen BK823.out 1) | ((with_reducible refine gate_callee (f := 55) rfl ?_); refine goesL_ (some 18) rfl rfl Try.func55 (by kernel_rfl) rfl #[.agg #[.int .i64 a0_0, .int .i64 a0_1, .slice A0_2 l0_2.length c0_2], .agg #[.int .i64 a1_0, .int .i64 a1_1], .int .i64 a2, .int .i64 a2] rfl zai4 ?_; (with_reducible refine (impl_two.calls k a0_0 a0_1 _ _ l0_2 a1_0 a1_1 a2 a2 t824 t827 true _ ?side1 ?side2 A4.out).mono ?_); (case side1 => exact zai7); (case side2 => exact HC0_2.out); rintro e w14 ⟨v825, v828, pv831, rfl, hgp, ho0, ho1, hb⟩; refine ⟨_, rfl, ?_⟩; obtain ⟨gb830, rfl, hbox, hge⟩ := hgp.1 rfl; have n0_ := Aside0.mk (Kd.R_lower ho0 (below_size zai1)); have n1_ := Aside0.mk (Kd.S_lower ho1 (below_size zai1)); have n2_ := Aside0.mk (blk_below (g := gb822) (o := .cells #[.int .i64 a0_0, .int .i64 a0_1, .slice A0_2 l0_2.length c0_2] 30 (0, 0)) zai3 hb); have n3_ := Aside0.mk (blk_below (g := gb823) (o := .cells #[.int .i64 a1_0, .int .i64 a1_1] 32 (0, 0)) zai11 hb); have n4_ := Aside0.mk (hbox); have n5_ := Aside0.mk ((Nat.le_trans (by exact (below_size zai1)) hge : w.heap.size ≤ gb830)); have n6_ := Aside0.mk ((Nat.le_trans (by exact (below_size zai1)) hge : w.heap.size ≤ gb830)); have n7_ := Aside0.mk ((Nat.ne_of_lt (Nat.lt_of_lt_of_le (blk_lt (g := gb822) (o := .cells #[.int .i64 a0_0, .int .i64 a0_1, .slice A0_2 l0_2.length c0_2] 30 (0, 0)) zai3) hge) : gb822 ≠ gb830)); have n8_ := Aside0.mk ((Nat.ne_of_gt (Nat.lt_of_lt_of_le (blk_lt (g := gb822) (o := .cells #[.int .i64 a0_0, .int .i64 a0_1, .slice A0_2 l0_2.length c0_2] 30 (0, 0)) zai3) hge) : gb830 ≠ gb822)); have n9_ := Aside0.mk ((Nat.ne_of_lt (Nat.lt_of_lt_of_le (blk_lt (g := gb823) (o := .cells #[.int .i64 a1_0, .int .i64 a1_1] 32 (0, 0)) zai11) hge) : gb823 ≠ gb830)); have n10_ := Aside0.mk ((Nat.ne_of_gt (Nat.lt_of_lt_of_le (blk_lt (g := gb823) (o := .cells #[.int .i64 a1_0, .int .i64 a1_1] 32 (0, 0)) zai11) hge) : gb830 ≠ gb823)); have n11_ := Aside0.mk (below_step zai1 hb); clear BK822; clear BK823; clear HB; have HO826 := n0_; have HO829 := n1_; have BK822 := n2_; have BK823 := n3_; have BK830 := n4_; have GW830 := n5_; have GE830 := n6_; have NB822_830 := n7_; have NB830_822 := n8_; have NB823_830 := n9_; have NB830_823 := n10_; have HB := n11_; clear n0_ n1_ n2_ n3_ n4_ n5_ n6_ n7_ n8_ n9_ n10_ n11_; (try clear hb); (try clear hb2); (try clear hk); (try clear hi); (try clear ho0); (try clear ho1); (try clear hgp); (try clear hbox); (try clear hge); (try clear hna_); (try clear hnb_); obtain ⟨Ao15, co15, eo15⟩ := Kd.R_slice HO826.out; subst eo15; obtain ⟨Ao16, co16, eo16⟩ := Kd.S_slice HO829.out; subst eo16) | ((with_reducible refine gate_callee (f := 56) rfl ?_); refine goesL_ (some 25) rfl rfl Try.func56 (by kernel_rfl) rfl #[.pointer (some ⟨gb830, 0, none⟩), .int .i64 a2] rfl zai4 ?_; (with_reducible refine (impl_graph_far.calls k gb830 a0_0 a0_1 A0_2 c0_2 l0_2 a1_0 a1_1 Ao15 co15 t824 Ao16 co16 t827 a2 t833 _ ?side1 ?side2 ?side3 ?side4 ?side5 ?side6 ?side7 A6.out).mono ?_); (case side1 => exact zai18); (case side2 => exact zai7); (case side3 => exact HC0_2.out); (case side4 => repeat (first | exact (Kd.R_reads' HO826.out).2.2 | (with_reducible refine Kd.C_alloc ?_ _) | (with_reducible refine Kd.C_drewN ?_ _) | (with_reducible refine Kd.C_drew ?_))); (case side5 => exact (Kd.R_reads' HO826.out).2.1); (case side6 => repeat (first | exact (Kd.S_reads' HO829.out).2.2 | (with_reducible refine Kd.C_alloc ?_ _) | (with_reducible refine Kd.C_drewN ?_ _) | (with_reducible refine Kd.C_drew ?_))); (case side7 => exact (Kd.S_reads' HO829.out).2.1); rintro e w17 ⟨v834, rfl, ho0, hb⟩; refine ⟨_, rfl, ?_⟩; have n0_ := Aside0.mk (Kd.R_elder' (by (with_reducible repeat (first | apply Kd.R_alloc | apply Kd.R_drewN | apply Kd.R_drew)); exact HO826.out) (Kd.R_base ho0) hb); have n1_ := Aside0.mk (Kd.S_elder' (by (with_reducible repeat (first | apply Kd.S_alloc | apply Kd.S_drewN | apply Kd.S_drew)); exact HO829.out) (Kd.R_base ho0) hb); have n2_ := Aside0.mk (Kd.R_lower (Kd.R_new' ho0 (Kd.R_lt (by (with_reducible repeat (first | apply Kd.R_alloc | apply Kd.R_drewN | apply Kd.R_drew)); exact HO826.out))) (below_size zai12)); have n3_ := Aside0.mk (blk_below (g := gb822) (o := .cells #[.int .i64 a0_0, .int .i64 a0_1, .slice A0_2 l0_2.length c0_2] 30 (0, 0)) zai3 hb); have n4_ := Aside0.mk (blk_below (g := gb823) (o := .cells #[.int .i64 a1_0, .int .i64 a1_1] 32 (0, 0)) zai11 hb); have n5_ := Aside0.mk (blk_below (g := gb830) (o := .cells #[.int .i64 a0_0, .int .i64 a0_1, .slice A0_2 l0_2.length c0_2, .int .i64 a1_0, .int .i64 a1_1, .slice Ao15 t824.length co15, .slice Ao16 t827.length co16] 60 (0, 0)) zai18 hb); have n6_ := Aside0.mk (below_step zai12 hb); clear HO826; clear HO829; clear BK822; clear BK823; clear BK830; clear HB; have HO826 := n0_; have HO829 := n1_; have HO835 := n2_; have BK822 := n3_; have BK823 := n4_; have BK830 := n5_; have HB := n6_; clear n0_ n1_ n2_ n3_ n4_ n5_ n6_; (try clear hb); (try clear hb2); (try clear hk); (try clear hi); (try clear ho0); (try clear hna_); (try clear hnb_); obtain ⟨Ao18, co18, eo18⟩ := Kd.R_slice HO835.out; subst eo18) | ((with_reducible refine gate_callee (f := 73) rfl ?_); refine goesL_ (some 27) rfl rfl Try.func73 (by kernel_rfl) rfl #[.slice Ao18 t833.length co18] rfl zai4 ?_; (with_reducible refine (slices_Max_int_int.calls _ _ t833 t836 _ ?side1 ?side2 A7.out).mono ?_); (case side1 => exact zai17); (case side2 => exact (Kd.R_reads' HO835.out).2.1); rintro e w' ⟨rfl, ⟨nd, rfl⟩⟩; refine ⟨_, rfl, ?_⟩) | ((with_reducible refine gate_callee (f := 74) rfl ?_); refine goesL_ (some 30) rfl rfl Try.func74 (by kernel_rfl) rfl #[.slice Ao18 t833.length co18, .int .i64 t836] rfl zai4 ?_; (with_reducible refine (slices_Index_int_int.calls k _ _ t833 t836 t837 _ ?side1 ?side2 A8.out).mono ?_); (case side1 => exact zai17); (case side2 => exact (Kd.R_reads' HO835.out).2.1); rintro e w' ⟨rfl, ⟨nd, rfl⟩⟩; refine ⟨_, rfl, ?_⟩))
 go_ret3
 exact ⟨zai14, zai12⟩

end Go.Proofs.Ythoklbeenjppbaa.Q

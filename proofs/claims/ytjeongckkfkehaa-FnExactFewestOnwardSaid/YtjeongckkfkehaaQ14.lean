/- Written by a program of this session: functions of the translation as plain Lean functions, each with a proof that the call does what the plain function says; the conditions stand in each theorem. -/
import Derived.Test.YtjeongckkfkehaaQ0
import Derived.Test.YtjeongckkfkehaaQ1
import Derived.Test.YtjeongckkfkehaaQ13
namespace Go.Proofs.Ytjeongckkfkehaa.Q
open Go.RowKit Go.Proofs.YtjeongckkfkehaaW.PrintWords Go.Proofs.YtjeongckkfkehaaW.PrintLast Go.Proofs.YtjeongckkfkehaaW.PrintMore
attribute [local go_sem] max2_int min2_int max_two min_two max_three min_three max_four min_four   -- for this text's walks alone
set_option linter.unusedVariables false
set_option linter.unusedSimpArgs false

theorem zo1 {p : Prop} (h : p := by repeat (first | (with_reducible first | exact HB.out | apply below_alloc | apply pw_below_drewN | apply below_drew1 | refine below_set ?_ GE339.out | refine below_set ?_ GE340.out) | exact HB.out)) : p := h
theorem zo2 {p : Prop} (h : p := by (with_reducible repeat (first | refine blk_drewN ?_ _ | refine blk_drew ?_ | refine blk_alloc ?_ _)); exact BK339.out) : p := h
theorem zo3 {p : Prop} (h : p := by (with_reducible repeat (first | refine blk_drewN ?_ _ | refine blk_drew ?_ | refine blk_alloc ?_ _)); exact BK340.out) : p := h
theorem zo4 {p : Prop} (h : p := by (try simp only [List.map_toArray, List.map_cons, List.map_nil]); first | done | rfl | (simp only [List.length_drop, List.length_take]; rfl)) : p := h
theorem zo5 {p : Prop} (h : p := by repeat (first | exact (Kd.R_reads' HO_8.out).2.2 | (with_reducible refine Kd.C_alloc ?_ _) | (with_reducible refine Kd.C_drewN ?_ _) | (with_reducible refine Kd.C_drew ?_))) : p := h
theorem zo6 {p : Prop} (h : p := by repeat (first | (with_reducible first | exact HB.out | apply below_alloc | apply pw_below_drewN | apply below_drew1 | refine below_set ?_ GE332.out | refine below_set ?_ GE333.out) | exact HB.out)) : p := h
theorem zo7 {p : Prop} (h : p := by first | rfl | (simp; done) | (simp [*]; done)) : p := h
theorem zo8 {p : Prop} (h : p := by (with_reducible repeat (first | apply Kd.R_alloc | apply Kd.R_drewN | apply Kd.R_drew)); exact HO_8.out) : p := h
theorem zo10 {p : Prop} (h : p := by (with_reducible repeat (first | apply Kd.R_alloc | apply Kd.R_drewN | apply Kd.R_drew)); exact HO_34.out) : p := h
theorem zo11 {p : Prop} (h : p := by (with_reducible repeat (first | refine blk_drewN ?_ _ | refine blk_drew ?_ | refine blk_alloc ?_ _)); exact BK332.out) : p := h
theorem zo12 {p : Prop} (h : p := by repeat (first | exact (Kd.C_below HR0_2.out HB.out) | (with_reducible refine Kd.C_alloc ?_ _) | (with_reducible refine Kd.C_drewN ?_ _) | (with_reducible refine Kd.C_drew ?_))) : p := h
theorem zo13 {p : Prop} (h : p := by repeat (first | (with_reducible first | exact HB.out | apply below_alloc | apply pw_below_drewN | apply below_drew1) | exact HB.out)) : p := h
theorem zo14 {p : Prop} (h : p := by first | (with_reducible assumption) | assumption) : p := h
theorem zo15 {p : Prop} (h : p := by (with_reducible repeat (first | refine blk_drewN ?_ _ | refine blk_drew ?_ | refine blk_alloc ?_ _)); exact BK333.out) : p := h
theorem zo16 {p : Prop} (h : p := by repeat (first | (with_reducible first | exact HB.out | apply below_alloc | apply pw_below_drewN | apply below_drew1 | refine below_set ?_ GE339.out) | exact HB.out)) : p := h
theorem zo17 {p : Prop} (h : p := by repeat (first | (with_reducible first | exact HB.out | apply below_alloc | apply pw_below_drewN | apply below_drew1 | refine below_set ?_ GE332.out) | exact HB.out)) : p := h
theorem zo18 {p : Prop} (h : p := by have := HJ3.out; have := HK2.out; have := HK3.out; omega) : p := h
theorem zo19 {p : Prop} (h : p := by repeat (first | exact (Kd.C_below HR3.out HB.out) | (with_reducible refine Kd.C_alloc ?_ _) | (with_reducible refine Kd.C_drewN ?_ _) | (with_reducible refine Kd.C_drew ?_))) : p := h
theorem zo20 {p : Prop} (h : p := by repeat (first | exact (Kd.C_below HR0_2.out zo1) | (with_reducible refine Kd.C_alloc ?_ _) | (with_reducible refine Kd.C_drewN ?_ _) | (with_reducible refine Kd.C_drew ?_))) : p := h
/-! ### spec_toOnward: function 57 -/
def spec_toOnward.l0 : Nat → List Int → Int → List Int → Int → Int → Option (Int)
 | 0, _, _, _, _, _ => none
 | k + 1, x3, x9, x15, x16, x17 => if x17 < x16 then (if 0 ≤ x17 then (if x17 < (x15.length : Int) then ((spec_l1Has.f k x3 (rd x15 x17)).bind fun t338 => (if t338 = true then (spec_toOnward.l0 k x3 x9 x15 x16 (wrap64 (x17 + 1))) else (spec_toOnward.l0 k x3 (wrap64 (x9 + 1)) x15 x16 (wrap64 (x17 + 1))))) else (none)) else (none)) else (some x9)
def spec_toOnward.f (k : Nat) (a0_0 : Int) (a0_1 : Int) (l0_2 : List Int) (a1_0 : Int) (a1_1 : Int) (a2 : Int) (l3 : List Int) : Option (Int) := (spec_boLeaps.f k a0_0 a0_1 l0_2 a1_0 a1_1 a2).bind fun t334 => (spec_toOnward.l0 k l3 0 t334 (t334.length : Int) 0)
set_option maxHeartbeats 8000000 in
set_option maxRecDepth 100000 in
theorem spec_toOnward.calls (k : Nat) (a0_0 : Int) (a0_1 : Int) (A0_2 : Option Addr) (c0_2 : Nat) (l0_2 : List Int) (a1_0 : Int) (a1_1 : Int) (a2 : Int) (A3 : Option Addr) (c3 : Nat) (l3 : List Int) (r : Int) (w : World) (hr0_2 : Kd.C (Kd.int .i64) w A0_2 l0_2.length l0_2) (hc0_2 : l0_2.length ≤ c0_2) (hr3 : Kd.C (Kd.int .i64) w A3 l3.length l3) (hc3 : l3.length ≤ c3) (h : spec_toOnward.f k a0_0 a0_1 l0_2 a1_0 a1_1 a2 l3 = some r) :
  Calls Try.prog 57 #[.agg #[.int .i64 a0_0, .int .i64 a0_1, .slice A0_2 l0_2.length c0_2], .agg #[.int .i64 a1_0, .int .i64 a1_1], .int .i64 a2, .slice A3 l3.length c3] w fun e w' => e = .returned (.int .i64 r) ∧ Below w.heap.size w w' := by
 have hu30 := Try.underlying30
 have hu32 := Try.underlying32
 have HR0_2 := Aside0.mk hr0_2
 have HC0_2 := Aside0.mk hc0_2
 clear hr0_2 hc0_2
 have HR3 := Aside0.mk hr3
 have HC3 := Aside0.mk hc3
 clear hr3 hc3
 have HB := Aside0.mk (Below.refl w.heap.size w)
 have H : ((spec_boLeaps.f k a0_0 a0_1 l0_2 a1_0 a1_1 a2).bind fun t334 => (spec_toOnward.l0 k l3 0 t334 (t334.length : Int) 0)) = some r := h
 clear h
 replace H := Option.bind_eq_some_iff.mp H
 obtain ⟨t334, A50, H⟩ := H
 replace H : (spec_toOnward.l0 k l3 0 t334 (t334.length : Int) 0) = some r := H
 have A5 := Aside0.mk A50
 clear A50
 have H' := Aside0.mk H
 clear H
 go_enter Try.func57, Try.ntmps57
 go_wp2_with (first | ((with_reducible refine gate_dst (N := 4) rfl ?_); refine box_event ?hg (N := 4) ?hd (cs := #[.int .i64 a0_0, .int .i64 a0_1, .slice A0_2 l0_2.length c0_2]) (t := 30) ?hr ?_; (case hd => rfl); (case hg => rfl); (case hr => first | (go_simp; done) | (go_simp; rfl)); intro gb332 hg w6 hbox hb; have n0_ := Aside0.mk (below_step zo13 hb); have n1_ := Aside0.mk (hbox); have n2_ := Aside0.mk ((by rw [hg]; exact (below_size zo13) : w.heap.size ≤ gb332)); have n3_ := Aside0.mk ((by rw [hg]; exact (below_size zo13) : w.heap.size ≤ gb332)); clear HB; have HB := n0_; have BK332 := n1_; have GW332 := n2_; have GE332 := n3_; clear n0_ n1_ n2_ n3_; clear hb hbox hg) | ((with_reducible refine gate_dst (N := 5) rfl ?_); refine box_event ?hg (N := 5) ?hd (cs := #[.int .i64 a1_0, .int .i64 a1_1]) (t := 32) ?hr ?_; (case hd => rfl); (case hg => rfl); (case hr => first | (go_simp; done) | (go_simp; rfl)); intro gb333 hg w7 hbox hb; have n0_ := Aside0.mk (blk_below (g := gb332) (o := .cells #[.int .i64 a0_0, .int .i64 a0_1, .slice A0_2 l0_2.length c0_2] 30 (0, 0)) zo11 hb); have n1_ := Aside0.mk (below_step zo17 hb); have n2_ := Aside0.mk (hbox); have n3_ := Aside0.mk ((by rw [hg]; exact (below_size zo17) : w.heap.size ≤ gb333)); have n4_ := Aside0.mk ((by rw [hg]; exact (below_size zo17) : w.heap.size ≤ gb333)); have n5_ := Aside0.mk ((by rw [hg]; exact Nat.ne_of_lt (blk_lt (g := gb332) (o := .cells #[.int .i64 a0_0, .int .i64 a0_1, .slice A0_2 l0_2.length c0_2] 30 (0, 0)) zo11) : gb332 ≠ gb333)); have n6_ := Aside0.mk ((by rw [hg]; exact Nat.ne_of_gt (blk_lt (g := gb332) (o := .cells #[.int .i64 a0_0, .int .i64 a0_1, .slice A0_2 l0_2.length c0_2] 30 (0, 0)) zo11) : gb333 ≠ gb332)); clear BK332; clear HB; have BK332 := n0_; have HB := n1_; have BK333 := n2_; have GW333 := n3_; have GE333 := n4_; have NB332_333 := n5_; have NB333_332 := n6_; clear n0_ n1_ n2_ n3_ n4_ n5_ n6_; clear hb hbox hg; have hnb8 := NB332_333.out; have hnc8 := NB333_332.out; have hcz9_0 : w7.cell? ⟨gb332, 0, none⟩ = some (.int .i64 a0_0) := (blk_cell BK332.out 0).trans rfl; have hcz9_1 : w7.cell? ⟨gb332, 1, none⟩ = some (.int .i64 a0_1) := (blk_cell BK332.out 1).trans rfl; have hcz9_2 : w7.cell? ⟨gb332, 2, none⟩ = some (.slice A0_2 l0_2.length c0_2) := (blk_cell BK332.out 2).trans rfl; have hfz9_0 := blk_frozen BK332.out 0; have hfz9_1 := blk_frozen BK332.out 1; have hfz9_2 := blk_frozen BK332.out 2; have hcz10_0 : w7.cell? ⟨gb333, 0, none⟩ = some (.int .i64 a1_0) := (blk_cell BK333.out 0).trans rfl; have hcz10_1 : w7.cell? ⟨gb333, 1, none⟩ = some (.int .i64 a1_1) := (blk_cell BK333.out 1).trans rfl; have hfz10_0 := blk_frozen BK333.out 0; have hfz10_1 := blk_frozen BK333.out 1) | ((with_reducible refine gate_callee (f := 55) rfl ?_); refine goesL_ (some 15) rfl rfl Try.func55 (by kernel_rfl) rfl #[.agg #[.int .i64 a0_0, .int .i64 a0_1, .slice A0_2 l0_2.length c0_2], .agg #[.int .i64 a1_0, .int .i64 a1_1], .int .i64 a2] rfl zo4 ?_; (with_reducible refine (spec_boLeaps.calls k a0_0 a0_1 _ _ l0_2 a1_0 a1_1 a2 t334 _ ?side1 ?side2 A5.out).mono ?_); (case side1 => exact zo12); (case side2 => exact HC0_2.out); rintro e w11 ⟨v335, rfl, ho0, hb⟩; refine ⟨_, rfl, ?_⟩; have n0_ := Aside0.mk (Kd.R_lower ho0 (below_size zo6)); have n1_ := Aside0.mk (blk_below (g := gb332) (o := .cells #[.int .i64 a0_0, .int .i64 a0_1, .slice A0_2 l0_2.length c0_2] 30 (0, 0)) zo11 hb); have n2_ := Aside0.mk (blk_below (g := gb333) (o := .cells #[.int .i64 a1_0, .int .i64 a1_1] 32 (0, 0)) zo15 hb); have n3_ := Aside0.mk (below_step zo6 hb); clear BK332; clear BK333; clear HB; have HO336 := n0_; have BK332 := n1_; have BK333 := n2_; have HB := n3_; clear n0_ n1_ n2_ n3_; (try clear hb); (try clear hb2); (try clear hk); (try clear hi); (try clear ho0); (try clear hna_); (try clear hnb_); obtain ⟨Ao12, co12, eo12⟩ := Kd.R_slice HO336.out; subst eo12))
 go_loopg [9, 17] k (fun kq v9 v17 w' => ∃ (x9_1 : Int) (x17_1 : Int), v9 = .int .i64 x9_1 ∧ v17 = .int .i64 x17_1 ∧ Aside0 (spec_toOnward.l0 kq l3 x9_1 t334 (t334.length : Int) x17_1 = some r) ∧ Aside0 (kq ≤ k) ∧ Aside0 (Kd.R (Kd.int .i64) 3 w' w.heap.size (fun _ => True) (.slice Ao12 t334.length co12) t334) ∧ Aside0 (w'.heap[gb332]? = some (.cells #[.int .i64 a0_0, .int .i64 a0_1, (.slice A0_2 l0_2.length c0_2)] 30 (0, 0))) ∧ Aside0 (w'.heap[gb333]? = some (.cells #[.int .i64 a1_0, .int .i64 a1_1] 32 (0, 0))) ∧ Aside0 (Below w.heap.size w w'))
 case atStart => exact ⟨(0), (0), zo7, zo7, H', ⟨Nat.le_refl _⟩, ⟨by (with_reducible repeat (first | apply Kd.R_alloc | apply Kd.R_drewN | apply Kd.R_drew)); exact HO336.out⟩, ⟨zo11⟩, ⟨zo15⟩, ⟨zo6⟩⟩
 case round =>
  clear H'
  try clear p2; try clear c3; try clear c5; try clear c8; try clear hcz10_0; try clear hcz10_1; try clear hcz9_0; try clear hcz9_1; try clear hcz9_2; try clear hfz10_0; try clear hfz10_1; try clear hfz9_0; try clear hfz9_1; try clear hfz9_2
  obtain ⟨x9_1, x17_1, rfl, rfl, HA, HK1, HO_15, BK332, BK333, HB⟩ := hrel
  cases gk with
  | zero => exact absurd HA.out (by simp [spec_toOnward.l0])
  | succ k1 =>
   have H := HA.out
   clear HA
   simp only [spec_toOnward.l0] at H
   by_cases c13 : x17_1 < (t334.length : Int)
   rotate_left
   ·rw [if_neg c13] at H
    have c13b0 : decide (x17_1 < (t334.length : Int)) = false := decide_eq_false c13
    clear c13
    obtain rfl := Option.some.inj H
    go_wp2
    go_ret
    exact ⟨by first | rfl | (simp [errW_none, errW_some] <;> rfl) | (simp [*, errW_none, errW_some] <;> rfl), zo6⟩
   rw [if_pos c13] at H
   have c13b0 : decide (x17_1 < (t334.length : Int)) = true := decide_eq_true c13
   clear c13
   by_cases c14 : 0 ≤ x17_1
   rotate_left
   ·rw [if_neg c14] at H
    exact absurd H (by simp)
   rw [if_pos c14] at H
   have c14b0 : decide (0 ≤ x17_1) = true := decide_eq_true c14
   clear c14
   by_cases c15 : x17_1 < (t334.length : Int)
   rotate_left
   ·rw [if_neg c15] at H
    exact absurd H (by simp)
   rw [if_pos c15] at H
   have c15b0 : decide (x17_1 < (t334.length : Int)) = true := decide_eq_true c15
   clear c15
   replace H := Option.bind_eq_some_iff.mp H
   obtain ⟨t338, A160, H⟩ := H
   replace H : (if t338 = true then (spec_toOnward.l0 k1 l3 x9_1 t334 (t334.length : Int) (wrap64 (x17_1 + 1))) else (spec_toOnward.l0 k1 l3 (wrap64 (x9_1 + 1)) t334 (t334.length : Int) (wrap64 (x17_1 + 1)))) = some r := H
   have A16 := Aside0.mk A160
   clear A160
   by_cases c17 : t338 = true
   ·subst c17
    have H1 : (spec_toOnward.l0 k1 l3 x9_1 t334 (t334.length : Int) (wrap64 (x17_1 + 1))) = some r := by rw [if_pos rfl] at H; exact H
    clear H
    have H := H1
    clear H1
    have H' := Aside0.mk H
    clear H
    have p337 : 0 ≤ (x17_1 : Int) := of_decide_eq_true zo14
    have q337 : x17_1 < (t334.length : Int) := of_decide_eq_true zo14
    obtain ⟨ad337, e337, hx337_0⟩ := Kd.at_int (Kd.R_reads' HO_15.out).2.2 x17_1 p337 q337
    cases e337
    replace p337 := eq_true p337
    replace q337 := eq_true q337
    go_wp2_with (first | ((with_reducible refine gate_callee (f := 56) rfl ?_); refine goesL_ (some 23) rfl rfl Try.func56 (by kernel_rfl) rfl #[.slice A3 l3.length c3, .int .i64 (rd t334 x17_1)] rfl zo4 ?_; (with_reducible refine (spec_l1Has.calls k1 _ _ l3 (rd t334 x17_1) true _ ?side1 ?side2 A16.out).mono ?_); (case side1 => exact zo19); (case side2 => exact HC3.out); rintro e w' ⟨rfl, ⟨nd, rfl⟩⟩; refine ⟨_, rfl, ?_⟩))
    go_roundg k1
    case measure => have := HK1.out; omega
    case rel => exact ⟨(x9_1), (wrap64 (x17_1 + 1)), zo7, zo7, H', ⟨by have := HK1.out; omega⟩, ⟨by (with_reducible repeat (first | apply Kd.R_alloc | apply Kd.R_drewN | apply Kd.R_drew)); exact HO_15.out⟩, ⟨zo11⟩, ⟨zo15⟩, ⟨zo6⟩⟩
   replace c17 := Bool.eq_false_iff.mpr c17
   subst c17
   have H1 : (spec_toOnward.l0 k1 l3 (wrap64 (x9_1 + 1)) t334 (t334.length : Int) (wrap64 (x17_1 + 1))) = some r := by rw [if_neg (show ¬ (false = true) by decide)] at H; exact H
   clear H
   have H := H1
   clear H1
   have H' := Aside0.mk H
   clear H
   have p337 : 0 ≤ (x17_1 : Int) := of_decide_eq_true zo14
   have q337 : x17_1 < (t334.length : Int) := of_decide_eq_true zo14
   obtain ⟨ad337, e337, hx337_0⟩ := Kd.at_int (Kd.R_reads' HO_15.out).2.2 x17_1 p337 q337
   cases e337
   replace p337 := eq_true p337
   replace q337 := eq_true q337
   go_wp2_with (first | ((with_reducible refine gate_callee (f := 56) rfl ?_); refine goesL_ (some 23) rfl rfl Try.func56 (by kernel_rfl) rfl #[.slice A3 l3.length c3, .int .i64 (rd t334 x17_1)] rfl zo4 ?_; (with_reducible refine (spec_l1Has.calls k1 _ _ l3 (rd t334 x17_1) false _ ?side1 ?side2 A16.out).mono ?_); (case side1 => exact zo19); (case side2 => exact HC3.out); rintro e w' ⟨rfl, ⟨nd, rfl⟩⟩; refine ⟨_, rfl, ?_⟩))
   go_roundg k1
   case measure => have := HK1.out; omega
   case rel => exact ⟨(wrap64 (x9_1 + 1)), (wrap64 (x17_1 + 1)), zo7, zo7, H', ⟨by have := HK1.out; omega⟩, ⟨by (with_reducible repeat (first | apply Kd.R_alloc | apply Kd.R_drewN | apply Kd.R_drew)); exact HO_15.out⟩, ⟨zo11⟩, ⟨zo15⟩, ⟨zo6⟩⟩

/-! ### spec_FewestOnward: function 26 -/
mutual
def spec_FewestOnward.j0 : Nat → Int → Bool → Int → Int → List Int → Int → Int → Option (List Int × Bool)
 | 0, _, _, _, _, _, _, _ => none
 | k + 1, x2, x23, x340000, x340001, x340002, x341000, x341001 => if x23 = true then (some (([] : List Int), false)) else (spec_FewestOnward.l0 k (([x2] : List Int)) x340000 x340001 x340002 x341000 x341001)
def spec_FewestOnward.l0 : Nat → List Int → Int → Int → List Int → Int → Int → Option (List Int × Bool)
 | 0, _, _, _, _, _, _ => none
 | k + 1, x8, x340000, x340001, x340002, x341000, x341001 => if 0 ≤ (wrap64 ((x8.length : Int) - 1)) then (if (wrap64 ((x8.length : Int) - 1)) < (x8.length : Int) then ((spec_boLeaps.f k x340000 x340001 x340002 x341000 x341001 (rd x8 (wrap64 ((x8.length : Int) - 1)))).bind fun t347 => (spec_FewestOnward.l1 k x8 (-1) 0 t347 (t347.length : Int) 0 x340000 x340001 x340002 x341000 x341001)) else (none)) else (none)
def spec_FewestOnward.l1 : Nat → List Int → Int → Int → List Int → Int → Int → Int → Int → List Int → Int → Int → Option (List Int × Bool)
 | 0, _, _, _, _, _, _, _, _, _, _, _ => none
 | k + 1, x8, x9, x10, x34, x35, x36, x340000, x340001, x340002, x341000, x341001 => if x36 < x35 then (if 0 ≤ x36 then (if x36 < (x34.length : Int) then ((spec_l1Has.f k x8 (rd x34 x36)).bind fun t354 => (if t354 = true then (spec_FewestOnward.l1 k x8 x9 x10 x34 x35 (wrap64 (x36 + 1)) x340000 x340001 x340002 x341000 x341001) else ((spec_toOnward.f k x340000 x340001 x340002 x341000 x341001 (rd x34 x36) x8).bind fun t355 => (if x9 < 0 then (spec_FewestOnward.l1 k x8 (rd x34 x36) t355 x34 x35 (wrap64 (x36 + 1)) x340000 x340001 x340002 x341000 x341001) else (if t355 < x10 then (spec_FewestOnward.l1 k x8 (rd x34 x36) t355 x34 x35 (wrap64 (x36 + 1)) x340000 x340001 x340002 x341000 x341001) else (spec_FewestOnward.l1 k x8 x9 x10 x34 x35 (wrap64 (x36 + 1)) x340000 x340001 x340002 x341000 x341001)))))) else (none)) else (none)) else (if x9 < 0 then (some (x8, true)) else (if x8.length < 17592186044416 then (spec_FewestOnward.l0 k (x8 ++ [x9]) x340000 x340001 x340002 x341000 x341001) else (none)))
end
def spec_FewestOnward.f (k : Nat) (a0_0 : Int) (a0_1 : Int) (l0_2 : List Int) (a1_0 : Int) (a1_1 : Int) (a2 : Int) : Option (List Int × Bool) := (spec_boTwo.f k a0_0 a0_1 l0_2 a1_0 a1_1).bind fun t341 => (if t341 = true then ((spec_boHas.f k a0_0 a0_1 l0_2 a2).bind fun t342 => (spec_FewestOnward.j0 k a2 (!t342) a0_0 a0_1 l0_2 a1_0 a1_1)) else (spec_FewestOnward.j0 k a2 true a0_0 a0_1 l0_2 a1_0 a1_1))
def spec_FewestOnward.T5 : Bool × List (List Nat × List Nat) := (true, [([], []), ([], []), ([], []), ([], []), ([3], [3]), ([4], [4]), ([2, 5], [2, 5]), ([6], [6]), ([0, 1, 7], [0, 1, 7]), ([8], [8]), ([], [])])
def spec_FewestOnward.B5 : List Nat := [0, 0, 0, 0, 8, 24, 60, 124, 255, 511, 0]
theorem spec_FewestOnward.tab5 : rtab .any (opsOf Try.f26 5) = spec_FewestOnward.T5 := by kernel_rfl
theorem spec_FewestOnward.bits5 : waitsOk spec_FewestOnward.T5.2 spec_FewestOnward.B5 = true := by kernel_rfl
set_option maxHeartbeats 8000000 in
set_option maxRecDepth 100000 in
theorem spec_FewestOnward.calls (k : Nat) (a0_0 : Int) (a0_1 : Int) (A0_2 : Option Addr) (c0_2 : Nat) (l0_2 : List Int) (a1_0 : Int) (a1_1 : Int) (a2 : Int) (r1 : List Int) (r2 : Bool) (w : World) (hr0_2 : Kd.C (Kd.int .i64) w A0_2 l0_2.length l0_2) (hc0_2 : l0_2.length ≤ c0_2) (h : spec_FewestOnward.f k a0_0 a0_1 l0_2 a1_0 a1_1 a2 = some (r1, r2)) :
  Calls Try.prog 26 #[.agg #[.int .i64 a0_0, .int .i64 a0_1, .slice A0_2 l0_2.length c0_2], .agg #[.int .i64 a1_0, .int .i64 a1_1], .int .i64 a2] w fun e w' => ∃ v0_ : Value, e = .returned (.tuple #[v0_, .bool r2]) ∧ Kd.R (Kd.int .i64) 3 w' w.heap.size (fun _ => True) v0_ r1 ∧ Below w.heap.size w w' := by
 have hu30 := Try.underlying30
 have hu32 := Try.underlying32
 have HR0_2 := Aside0.mk hr0_2
 have HC0_2 := Aside0.mk hc0_2
 clear hr0_2 hc0_2
 have HB := Aside0.mk (Below.refl w.heap.size w)
 have H : ((spec_boTwo.f k a0_0 a0_1 l0_2 a1_0 a1_1).bind fun t341 => (if t341 = true then ((spec_boHas.f k a0_0 a0_1 l0_2 a2).bind fun t342 => (spec_FewestOnward.j0 k a2 (!t342) a0_0 a0_1 l0_2 a1_0 a1_1)) else (spec_FewestOnward.j0 k a2 true a0_0 a0_1 l0_2 a1_0 a1_1))) = some (r1, r2) := h
 clear h
 have HC4 := Aside0.mk H
 clear H
 go_enter Try.func26, Try.ntmps26
 go_upto_region 1 with (first | ((with_reducible refine gate_dst (N := 3) rfl ?_); refine box_event ?hg (N := 3) ?hd (cs := #[.int .i64 a0_0, .int .i64 a0_1, .slice A0_2 l0_2.length c0_2]) (t := 30) ?hr ?_; (case hd => rfl); (case hg => rfl); (case hr => first | (go_simp; done) | (go_simp; rfl)); intro gb339 hg w5 hbox hb; have n0_ := Aside0.mk (below_step zo13 hb); have n1_ := Aside0.mk (hbox); have n2_ := Aside0.mk ((by rw [hg]; exact (below_size zo13) : w.heap.size ≤ gb339)); have n3_ := Aside0.mk ((by rw [hg]; exact (below_size zo13) : w.heap.size ≤ gb339)); clear HB; have HB := n0_; have BK339 := n1_; have GW339 := n2_; have GE339 := n3_; clear n0_ n1_ n2_ n3_; clear hb hbox hg) | ((with_reducible refine gate_dst (N := 4) rfl ?_); refine box_event ?hg (N := 4) ?hd (cs := #[.int .i64 a1_0, .int .i64 a1_1]) (t := 32) ?hr ?_; (case hd => rfl); (case hg => rfl); (case hr => first | (go_simp; done) | (go_simp; rfl)); intro gb340 hg w6 hbox hb; have n0_ := Aside0.mk (blk_below (g := gb339) (o := .cells #[.int .i64 a0_0, .int .i64 a0_1, .slice A0_2 l0_2.length c0_2] 30 (0, 0)) zo2 hb); have n1_ := Aside0.mk (below_step zo16 hb); have n2_ := Aside0.mk (hbox); have n3_ := Aside0.mk ((by rw [hg]; exact (below_size zo16) : w.heap.size ≤ gb340)); have n4_ := Aside0.mk ((by rw [hg]; exact (below_size zo16) : w.heap.size ≤ gb340)); have n5_ := Aside0.mk ((by rw [hg]; exact Nat.ne_of_lt (blk_lt (g := gb339) (o := .cells #[.int .i64 a0_0, .int .i64 a0_1, .slice A0_2 l0_2.length c0_2] 30 (0, 0)) zo2) : gb339 ≠ gb340)); have n6_ := Aside0.mk ((by rw [hg]; exact Nat.ne_of_gt (blk_lt (g := gb339) (o := .cells #[.int .i64 a0_0, .int .i64 a0_1, .slice A0_2 l0_2.length c0_2] 30 (0, 0)) zo2) : gb340 ≠ gb339)); clear BK339; clear HB; have BK339 := n0_; have HB := n1_; have BK340 := n2_; have GW340 := n3_; have GE340 := n4_; have NB339_340 := n5_; have NB340_339 := n6_; clear n0_ n1_ n2_ n3_ n4_ n5_ n6_; clear hb hbox hg))
 (try simp only [Act.put, List.setIfInBounds_toArray, List.set_cons_zero, List.set_cons_succ])
 go_cut [23] (fun v23 wc => ∃ (kq : Nat) (x23_3 : Bool), v23 = .bool x23_3 ∧ Aside0 (spec_FewestOnward.j0 kq a2 x23_3 a0_0 a0_1 l0_2 a1_0 a1_1 = some (r1, r2)) ∧ Aside0 (kq ≤ k) ∧ Aside0 (wc.heap[gb339]? = some (.cells #[.int .i64 a0_0, .int .i64 a0_1, (.slice A0_2 l0_2.length c0_2)] 30 (0, 0))) ∧ Aside0 (wc.heap[gb340]? = some (.cells #[.int .i64 a1_0, .int .i64 a1_1] 32 (0, 0))) ∧ Aside0 (Below w.heap.size w wc))
 case first =>
  have H := HC4.out
  clear HC4
  replace H := Option.bind_eq_some_iff.mp H
  obtain ⟨t341, A70, H⟩ := H
  replace H : (if t341 = true then ((spec_boHas.f k a0_0 a0_1 l0_2 a2).bind fun t342 => (spec_FewestOnward.j0 k a2 (!t342) a0_0 a0_1 l0_2 a1_0 a1_1)) else (spec_FewestOnward.j0 k a2 true a0_0 a0_1 l0_2 a1_0 a1_1)) = some (r1, r2) := H
  have A7 := Aside0.mk A70
  clear A70
  by_cases c8 : t341 = true
  rotate_left
  ·replace c8 := Bool.eq_false_iff.mpr c8
   subst c8
   have H1 : (spec_FewestOnward.j0 k a2 true a0_0 a0_1 l0_2 a1_0 a1_1) = some (r1, r2) := by rw [if_neg (show ¬ (false = true) by decide)] at H; exact H
   clear H
   have H := H1
   clear H1
   have H' := Aside0.mk H
   clear H
   have hnb16 := NB339_340.out
   have hnc16 := NB340_339.out
   have hcz17_0 : w6.cell? ⟨gb339, 0, none⟩ = some (.int .i64 a0_0) := (blk_cell BK339.out 0).trans rfl
   have hcz17_1 : w6.cell? ⟨gb339, 1, none⟩ = some (.int .i64 a0_1) := (blk_cell BK339.out 1).trans rfl
   have hcz17_2 : w6.cell? ⟨gb339, 2, none⟩ = some (.slice A0_2 l0_2.length c0_2) := (blk_cell BK339.out 2).trans rfl
   have hfz17_0 := blk_frozen BK339.out 0
   have hfz17_1 := blk_frozen BK339.out 1
   have hfz17_2 := blk_frozen BK339.out 2
   have hcz18_0 : w6.cell? ⟨gb340, 0, none⟩ = some (.int .i64 a1_0) := (blk_cell BK340.out 0).trans rfl
   have hcz18_1 : w6.cell? ⟨gb340, 1, none⟩ = some (.int .i64 a1_1) := (blk_cell BK340.out 1).trans rfl
   have hfz18_0 := blk_frozen BK340.out 0
   have hfz18_1 := blk_frozen BK340.out 1
   go_wp2_with (first | ((with_reducible refine gate_callee (f := 53) rfl ?_); refine goesL_ (some 16) rfl rfl Try.func53 (by kernel_rfl) rfl #[.agg #[.int .i64 a0_0, .int .i64 a0_1, .slice A0_2 l0_2.length c0_2], .agg #[.int .i64 a1_0, .int .i64 a1_1]] rfl zo4 ?_; (with_reducible refine (spec_boTwo.calls k a0_0 a0_1 _ _ l0_2 a1_0 a1_1 false _ ?side1 ?side2 A7.out).mono ?_); (case side1 => exact zo12); (case side2 => exact HC0_2.out); rintro e w19 ⟨rfl, hb⟩; refine ⟨_, rfl, ?_⟩; have n0_ := Aside0.mk (blk_below (g := gb339) (o := .cells #[.int .i64 a0_0, .int .i64 a0_1, .slice A0_2 l0_2.length c0_2] 30 (0, 0)) zo2 hb); have n1_ := Aside0.mk (blk_below (g := gb340) (o := .cells #[.int .i64 a1_0, .int .i64 a1_1] 32 (0, 0)) zo3 hb); have n2_ := Aside0.mk (below_step zo1 hb); clear BK339; clear BK340; clear HB; have BK339 := n0_; have BK340 := n1_; have HB := n2_; clear n0_ n1_ n2_; (try clear hb); (try clear hb2); (try clear hk); (try clear hi); (try clear hna_); (try clear hnb_)))
   go_meet
   case rel => exact ⟨_, (true), zo7, H', ⟨by first | omega | exact Nat.le_refl _⟩, ⟨zo2⟩, ⟨zo3⟩, ⟨zo1⟩⟩
  subst c8
  have H1 : ((spec_boHas.f k a0_0 a0_1 l0_2 a2).bind fun t342 => (spec_FewestOnward.j0 k a2 (!t342) a0_0 a0_1 l0_2 a1_0 a1_1)) = some (r1, r2) := by rw [if_pos rfl] at H; exact H
  clear H
  have H := H1
  clear H1
  replace H := Option.bind_eq_some_iff.mp H
  obtain ⟨t342, A90, H⟩ := H
  replace H : (spec_FewestOnward.j0 k a2 (!t342) a0_0 a0_1 l0_2 a1_0 a1_1) = some (r1, r2) := H
  have A9 := Aside0.mk A90
  clear A90
  have H' := Aside0.mk H
  clear H
  have hnb10 := NB339_340.out
  have hnc10 := NB340_339.out
  have hcz11_0 : w6.cell? ⟨gb339, 0, none⟩ = some (.int .i64 a0_0) := (blk_cell BK339.out 0).trans rfl
  have hcz11_1 : w6.cell? ⟨gb339, 1, none⟩ = some (.int .i64 a0_1) := (blk_cell BK339.out 1).trans rfl
  have hcz11_2 : w6.cell? ⟨gb339, 2, none⟩ = some (.slice A0_2 l0_2.length c0_2) := (blk_cell BK339.out 2).trans rfl
  have hfz11_0 := blk_frozen BK339.out 0
  have hfz11_1 := blk_frozen BK339.out 1
  have hfz11_2 := blk_frozen BK339.out 2
  have hcz12_0 : w6.cell? ⟨gb340, 0, none⟩ = some (.int .i64 a1_0) := (blk_cell BK340.out 0).trans rfl
  have hcz12_1 : w6.cell? ⟨gb340, 1, none⟩ = some (.int .i64 a1_1) := (blk_cell BK340.out 1).trans rfl
  have hfz12_0 := blk_frozen BK340.out 0
  have hfz12_1 := blk_frozen BK340.out 1
  go_wp2_with (first | ((with_reducible refine gate_callee (f := 53) rfl ?_); refine goesL_ (some 16) rfl rfl Try.func53 (by kernel_rfl) rfl #[.agg #[.int .i64 a0_0, .int .i64 a0_1, .slice A0_2 l0_2.length c0_2], .agg #[.int .i64 a1_0, .int .i64 a1_1]] rfl zo4 ?_; (with_reducible refine (spec_boTwo.calls k a0_0 a0_1 _ _ l0_2 a1_0 a1_1 true _ ?side1 ?side2 A7.out).mono ?_); (case side1 => exact zo12); (case side2 => exact HC0_2.out); rintro e w13 ⟨rfl, hb⟩; refine ⟨_, rfl, ?_⟩; have n0_ := Aside0.mk (blk_below (g := gb339) (o := .cells #[.int .i64 a0_0, .int .i64 a0_1, .slice A0_2 l0_2.length c0_2] 30 (0, 0)) zo2 hb); have n1_ := Aside0.mk (blk_below (g := gb340) (o := .cells #[.int .i64 a1_0, .int .i64 a1_1] 32 (0, 0)) zo3 hb); have n2_ := Aside0.mk (below_step zo1 hb); clear BK339; clear BK340; clear HB; have BK339 := n0_; have BK340 := n1_; have HB := n2_; clear n0_ n1_ n2_; (try clear hb); (try clear hb2); (try clear hk); (try clear hi); (try clear hna_); (try clear hnb_); have hcz14_0 : w13.cell? ⟨gb339, 0, none⟩ = some (.int .i64 a0_0) := (blk_cell BK339.out 0).trans rfl; have hcz14_1 : w13.cell? ⟨gb339, 1, none⟩ = some (.int .i64 a0_1) := (blk_cell BK339.out 1).trans rfl; have hcz14_2 : w13.cell? ⟨gb339, 2, none⟩ = some (.slice A0_2 l0_2.length c0_2) := (blk_cell BK339.out 2).trans rfl; have hfz14_0 := blk_frozen BK339.out 0; have hfz14_1 := blk_frozen BK339.out 1; have hfz14_2 := blk_frozen BK339.out 2) | (go_at_call 54; (with_reducible refine (spec_boHas.calls k a0_0 a0_1 _ _ l0_2 a2 t342 _ ?side1 ?side2 A9.out).mono ?_); (case side1 => exact zo12); (case side2 => exact HC0_2.out); rintro e w15 ⟨rfl, hb⟩; have n0_ := Aside0.mk (blk_below (g := gb339) (o := .cells #[.int .i64 a0_0, .int .i64 a0_1, .slice A0_2 l0_2.length c0_2] 30 (0, 0)) zo2 hb); have n1_ := Aside0.mk (blk_below (g := gb340) (o := .cells #[.int .i64 a1_0, .int .i64 a1_1] 32 (0, 0)) zo3 hb); have n2_ := Aside0.mk (below_step zo1 hb); clear BK339; clear BK340; clear HB; have BK339 := n0_; have BK340 := n1_; have HB := n2_; clear n0_ n1_ n2_; (try clear hb); (try clear hb2); (try clear hk); (try clear hi); (try clear hna_); (try clear hnb_)))
  go_meet
  case rel => exact ⟨_, (!t342), zo7, H', ⟨by first | omega | exact Nat.le_refl _⟩, ⟨zo2⟩, ⟨zo3⟩, ⟨zo1⟩⟩
 case rest =>
  clear HC4
  try clear c1; try clear c2; try clear p2; try clear c5; try clear c8; try clear c10; try clear c16; try clear hcz11_0; try clear hcz11_1; try clear hcz11_2; try clear hcz12_0; try clear hcz12_1; try clear hcz14_0; try clear hcz14_1; try clear hcz14_2; try clear hcz17_0; try clear hcz17_1; try clear hcz17_2; try clear hcz18_0; try clear hcz18_1; try clear hfz11_0; try clear hfz11_1; try clear hfz11_2; try clear hfz12_0; try clear hfz12_1; try clear hfz14_0; try clear hfz14_1; try clear hfz14_2; try clear hfz17_0; try clear hfz17_1; try clear hfz17_2; try clear hfz18_0; try clear hfz18_1
  obtain ⟨kq, x23_3, rfl, HA, HJ3, BK339, BK340, HB⟩ := hcut
  cases kq with
  | zero => exact absurd HA.out (by simp [spec_FewestOnward.j0])
  | succ kj3 =>
   have H := HA.out
   clear HA
   simp only [spec_FewestOnward.j0] at H
   by_cases c20 : x23_3 = true
   ·subst c20
    have H1 : (some (([] : List Int), false)) = some (r1, r2) := by rw [if_pos rfl] at H; exact H
    clear H
    have H := H1
    clear H1
    simp only [Option.some.injEq, Prod.mk.injEq] at H
    obtain ⟨rfl, rfl⟩ := H
    go_wp2
    go_ret2
    exact ⟨_, by first | rfl | (simp [errW_none, errW_some] <;> rfl) | (simp [*, errW_none, errW_some] <;> rfl), by first | exact Kd.R_nil _ _ _ _ _ | exact Kd.N_nil _ _ _ _ _ | exact Kd.V_nil _ _ _ _ _ | exact Kd.Q_nil _ _ _ _ _ | exact Kd.S_nil _ _ _ _ _, zo1⟩
   replace c20 := Bool.eq_false_iff.mpr c20
   subst c20
   have H1 : (spec_FewestOnward.l0 kj3 (([a2] : List Int)) a0_0 a0_1 l0_2 a1_0 a1_1) = some (r1, r2) := by rw [if_neg (show ¬ (false = true) by decide)] at H; exact H
   clear H
   have H := H1
   clear H1
   obtain ⟨y343, hy343⟩ : ∃ y_ : List Int, y_ = (([a2] : List Int)) := ⟨_, rfl⟩
   replace H : (spec_FewestOnward.l0 kj3 y343 a0_0 a0_1 l0_2 a1_0 a1_1) = some (r1, r2) := by first | (rw [hy343]; with_reducible exact H) | (have H2_ := (Option.bind_some _ _).symm.trans H; rw [hy343]; with_reducible exact H2_) | (have H2_ := (Option.bind_some _ _).symm.trans H; with_reducible exact H2_) | with_reducible exact H | (rw [hy343]; exact H) | exact H
   have Ny343 := Aside0.mk hy343
   clear hy343
   have H' := Aside0.mk H
   clear H
   go_wp2_with (first | ((with_reducible refine gate_dst (N := 25) rfl ?_); refine Kd.R_lit (Kd.int .i64) _ 3 ?hg (N := 25) ?hd (xs := ([a2] : List Int)) (inner := [.int .i64 a2]) (ok := fun _ => True) (okp := fun _ => True) ?hr ?hp (fun _ hk => hk) trivial (Below.refl _ _) (Nat.le_refl _) (by simp) ?_; (case hd => rfl); (case hg => rfl); (case hr => first | (go_simp; done) | (go_simp; rfl)); (case hp => exact (Reps.one (show Kd.M (Kd.int .i64) _ _ _ a2 [.int .i64 a2] from rfl) (Reps.none _ _))); intro v344 w21 ho22 hb hg_ hnew_; clear hg_ hnew_; (first | rw [← Ny343.out] at ho22 | (simp only [Int.reduceToNat] at ho22; rw [← Ny343.out] at ho22)); have n0_ := Aside0.mk (Kd.R_lower ho22 (below_size zo1)); have n1_ := Aside0.mk (blk_below (g := gb339) (o := .cells #[.int .i64 a0_0, .int .i64 a0_1, .slice A0_2 l0_2.length c0_2] 30 (0, 0)) zo2 hb); have n2_ := Aside0.mk (blk_below (g := gb340) (o := .cells #[.int .i64 a1_0, .int .i64 a1_1] 32 (0, 0)) zo3 hb); have n3_ := Aside0.mk (below_step zo1 hb); clear BK339; clear BK340; clear HB; have HO345 := n0_; have BK339 := n1_; have BK340 := n2_; have HB := n3_; clear n0_ n1_ n2_ n3_; clear hb ho22))
   go_loopg [8] kj3 (fun kq v8 w' => ∃ (x8_2 : List Int), Aside0 (spec_FewestOnward.l0 kq x8_2 a0_0 a0_1 l0_2 a1_0 a1_1 = some (r1, r2)) ∧ Aside0 (kq ≤ kj3) ∧ Aside0 (Kd.R (Kd.int .i64) 3 w' w.heap.size (fun _ => True) v8 x8_2) ∧ Aside0 (w'.heap[gb339]? = some (.cells #[.int .i64 a0_0, .int .i64 a0_1, (.slice A0_2 l0_2.length c0_2)] 30 (0, 0))) ∧ Aside0 (w'.heap[gb340]? = some (.cells #[.int .i64 a1_0, .int .i64 a1_1] 32 (0, 0))) ∧ Aside0 (Below w.heap.size w w'))
   case atStart => exact ⟨(y343), H', ⟨Nat.le_refl _⟩, ⟨by (with_reducible repeat (first | apply Kd.R_alloc | apply Kd.R_drewN | apply Kd.R_drew)); exact HO345.out⟩, ⟨zo2⟩, ⟨zo3⟩, ⟨zo1⟩⟩
   case round =>
    clear H'
    try clear c1; try clear c2; try clear p2; try clear c5; try clear c8; try clear c10; try clear c16; try clear c20; try clear hcz11_0; try clear hcz11_1; try clear hcz11_2; try clear hcz12_0; try clear hcz12_1; try clear hcz14_0; try clear hcz14_1; try clear hcz14_2; try clear hcz17_0; try clear hcz17_1; try clear hcz17_2; try clear hcz18_0; try clear hcz18_1; try clear hfz11_0; try clear hfz11_1; try clear hfz11_2; try clear hfz12_0; try clear hfz12_1; try clear hfz14_0; try clear hfz14_1; try clear hfz14_2; try clear hfz17_0; try clear hfz17_1; try clear hfz17_2; try clear hfz18_0; try clear hfz18_1
    try clear p2
    obtain ⟨x8_2, HA, HK2, HO_8, BK339, BK340, HB⟩ := hrel
    cases gk with
    | zero => exact absurd HA.out (by simp [spec_FewestOnward.l0])
    | succ k2 =>
     have H := HA.out
     clear HA
     simp only [spec_FewestOnward.l0] at H
     obtain ⟨ji23, hji23⟩ : ∃ j_ : Int, (wrap64 ((x8_2.length : Int) - 1)) = j_ := ⟨_, rfl⟩
     replace H : (if 0 ≤ (ji23) then (if (ji23) < (x8_2.length : Int) then ((spec_boLeaps.f k2 a0_0 a0_1 l0_2 a1_0 a1_1 (rd x8_2 (ji23))).bind fun t347 => (spec_FewestOnward.l1 k2 x8_2 (-1) 0 t347 (t347.length : Int) 0 a0_0 a0_1 l0_2 a1_0 a1_1)) else (none)) else (none)) = some (r1, r2) := by first | (rw [hji23] at H; exact H) | (simp only [hji23] at H ⊢; exact H)
     have hji23w : (IntKind.i64.wrap ((x8_2.length : Int) - 1)) = ji23 := (i64_w _).trans hji23
     by_cases c24 : 0 ≤ (ji23)
     rotate_left
     ·rw [if_neg c24] at H
      exact absurd H (by simp)
     rw [if_pos c24] at H
     have c24b0 : decide (0 ≤ (ji23)) = true := decide_eq_true c24
     clear c24
     by_cases c25 : (ji23) < (x8_2.length : Int)
     rotate_left
     ·rw [if_neg c25] at H
      exact absurd H (by simp)
     rw [if_pos c25] at H
     have c25b0 : decide ((ji23) < (x8_2.length : Int)) = true := decide_eq_true c25
     clear c25
     replace H := Option.bind_eq_some_iff.mp H
     obtain ⟨t347, A260, H⟩ := H
     replace H : (spec_FewestOnward.l1 k2 x8_2 (-1) 0 t347 (t347.length : Int) 0 a0_0 a0_1 l0_2 a1_0 a1_1) = some (r1, r2) := H
     have A26 := Aside0.mk A260
     clear A260
     have H' := Aside0.mk H
     clear H
     try go_wp2
     have n0_ := Aside0.mk (Kd.R_drew HO_8.out)
     have n1_ := Aside0.mk (blk_drew BK339.out)
     have n2_ := Aside0.mk (blk_drew BK340.out)
     have n3_ := Aside0.mk (below_drew1 HB.out)
     clear HO_8
     clear BK339
     clear BK340
     clear HB
     have HO_8 := n0_
     have BK339 := n1_
     have BK340 := n2_
     have HB := n3_
     clear n0_ n1_ n2_ n3_
     obtain ⟨Ao28, co28, eo28⟩ := Kd.R_slice HO_8.out
     (first | subst eo28 | (injection eo28 with f1_ f2_ f3_; have f4_ := f1_.symm; have f5_ := f3_.symm; clear f1_ f2_ f3_; subst f4_; subst f5_))
     have p346 : 0 ≤ ((ji23) : Int) := of_decide_eq_true zo14
     have q346 : (ji23) < (x8_2.length : Int) := of_decide_eq_true zo14
     obtain ⟨ad346, e346, hx346_0⟩ := Kd.at_int (Kd.R_reads' HO_8.out).2.2 (ji23) p346 q346
     cases e346
     replace p346 := eq_true p346
     replace q346 := eq_true q346
     refine start_ (n := 11) (S := fun w' => w'.cell? ⟨gb339, 0, none⟩ = some (.int .i64 a0_0) ∧ w'.cell? ⟨gb339, 1, none⟩ = some (.int .i64 a0_1) ∧ w'.cell? ⟨gb339, 2, none⟩ = some (.slice A0_2 l0_2.length c0_2) ∧ w'.cell? ⟨gb340, 0, none⟩ = some (.int .i64 a1_0) ∧ w'.cell? ⟨gb340, 1, none⟩ = some (.int .i64 a1_1) ∧ w'.cell? (ad346.add ((ji23)).toNat) = some (.int .i64 (rd x8_2 (ji23)))) (ds := []) #[false, false, false, false, false, false, false, false, false, false, false] (by kernel_rfl) rfl rfl ⟨(blk_cell BK339.out 0).trans rfl, (blk_cell BK339.out 1).trans rfl, (blk_cell BK339.out 2).trans rfl, (blk_cell BK340.out 0).trans rfl, (blk_cell BK340.out 1).trans rfl, hx346_0⟩ (fun hHeld => ?_); refine with_tabW spec_FewestOnward.tab5 spec_FewestOnward.bits5 (fun HT_ HW_ => ?_)
     generalize wr.drew = w27 at HO_8 BK339 BK340 HB hx346_0 hHeld ⊢
     refine pure_ (i := 2) (N := some 28) (v := ?_) (a' := ?_) #[false, false, true, false, false, false, false, false, false, false, false] rfl rfl (any_of HT_.out (by kernel_rfl)) (fun _ _ _ h => h) (Or.inl ⟨by rfl, ?_⟩) ?_ ?_
     rotate_left
     ·intro w'
      go_simp
      with_reducible rfl
     rotate_left
     ·simp only [Act.put, List.setIfInBounds_toArray, List.set_cons_zero, List.set_cons_succ, i64_w, i32_w]
      rfl
     refine pure_ (i := 3) (N := some 29) (v := ?_) (a' := ?_) #[false, false, true, true, false, false, false, false, false, false, false] rfl rfl (any_of HT_.out (by kernel_rfl)) (fun _ _ _ h => h) (Or.inl ⟨by rfl, ?_⟩) ?_ ?_
     rotate_left
     ·intro w'
      go_simp
      with_reducible rfl
     rotate_left
     ·simp only [Act.put, List.setIfInBounds_toArray, List.set_cons_zero, List.set_cons_succ, i64_w, i32_w]
      rfl
     refine pure_ (i := 4) (N := some 30) (v := ?_) (a' := ?_) #[false, false, true, true, true, false, false, false, false, false, false] rfl rfl (any_of HT_.out (by kernel_rfl)) (fun _ _ _ h => h) (Or.inl ⟨by rfl, ?_⟩) ?_ ?_
     rotate_left
     ·intro w'
      go_simp
      with_reducible rfl
     rotate_left
     ·simp only [Act.put, List.setIfInBounds_toArray, List.set_cons_zero, List.set_cons_succ, i64_w, i32_w]
      rfl
     refine pure_ (i := 5) (N := some 31) (v := ?_) (a' := ?_) #[false, false, true, true, true, true, false, false, false, false, false] rfl rfl (any_of HT_.out (by kernel_rfl)) (fun _ _ _ h => h) (Or.inl ⟨by rfl, ?_⟩) ?_ ?_
     rotate_left
     ·intro w'
      go_simp
      with_reducible rfl
     rotate_left
     ·simp only [Act.put, List.setIfInBounds_toArray, List.set_cons_zero, List.set_cons_succ, i64_w, i32_w]
      rfl
     refine pure_ (i := 6) (N := some 32) (v := ?_) (a' := ?_) #[false, false, true, true, true, true, true, false, false, false, false] rfl rfl (any_of HT_.out (by kernel_rfl)) (fun _ _ _ h => h) (Or.inl ⟨by rfl, ?_⟩) ?_ ?_
     rotate_left
     ·intro w'
      go_simp
      with_reducible rfl
     rotate_left
     ·simp only [Act.put, List.setIfInBounds_toArray, List.set_cons_zero, List.set_cons_succ, i64_w, i32_w]
      rfl
     refine pure_ (i := 10) (N := some 36) (v := ?_) (a' := ?_) #[false, false, true, true, true, true, true, false, false, false, true] rfl rfl (any_of HT_.out (by kernel_rfl)) (fun _ _ _ h => h) (Or.inl ⟨by rfl, ?_⟩) ?_ ?_
     rotate_left
     ·intro w'
      go_simp
      with_reducible rfl
     rotate_left
     ·simp only [Act.put, List.setIfInBounds_toArray, List.set_cons_zero, List.set_cons_succ, i64_w, i32_w]
      rfl
     refine take_ (i := 0) (N := some 26) (v := ?_) (a' := ?_) #[true, false, true, true, true, true, true, false, false, false, true] rfl rfl (take_ofW HT_.out HW_.out (by kernel_rfl)) (fun _ _ _ h => h) (Or.inl ⟨by rfl, ?_⟩) hHeld ?_ ?_
     rotate_left
     ·rintro w' ⟨s0, s1, s2, s3, s4, s5⟩
      go_simp
      with_reducible rfl
     rotate_left
     ·simp only [Act.put, List.setIfInBounds_toArray, List.set_cons_zero, List.set_cons_succ, i64_w, i32_w]
      rfl
     refine take_ (i := 1) (N := some 27) (v := ?_) (a' := ?_) #[true, true, true, true, true, true, true, false, false, false, true] rfl rfl (take_ofW HT_.out HW_.out (by kernel_rfl)) (fun _ _ _ h => h) (Or.inl ⟨by rfl, ?_⟩) hHeld ?_ ?_
     rotate_left
     ·rintro w' ⟨s0, s1, s2, s3, s4, s5⟩
      go_simp
      with_reducible rfl
     rotate_left
     ·simp only [Act.put, List.setIfInBounds_toArray, List.set_cons_zero, List.set_cons_succ, i64_w, i32_w]
      rfl
     refine take_ (i := 7) (N := some 33) (v := ?_) (a' := ?_) #[true, true, true, true, true, true, true, true, false, false, true] rfl rfl (take_ofW HT_.out HW_.out (by kernel_rfl)) (fun _ _ _ h => h) (Or.inl ⟨by rfl, ?_⟩) hHeld ?_ ?_
     rotate_left
     ·rintro w' ⟨s0, s1, s2, s3, s4, s5⟩
      go_simp
      with_reducible rfl
     rotate_left
     ·simp only [Act.put, List.setIfInBounds_toArray, List.set_cons_zero, List.set_cons_succ, i64_w, i32_w]
      rfl
     refine one_ (i := 8) (N := some 34) #[true, true, true, true, true, true, true, true, true, false, true] rfl rfl (one_of HT_.out (by kernel_rfl)) (by decide) (fun K hK => ?_)
     refine goes_ Try.func55 (by kernel_rfl) rfl #[.agg #[.int .i64 a0_0, .int .i64 a0_1, .slice A0_2 l0_2.length c0_2], .agg #[.int .i64 a1_0, .int .i64 a1_1], .int .i64 (rd x8_2 (ji23))] (by rfl) rfl rfl (by (try simp only [List.map_toArray, List.map_cons, List.map_nil]); first | done | (simp only [hji23]; rfl) | rfl | (simp only [List.length_drop, List.length_take]; rfl)) ?_
     with_reducible refine (spec_boLeaps.calls k2 a0_0 a0_1 _ _ l0_2 a1_0 a1_1 (rd x8_2 (ji23)) t347 _ ?side1 ?side2 A26.out).mono ?_
     (case side1 => exact zo12)
     (case side2 => exact HC0_2.out)
     rintro e w29 ⟨v348, rfl, ho0, hb⟩
     have HS5_ := (hb.cell (World.block_lt_of_cell? _ _ (hHeld.2.2.2.2.2))).trans (hHeld.2.2.2.2.2)
     refine ⟨_, rfl, ?_⟩
     have n0_ := Aside0.mk (Kd.R_elder' zo8 (Kd.R_base ho0) hb)
     have n1_ := Aside0.mk (Kd.R_lower (Kd.R_new' ho0 (Kd.R_lt zo8)) (below_size zo1))
     have n2_ := Aside0.mk (blk_below (g := gb339) (o := .cells #[.int .i64 a0_0, .int .i64 a0_1, .slice A0_2 l0_2.length c0_2] 30 (0, 0)) zo2 hb)
     have n3_ := Aside0.mk (blk_below (g := gb340) (o := .cells #[.int .i64 a1_0, .int .i64 a1_1] 32 (0, 0)) zo3 hb)
     have n4_ := Aside0.mk (below_step zo1 hb)
     clear HO_8
     clear BK339
     clear BK340
     clear HB
     have HO_8 := n0_
     have HO349 := n1_
     have BK339 := n2_
     have BK340 := n3_
     have HB := n4_
     clear n0_ n1_ n2_ n3_ n4_
     (try clear hb)
     (try clear hb2)
     (try clear hk)
     (try clear hi)
     (try clear ho0)
     (try clear hna_)
     (try clear hnb_)
     obtain ⟨Ao30, co30, eo30⟩ := Kd.R_slice HO349.out
     (first | subst eo30 | (injection eo30 with f1_ f2_ f3_; have f4_ := f1_.symm; have f5_ := f3_.symm; clear f1_ f2_ f3_; subst f4_; subst f5_))
     refine hK.out _ _ ⟨(blk_cell BK339.out 0).trans rfl, (blk_cell BK339.out 1).trans rfl, (blk_cell BK339.out 2).trans rfl, (blk_cell BK340.out 0).trans rfl, (blk_cell BK340.out 1).trans rfl, HS5_⟩ (fun hHeld => ?_)
     clear hK K
     refine norm_ (a' := ?_) ?_ ?_
     rotate_left
     ·show Act.put _ (some 34) _ = _
      simp only [Act.put, List.setIfInBounds_toArray, List.set_cons_zero, List.set_cons_succ, i64_w, i32_w]
      rfl
     refine pure_ (i := 9) (N := some 35) (v := ?_) (a' := ?_) #[true, true, true, true, true, true, true, true, true, true, true] rfl rfl (any_of HT_.out (by kernel_rfl)) (fun _ _ _ h => h) (Or.inl ⟨by rfl, ?_⟩) ?_ ?_
     rotate_left
     ·intro w'
      go_simp
      with_reducible rfl
     rotate_left
     ·simp only [Act.put, List.setIfInBounds_toArray, List.set_cons_zero, List.set_cons_succ, i64_w, i32_w]
      rfl
     refine done_ (done_of HT_.out (by kernel_rfl)) ?_
     try go_wp2
     go_loopg [9, 10, 36] k2 (fun kq v9 v10 v36 w' => ∃ (x9_3 : Int) (x10_3 : Int) (x36_3 : Int), v9 = .int .i64 x9_3 ∧ v10 = .int .i64 x10_3 ∧ v36 = .int .i64 x36_3 ∧ Aside0 (spec_FewestOnward.l1 kq x8_2 x9_3 x10_3 t347 (t347.length : Int) x36_3 a0_0 a0_1 l0_2 a1_0 a1_1 = some (r1, r2)) ∧ Aside0 (kq ≤ k2) ∧ Aside0 (Kd.R (Kd.int .i64) 3 w' w.heap.size (fun k_ => some k_ ≠ ((.slice Ao30 t347.length co30) : Value).ownBlock) (.slice (some ad346) x8_2.length co28) x8_2) ∧ Aside0 (Kd.R (Kd.int .i64) 3 w' w.heap.size (fun k_ => some k_ ≠ ((.slice (some ad346) x8_2.length co28) : Value).ownBlock) (.slice Ao30 t347.length co30) t347) ∧ Aside0 (w'.heap[gb339]? = some (.cells #[.int .i64 a0_0, .int .i64 a0_1, (.slice A0_2 l0_2.length c0_2)] 30 (0, 0))) ∧ Aside0 (w'.heap[gb340]? = some (.cells #[.int .i64 a1_0, .int .i64 a1_1] 32 (0, 0))) ∧ Aside0 (Below w.heap.size w w'))
     case atStart => exact ⟨((-1)), (0), (0), zo7, zo7, zo7, H', ⟨Nat.le_refl _⟩, ⟨by (with_reducible repeat (first | apply Kd.R_alloc | apply Kd.R_drewN | apply Kd.R_drew)); exact Kd.R_mono HO_8.out (fun _ hk => hk.2)⟩, ⟨by (with_reducible repeat (first | apply Kd.R_alloc | apply Kd.R_drewN | apply Kd.R_drew)); exact Kd.R_mono HO349.out (fun _ hk => hk.2)⟩, ⟨zo2⟩, ⟨zo3⟩, ⟨zo1⟩⟩
     case round =>
      clear H'
      try clear c1; try clear c2; try clear p2; try clear p3; try clear q3; try clear hx3; try clear c5; try clear p6; try clear c8; try clear c10; try clear c16; try clear c20; try clear c24; try clear c24b0; try clear c25; try clear c25b0; try clear c26; try clear hcz11_0; try clear hcz11_1; try clear hcz11_2; try clear hcz12_0; try clear hcz12_1; try clear hcz14_0; try clear hcz14_1; try clear hcz14_2; try clear hcz17_0; try clear hcz17_1; try clear hcz17_2; try clear hcz18_0; try clear hcz18_1; try clear hfz11_0; try clear hfz11_1; try clear hfz11_2; try clear hfz12_0; try clear hfz12_1; try clear hfz14_0
      try clear hfz14_1; try clear hfz14_2; try clear hfz17_0; try clear hfz17_1; try clear hfz17_2; try clear hfz18_0; try clear hfz18_1; try clear hx346_0; try clear p2; try clear p346; try clear q346
      obtain ⟨x9_3, x10_3, x36_3, rfl, rfl, rfl, HA, HK3, HO_8, HO_34, BK339, BK340, HB⟩ := hrel
      cases gk with
      | zero => exact absurd HA.out (by simp [spec_FewestOnward.l1])
      | succ k3 =>
       have H := HA.out
       clear HA
       simp only [spec_FewestOnward.l1] at H
       by_cases c31 : x36_3 < (t347.length : Int)
       rotate_left
       ·rw [if_neg c31] at H
        have c31b0 : decide (x36_3 < (t347.length : Int)) = false := decide_eq_false c31
        clear c31
        by_cases c51 : x9_3 < 0
        ·rw [if_pos c51] at H
         have c51b0 : decide (x9_3 < 0) = true := decide_eq_true c51
         clear c51
         simp only [Option.some.injEq, Prod.mk.injEq] at H
         obtain ⟨rfl, rfl⟩ := H
         go_wp2
         go_ret2
         exact ⟨_, by first | rfl | (simp [errW_none, errW_some] <;> rfl) | (simp only [← hji23]; first | rfl | (simp [errW_none, errW_some] <;> rfl)) | (simp [*, errW_none, errW_some] <;> rfl), by (with_reducible repeat (first | apply Kd.R_alloc | apply Kd.R_drewN | apply Kd.R_drew)); exact Kd.R_mono HO_8.out (fun _ hk => trivial), zo1⟩
        rw [if_neg c51] at H
        have c51b0 : decide (x9_3 < 0) = false := decide_eq_false c51
        clear c51
        by_cases c52 : x8_2.length < 17592186044416
        rotate_left
        ·rw [if_neg c52] at H
         exact absurd H (by simp)
        rw [if_pos c52] at H
        have LMc52 := Aside0.mk c52
        clear c52
        obtain ⟨y350, hy350⟩ : ∃ y_ : List Int, y_ = (x8_2 ++ [x9_3]) := ⟨_, rfl⟩
        replace H : (spec_FewestOnward.l0 k3 y350 a0_0 a0_1 l0_2 a1_0 a1_1) = some (r1, r2) := by first | (rw [hy350]; with_reducible exact H) | (have H2_ := (Option.bind_some _ _).symm.trans H; rw [hy350]; with_reducible exact H2_) | (have H2_ := (Option.bind_some _ _).symm.trans H; with_reducible exact H2_) | with_reducible exact H | (rw [hy350]; exact H) | exact H
        have Ny350 := Aside0.mk hy350
        clear hy350
        have H' := Aside0.mk H
        clear H
        go_wp2_with (first | ((with_reducible refine gate_builtin (b := .append) (xs := #[.tmp 61, .tmp 63]) rfl ?_); at_builtin; refine Kd.R_append (Kd.int .i64) (w0 := w) w.heap.size rfl (.tmp 61) (.tmp 63) 22 3 (.int .i64 0) 8 rfl Try.underlying22 info3 rfl (by decide) (by omega) (.slice (some ad346) x8_2.length co28) x8_2 x9_3 [.int .i64 x9_3] (fun k_ => some k_ ≠ (.slice Ao30 t347.length co30 : Value).ownBlock) (fun _ => False) rfl rfl ?aP (fun _ hk => hk.elim) ?aF ?aO ?aB ?aS ?aL ?_; (case aP => exact rfl); (case aB => exact zo1); (case aF => exact (fun k_ hk => Kd.fresh' (Kd.R_lt zo10) k_ hk)); (case aO => exact zo8); (case aS => exact (below_size zo1)); (case aL => have := LMc52.out; omega); intro v351 w53 ho hb hg hat; rw [← Ny350.out] at ho; have n0_ := Aside0.mk (Kd.R_after (ok := (fun _ => True)) (by (with_reducible repeat (first | apply Kd.R_alloc | apply Kd.R_drewN | apply Kd.R_drew)); exact Kd.R_mono HO_34.out (fun _ hk => ⟨trivial, hk⟩)) hg hat); have n1_ := Aside0.mk (blk_grown (g := gb339) (o := .cells #[.int .i64 a0_0, .int .i64 a0_1, .slice A0_2 l0_2.length c0_2] 30 (0, 0)) zo2 hg (Kd.R_ne HO_8.out BK339.out (by decide))); have n2_ := Aside0.mk (blk_grown (g := gb340) (o := .cells #[.int .i64 a1_0, .int .i64 a1_1] 32 (0, 0)) zo3 hg (Kd.R_ne HO_8.out BK340.out (by decide))); have n3_ := Aside0.mk (hb); have n4_ := Aside0.mk (ho); clear HO_34; clear BK339; clear BK340; clear HB; clear HO_8; have HO_34 := n0_; have BK339 := n1_; have BK340 := n2_; have HB := n3_; have HO352 := n4_; clear n0_ n1_ n2_ n3_ n4_; clear ho hb hg hat))
        go_roundg k3
        case measure => have := HJ3.out; have := HK2.out; have := HK3.out; omega
        case rel => exact ⟨(y350), H', ⟨zo18⟩, ⟨by (with_reducible repeat (first | apply Kd.R_alloc | apply Kd.R_drewN | apply Kd.R_drew)); exact Kd.R_mono HO352.out (fun _ hk => trivial)⟩, ⟨zo2⟩, ⟨zo3⟩, ⟨zo1⟩⟩
       rw [if_pos c31] at H
       have c31b0 : decide (x36_3 < (t347.length : Int)) = true := decide_eq_true c31
       clear c31
       by_cases c32 : 0 ≤ x36_3
       rotate_left
       ·rw [if_neg c32] at H
        exact absurd H (by simp)
       rw [if_pos c32] at H
       have c32b0 : decide (0 ≤ x36_3) = true := decide_eq_true c32
       clear c32
       by_cases c33 : x36_3 < (t347.length : Int)
       rotate_left
       ·rw [if_neg c33] at H
        exact absurd H (by simp)
       rw [if_pos c33] at H
       have c33b0 : decide (x36_3 < (t347.length : Int)) = true := decide_eq_true c33
       clear c33
       replace H := Option.bind_eq_some_iff.mp H
       obtain ⟨t354, A340, H⟩ := H
       replace H : (if t354 = true then (spec_FewestOnward.l1 k3 x8_2 x9_3 x10_3 t347 (t347.length : Int) (wrap64 (x36_3 + 1)) a0_0 a0_1 l0_2 a1_0 a1_1) else ((spec_toOnward.f k3 a0_0 a0_1 l0_2 a1_0 a1_1 (rd t347 x36_3) x8_2).bind fun t355 => (if x9_3 < 0 then (spec_FewestOnward.l1 k3 x8_2 (rd t347 x36_3) t355 t347 (t347.length : Int) (wrap64 (x36_3 + 1)) a0_0 a0_1 l0_2 a1_0 a1_1) else (if t355 < x10_3 then (spec_FewestOnward.l1 k3 x8_2 (rd t347 x36_3) t355 t347 (t347.length : Int) (wrap64 (x36_3 + 1)) a0_0 a0_1 l0_2 a1_0 a1_1) else (spec_FewestOnward.l1 k3 x8_2 x9_3 x10_3 t347 (t347.length : Int) (wrap64 (x36_3 + 1)) a0_0 a0_1 l0_2 a1_0 a1_1))))) = some (r1, r2) := H
       have A34 := Aside0.mk A340
       clear A340
       by_cases c35 : t354 = true
       ·subst c35
        have H1 : (spec_FewestOnward.l1 k3 x8_2 x9_3 x10_3 t347 (t347.length : Int) (wrap64 (x36_3 + 1)) a0_0 a0_1 l0_2 a1_0 a1_1) = some (r1, r2) := by rw [if_pos rfl] at H; exact H
        clear H
        have H := H1
        clear H1
        have H' := Aside0.mk H
        clear H
        have p353 : 0 ≤ (x36_3 : Int) := of_decide_eq_true zo14
        have q353 : x36_3 < (t347.length : Int) := of_decide_eq_true zo14
        obtain ⟨ad353, e353, hx353_0⟩ := Kd.at_int (Kd.R_reads' HO_34.out).2.2 x36_3 p353 q353
        cases e353
        replace p353 := eq_true p353
        replace q353 := eq_true q353
        go_wp2_with (first | ((with_reducible refine gate_callee (f := 56) rfl ?_); refine goesL_ (some 42) rfl rfl Try.func56 (by kernel_rfl) rfl #[.slice (some ad346) x8_2.length co28, .int .i64 (rd t347 x36_3)] rfl zo4 ?_; (with_reducible refine (spec_l1Has.calls k3 _ _ x8_2 (rd t347 x36_3) true _ ?side1 ?side2 A34.out).mono ?_); (case side1 => exact zo5); (case side2 => exact (Kd.R_reads' HO_8.out).2.1); rintro e w' ⟨rfl, ⟨nd, rfl⟩⟩; refine ⟨_, rfl, ?_⟩))
        go_roundg k3
        case measure => have := HJ3.out; have := HK2.out; have := HK3.out; omega
        case rel => exact ⟨(x9_3), (x10_3), (wrap64 (x36_3 + 1)), zo7, zo7, zo7, H', ⟨zo18⟩, ⟨zo8⟩, ⟨zo10⟩, ⟨zo2⟩, ⟨zo3⟩, ⟨zo1⟩⟩
       replace c35 := Bool.eq_false_iff.mpr c35
       subst c35
       have H1 : ((spec_toOnward.f k3 a0_0 a0_1 l0_2 a1_0 a1_1 (rd t347 x36_3) x8_2).bind fun t355 => (if x9_3 < 0 then (spec_FewestOnward.l1 k3 x8_2 (rd t347 x36_3) t355 t347 (t347.length : Int) (wrap64 (x36_3 + 1)) a0_0 a0_1 l0_2 a1_0 a1_1) else (if t355 < x10_3 then (spec_FewestOnward.l1 k3 x8_2 (rd t347 x36_3) t355 t347 (t347.length : Int) (wrap64 (x36_3 + 1)) a0_0 a0_1 l0_2 a1_0 a1_1) else (spec_FewestOnward.l1 k3 x8_2 x9_3 x10_3 t347 (t347.length : Int) (wrap64 (x36_3 + 1)) a0_0 a0_1 l0_2 a1_0 a1_1)))) = some (r1, r2) := by rw [if_neg (show ¬ (false = true) by decide)] at H; exact H
       clear H
       have H := H1
       clear H1
       replace H := Option.bind_eq_some_iff.mp H
       obtain ⟨t355, A360, H⟩ := H
       replace H : (if x9_3 < 0 then (spec_FewestOnward.l1 k3 x8_2 (rd t347 x36_3) t355 t347 (t347.length : Int) (wrap64 (x36_3 + 1)) a0_0 a0_1 l0_2 a1_0 a1_1) else (if t355 < x10_3 then (spec_FewestOnward.l1 k3 x8_2 (rd t347 x36_3) t355 t347 (t347.length : Int) (wrap64 (x36_3 + 1)) a0_0 a0_1 l0_2 a1_0 a1_1) else (spec_FewestOnward.l1 k3 x8_2 x9_3 x10_3 t347 (t347.length : Int) (wrap64 (x36_3 + 1)) a0_0 a0_1 l0_2 a1_0 a1_1))) = some (r1, r2) := H
       have A36 := Aside0.mk A360
       clear A360
       by_cases c37 : x9_3 < 0
       ·rw [if_pos c37] at H
        have c37b0 : decide (x9_3 < 0) = true := decide_eq_true c37
        clear c37
        have H' := Aside0.mk H
        clear H
        have p353 : 0 ≤ (x36_3 : Int) := of_decide_eq_true zo14
        have q353 : x36_3 < (t347.length : Int) := of_decide_eq_true zo14
        obtain ⟨ad353, e353, hx353_0⟩ := Kd.at_int (Kd.R_reads' HO_34.out).2.2 x36_3 p353 q353
        cases e353
        replace p353 := eq_true p353
        replace q353 := eq_true q353
        go_wp2_with (first | ((with_reducible refine gate_callee (f := 56) rfl ?_); refine goesL_ (some 42) rfl rfl Try.func56 (by kernel_rfl) rfl #[.slice (some ad346) x8_2.length co28, .int .i64 (rd t347 x36_3)] rfl zo4 ?_; (with_reducible refine (spec_l1Has.calls k3 _ _ x8_2 (rd t347 x36_3) false _ ?side1 ?side2 A34.out).mono ?_); (case side1 => exact zo5); (case side2 => exact (Kd.R_reads' HO_8.out).2.1); rintro e w' ⟨rfl, ⟨nd, rfl⟩⟩; refine ⟨_, rfl, ?_⟩; have hnb38 := NB339_340.out; have hnc38 := NB340_339.out; have hcz39_0 : wr.cell? ⟨gb339, 0, none⟩ = some (.int .i64 a0_0) := (blk_cell BK339.out 0).trans rfl; have hcz39_1 : wr.cell? ⟨gb339, 1, none⟩ = some (.int .i64 a0_1) := (blk_cell BK339.out 1).trans rfl; have hcz39_2 : wr.cell? ⟨gb339, 2, none⟩ = some (.slice A0_2 l0_2.length c0_2) := (blk_cell BK339.out 2).trans rfl; have hfz39_0 := blk_frozen BK339.out 0; have hfz39_1 := blk_frozen BK339.out 1; have hfz39_2 := blk_frozen BK339.out 2; have hcz40_0 : wr.cell? ⟨gb340, 0, none⟩ = some (.int .i64 a1_0) := (blk_cell BK340.out 0).trans rfl; have hcz40_1 : wr.cell? ⟨gb340, 1, none⟩ = some (.int .i64 a1_1) := (blk_cell BK340.out 1).trans rfl; have hfz40_0 := blk_frozen BK340.out 0; have hfz40_1 := blk_frozen BK340.out 1) | ((with_reducible refine gate_callee (f := 57) rfl ?_); refine goesL_ (some 47) rfl rfl Try.func57 (by kernel_rfl) rfl #[.agg #[.int .i64 a0_0, .int .i64 a0_1, .slice A0_2 l0_2.length c0_2], .agg #[.int .i64 a1_0, .int .i64 a1_1], .int .i64 (rd t347 x36_3), .slice (some ad346) x8_2.length co28] rfl zo4 ?_; (with_reducible refine (spec_toOnward.calls k3 a0_0 a0_1 _ _ l0_2 a1_0 a1_1 (rd t347 x36_3) _ _ x8_2 t355 _ ?side1 ?side2 ?side3 ?side4 A36.out).mono ?_); (case side1 => exact zo20); (case side2 => exact HC0_2.out); (case side3 => exact zo5); (case side4 => exact (Kd.R_reads' HO_8.out).2.1); rintro e w41 ⟨rfl, hb⟩; refine ⟨_, rfl, ?_⟩; have n0_ := Aside0.mk (Kd.R_below zo8 hb); have n1_ := Aside0.mk (Kd.R_below zo10 hb); have n2_ := Aside0.mk (blk_below (g := gb339) (o := .cells #[.int .i64 a0_0, .int .i64 a0_1, .slice A0_2 l0_2.length c0_2] 30 (0, 0)) zo2 hb); have n3_ := Aside0.mk (blk_below (g := gb340) (o := .cells #[.int .i64 a1_0, .int .i64 a1_1] 32 (0, 0)) zo3 hb); have n4_ := Aside0.mk (below_step zo1 hb); clear HO_8; clear HO_34; clear BK339; clear BK340; clear HB; have HO_8 := n0_; have HO_34 := n1_; have BK339 := n2_; have BK340 := n3_; have HB := n4_; clear n0_ n1_ n2_ n3_ n4_; (try clear hb); (try clear hb2); (try clear hk); (try clear hi); (try clear hna_); (try clear hnb_)))
        go_roundg k3
        case measure => have := HJ3.out; have := HK2.out; have := HK3.out; omega
        case rel => exact ⟨(rd t347 x36_3), (t355), (wrap64 (x36_3 + 1)), zo7, zo7, zo7, H', ⟨zo18⟩, ⟨zo8⟩, ⟨zo10⟩, ⟨zo2⟩, ⟨zo3⟩, ⟨zo1⟩⟩
       rw [if_neg c37] at H
       have c37b0 : decide (x9_3 < 0) = false := decide_eq_false c37
       clear c37
       by_cases c42 : t355 < x10_3
       ·rw [if_pos c42] at H
        have c42b0 : decide (t355 < x10_3) = true := decide_eq_true c42
        clear c42
        have H' := Aside0.mk H
        clear H
        have p353 : 0 ≤ (x36_3 : Int) := of_decide_eq_true zo14
        have q353 : x36_3 < (t347.length : Int) := of_decide_eq_true zo14
        obtain ⟨ad353, e353, hx353_0⟩ := Kd.at_int (Kd.R_reads' HO_34.out).2.2 x36_3 p353 q353
        cases e353
        replace p353 := eq_true p353
        replace q353 := eq_true q353
        go_wp2_with (first | ((with_reducible refine gate_callee (f := 56) rfl ?_); refine goesL_ (some 42) rfl rfl Try.func56 (by kernel_rfl) rfl #[.slice (some ad346) x8_2.length co28, .int .i64 (rd t347 x36_3)] rfl zo4 ?_; (with_reducible refine (spec_l1Has.calls k3 _ _ x8_2 (rd t347 x36_3) false _ ?side1 ?side2 A34.out).mono ?_); (case side1 => exact zo5); (case side2 => exact (Kd.R_reads' HO_8.out).2.1); rintro e w' ⟨rfl, ⟨nd, rfl⟩⟩; refine ⟨_, rfl, ?_⟩; have hnb43 := NB339_340.out; have hnc43 := NB340_339.out; have hcz44_0 : wr.cell? ⟨gb339, 0, none⟩ = some (.int .i64 a0_0) := (blk_cell BK339.out 0).trans rfl; have hcz44_1 : wr.cell? ⟨gb339, 1, none⟩ = some (.int .i64 a0_1) := (blk_cell BK339.out 1).trans rfl; have hcz44_2 : wr.cell? ⟨gb339, 2, none⟩ = some (.slice A0_2 l0_2.length c0_2) := (blk_cell BK339.out 2).trans rfl; have hfz44_0 := blk_frozen BK339.out 0; have hfz44_1 := blk_frozen BK339.out 1; have hfz44_2 := blk_frozen BK339.out 2; have hcz45_0 : wr.cell? ⟨gb340, 0, none⟩ = some (.int .i64 a1_0) := (blk_cell BK340.out 0).trans rfl; have hcz45_1 : wr.cell? ⟨gb340, 1, none⟩ = some (.int .i64 a1_1) := (blk_cell BK340.out 1).trans rfl; have hfz45_0 := blk_frozen BK340.out 0; have hfz45_1 := blk_frozen BK340.out 1) | ((with_reducible refine gate_callee (f := 57) rfl ?_); refine goesL_ (some 47) rfl rfl Try.func57 (by kernel_rfl) rfl #[.agg #[.int .i64 a0_0, .int .i64 a0_1, .slice A0_2 l0_2.length c0_2], .agg #[.int .i64 a1_0, .int .i64 a1_1], .int .i64 (rd t347 x36_3), .slice (some ad346) x8_2.length co28] rfl zo4 ?_; (with_reducible refine (spec_toOnward.calls k3 a0_0 a0_1 _ _ l0_2 a1_0 a1_1 (rd t347 x36_3) _ _ x8_2 t355 _ ?side1 ?side2 ?side3 ?side4 A36.out).mono ?_); (case side1 => exact zo20); (case side2 => exact HC0_2.out); (case side3 => exact zo5); (case side4 => exact (Kd.R_reads' HO_8.out).2.1); rintro e w46 ⟨rfl, hb⟩; refine ⟨_, rfl, ?_⟩; have n0_ := Aside0.mk (Kd.R_below zo8 hb); have n1_ := Aside0.mk (Kd.R_below zo10 hb); have n2_ := Aside0.mk (blk_below (g := gb339) (o := .cells #[.int .i64 a0_0, .int .i64 a0_1, .slice A0_2 l0_2.length c0_2] 30 (0, 0)) zo2 hb); have n3_ := Aside0.mk (blk_below (g := gb340) (o := .cells #[.int .i64 a1_0, .int .i64 a1_1] 32 (0, 0)) zo3 hb); have n4_ := Aside0.mk (below_step zo1 hb); clear HO_8; clear HO_34; clear BK339; clear BK340; clear HB; have HO_8 := n0_; have HO_34 := n1_; have BK339 := n2_; have BK340 := n3_; have HB := n4_; clear n0_ n1_ n2_ n3_ n4_; (try clear hb); (try clear hb2); (try clear hk); (try clear hi); (try clear hna_); (try clear hnb_)))
        go_roundg k3
        case measure => have := HJ3.out; have := HK2.out; have := HK3.out; omega
        case rel => exact ⟨(rd t347 x36_3), (t355), (wrap64 (x36_3 + 1)), zo7, zo7, zo7, H', ⟨zo18⟩, ⟨zo8⟩, ⟨zo10⟩, ⟨zo2⟩, ⟨zo3⟩, ⟨zo1⟩⟩
       rw [if_neg c42] at H
       have c42b0 : decide (t355 < x10_3) = false := decide_eq_false c42
       clear c42
       have H' := Aside0.mk H
       clear H
       have p353 : 0 ≤ (x36_3 : Int) := of_decide_eq_true zo14
       have q353 : x36_3 < (t347.length : Int) := of_decide_eq_true zo14
       obtain ⟨ad353, e353, hx353_0⟩ := Kd.at_int (Kd.R_reads' HO_34.out).2.2 x36_3 p353 q353
       cases e353
       replace p353 := eq_true p353
       replace q353 := eq_true q353
       go_wp2_with (first | ((with_reducible refine gate_callee (f := 56) rfl ?_); refine goesL_ (some 42) rfl rfl Try.func56 (by kernel_rfl) rfl #[.slice (some ad346) x8_2.length co28, .int .i64 (rd t347 x36_3)] rfl zo4 ?_; (with_reducible refine (spec_l1Has.calls k3 _ _ x8_2 (rd t347 x36_3) false _ ?side1 ?side2 A34.out).mono ?_); (case side1 => exact zo5); (case side2 => exact (Kd.R_reads' HO_8.out).2.1); rintro e w' ⟨rfl, ⟨nd, rfl⟩⟩; refine ⟨_, rfl, ?_⟩; have hnb47 := NB339_340.out; have hnc47 := NB340_339.out; have hcz48_0 : wr.cell? ⟨gb339, 0, none⟩ = some (.int .i64 a0_0) := (blk_cell BK339.out 0).trans rfl; have hcz48_1 : wr.cell? ⟨gb339, 1, none⟩ = some (.int .i64 a0_1) := (blk_cell BK339.out 1).trans rfl; have hcz48_2 : wr.cell? ⟨gb339, 2, none⟩ = some (.slice A0_2 l0_2.length c0_2) := (blk_cell BK339.out 2).trans rfl; have hfz48_0 := blk_frozen BK339.out 0; have hfz48_1 := blk_frozen BK339.out 1; have hfz48_2 := blk_frozen BK339.out 2; have hcz49_0 : wr.cell? ⟨gb340, 0, none⟩ = some (.int .i64 a1_0) := (blk_cell BK340.out 0).trans rfl; have hcz49_1 : wr.cell? ⟨gb340, 1, none⟩ = some (.int .i64 a1_1) := (blk_cell BK340.out 1).trans rfl; have hfz49_0 := blk_frozen BK340.out 0; have hfz49_1 := blk_frozen BK340.out 1) | ((with_reducible refine gate_callee (f := 57) rfl ?_); refine goesL_ (some 47) rfl rfl Try.func57 (by kernel_rfl) rfl #[.agg #[.int .i64 a0_0, .int .i64 a0_1, .slice A0_2 l0_2.length c0_2], .agg #[.int .i64 a1_0, .int .i64 a1_1], .int .i64 (rd t347 x36_3), .slice (some ad346) x8_2.length co28] rfl zo4 ?_; (with_reducible refine (spec_toOnward.calls k3 a0_0 a0_1 _ _ l0_2 a1_0 a1_1 (rd t347 x36_3) _ _ x8_2 t355 _ ?side1 ?side2 ?side3 ?side4 A36.out).mono ?_); (case side1 => exact zo20); (case side2 => exact HC0_2.out); (case side3 => exact zo5); (case side4 => exact (Kd.R_reads' HO_8.out).2.1); rintro e w50 ⟨rfl, hb⟩; refine ⟨_, rfl, ?_⟩; have n0_ := Aside0.mk (Kd.R_below zo8 hb); have n1_ := Aside0.mk (Kd.R_below zo10 hb); have n2_ := Aside0.mk (blk_below (g := gb339) (o := .cells #[.int .i64 a0_0, .int .i64 a0_1, .slice A0_2 l0_2.length c0_2] 30 (0, 0)) zo2 hb); have n3_ := Aside0.mk (blk_below (g := gb340) (o := .cells #[.int .i64 a1_0, .int .i64 a1_1] 32 (0, 0)) zo3 hb); have n4_ := Aside0.mk (below_step zo1 hb); clear HO_8; clear HO_34; clear BK339; clear BK340; clear HB; have HO_8 := n0_; have HO_34 := n1_; have BK339 := n2_; have BK340 := n3_; have HB := n4_; clear n0_ n1_ n2_ n3_ n4_; (try clear hb); (try clear hb2); (try clear hk); (try clear hi); (try clear hna_); (try clear hnb_)))
       go_roundg k3
       case measure => have := HJ3.out; have := HK2.out; have := HK3.out; omega
       case rel => exact ⟨(x9_3), (x10_3), (wrap64 (x36_3 + 1)), zo7, zo7, zo7, H', ⟨zo18⟩, ⟨zo8⟩, ⟨zo10⟩, ⟨zo2⟩, ⟨zo3⟩, ⟨zo1⟩⟩

end Go.Proofs.Ytjeongckkfkehaa.Q

/- Written by a program of this session: functions of the translation as plain Lean functions, each with a proof that the call does what the plain function says; the conditions stand in each theorem. -/
import Derived.Test.YtekajjhjjnfdpaaQ0
import Derived.Test.YtekajjhjjnfdpaaQ5
import Derived.Test.YtekajjhjjnfdpaaQ38
import Derived.Test.YtekajjhjjnfdpaaQ39
namespace Go.Proofs.Ytekajjhjjnfdpaa.Q
open Go.RowKit Go.Proofs.YtekajjhjjnfdpaaW.PrintWords Go.Proofs.YtekajjhjjnfdpaaW.PrintLast Go.Proofs.YtekajjhjjnfdpaaW.PrintMore
attribute [local go_sem] max2_int min2_int max_two min_two max_three min_three max_four min_four   -- for this text's walks alone
set_option linter.unusedVariables false
set_option linter.unusedSimpArgs false

/-! ### spec_arLeaps: function 109 -/
def spec_arLeaps.l0 : Nat → Int → List Int → List (List Int) → Int → Int → Int → Int → Bool → Bool → Option (List Int)
 | 0, _, _, _, _, _, _, _, _, _ => none
 | k + 1, x2, x7, x12, x13, x14, x1033000, x1033001, x1033002, x1033003 => if x14 < x13 then (if 0 ≤ x14 then (if x14 < (x12.length : Int) then (if 0 < ((rd_L1 x12 x14).length : Int) then (if 1 < ((rd_L1 x12 x14).length : Int) then ((spec_arStep.f k x1033000 x1033001 x1033002 x1033003 x2 (rd (rd_L1 x12 x14) 0) (rd (rd_L1 x12 x14) 1)).bind fun t1040 => (if t1040 ≥ 0 then (if t1040 = x2 then (spec_arLeaps.l0 k x2 x7 x12 x13 (wrap64 (x14 + 1)) x1033000 x1033001 x1033002 x1033003) else ((spec_l1Has.f k x7 t1040).bind fun t1041 => (if t1041 = true then (spec_arLeaps.l0 k x2 x7 x12 x13 (wrap64 (x14 + 1)) x1033000 x1033001 x1033002 x1033003) else ((spec_l1Put.f k x7 t1040).bind fun t1042 => (spec_arLeaps.l0 k x2 t1042 x12 x13 (wrap64 (x14 + 1)) x1033000 x1033001 x1033002 x1033003))))) else (spec_arLeaps.l0 k x2 x7 x12 x13 (wrap64 (x14 + 1)) x1033000 x1033001 x1033002 x1033003))) else (none)) else (none)) else (none)) else (none)) else (some x7)
def spec_arLeaps.f (k : Nat) (a0_0 : Int) (a0_1 : Int) (a0_2 : Bool) (a0_3 : Bool) (a1_0 : Int) (a1_1 : Int) (a2 : Int) : Option (List Int) := (spec_boSteps.f k a1_0 a1_1).bind fun t1034 => (spec_arLeaps.l0 k a2 ([] : List Int) t1034 (t1034.length : Int) 0 a0_0 a0_1 a0_2 a0_3)
def spec_arLeaps.T5 : Bool × List (List Nat × List Nat) := (true, [([], []), ([], []), ([], []), ([2], [2]), ([3], [3]), ([], []), ([5], [5]), ([6], [6]), ([0, 1, 4, 7], [0, 1, 4, 7]), ([8, 8, 0, 1, 2, 3, 4, 5, 6, 7, 8], [8])])
def spec_arLeaps.B5 : List Nat := [0, 0, 0, 4, 12, 0, 32, 96, 255, 511]
theorem spec_arLeaps.tab5 : rtab .any (opsOf Try.f109 5) = spec_arLeaps.T5 := by kernel_rfl
theorem spec_arLeaps.bits5 : waitsOk spec_arLeaps.T5.2 spec_arLeaps.B5 = true := by kernel_rfl
set_option maxHeartbeats 8000000 in
set_option maxRecDepth 100000 in
theorem spec_arLeaps.calls (k : Nat) (a0_0 : Int) (a0_1 : Int) (a0_2 : Bool) (a0_3 : Bool) (a1_0 : Int) (a1_1 : Int) (a2 : Int) (r : List Int) (w : World) (h : spec_arLeaps.f k a0_0 a0_1 a0_2 a0_3 a1_0 a1_1 a2 = some r) :
  Calls Try.prog 109 #[.agg #[.int .i64 a0_0, .int .i64 a0_1, .bool a0_2, .bool a0_3], .agg #[.int .i64 a1_0, .int .i64 a1_1], .int .i64 a2] w fun e w' => ∃ v0_ : Value, e = .returned (v0_) ∧ Kd.R (Kd.int .i64) 3 w' w.heap.size (fun _ => True) v0_ r ∧ Below w.heap.size w w' := by
 have hu51 := Try.underlying51
 have hu32 := Try.underlying32
 have HB := Aside0.mk (Below.refl w.heap.size w)
 have H : ((spec_boSteps.f k a1_0 a1_1).bind fun t1034 => (spec_arLeaps.l0 k a2 ([] : List Int) t1034 (t1034.length : Int) 0 a0_0 a0_1 a0_2 a0_3)) = some r := h
 clear h
 replace H := Option.bind_eq_some_iff.mp H
 obtain ⟨t1034, A40, H⟩ := H
 replace H : (spec_arLeaps.l0 k a2 ([] : List Int) t1034 (t1034.length : Int) 0 a0_0 a0_1 a0_2 a0_3) = some r := H
 have A4 := Aside0.mk A40
 clear A40
 have H' := Aside0.mk H
 clear H
 go_enter Try.func109, Try.ntmps109
 go_wp2_with (first | ((with_reducible refine gate_dst (N := 3) rfl ?_); refine box_event ?hg (N := 3) ?hd (cs := #[.int .i64 a0_0, .int .i64 a0_1, .bool a0_2, .bool a0_3]) (t := 51) ?hr ?_; (case hd => rfl); (case hg => rfl); (case hr => first | (go_simp; done) | (go_simp; rfl)); intro gb1032 hg w5 hbox hb; have n0_ := Aside0.mk (below_step (by repeat (first | (with_reducible first | exact HB.out | apply below_alloc | apply pw_below_drewN | apply below_drew1) | exact HB.out)) hb); have n1_ := Aside0.mk (hbox); have n2_ := Aside0.mk ((by rw [hg]; exact (below_size (by repeat (first | (with_reducible first | exact HB.out | apply below_alloc | apply pw_below_drewN | apply below_drew1) | exact HB.out))) : w.heap.size ≤ gb1032)); have n3_ := Aside0.mk ((by rw [hg]; exact (below_size (by repeat (first | (with_reducible first | exact HB.out | apply below_alloc | apply pw_below_drewN | apply below_drew1) | exact HB.out))) : w.heap.size ≤ gb1032)); clear HB; have HB := n0_; have BK1032 := n1_; have GW1032 := n2_; have GE1032 := n3_; clear n0_ n1_ n2_ n3_; clear hb hbox hg) | ((with_reducible refine gate_dst (N := 4) rfl ?_); refine box_event ?hg (N := 4) ?hd (cs := #[.int .i64 a1_0, .int .i64 a1_1]) (t := 32) ?hr ?_; (case hd => rfl); (case hg => rfl); (case hr => first | (go_simp; done) | (go_simp; rfl)); intro gb1033 hg w6 hbox hb; have n0_ := Aside0.mk (blk_below (g := gb1032) (o := .cells #[.int .i64 a0_0, .int .i64 a0_1, .bool a0_2, .bool a0_3] 51 (0, 0)) (by (with_reducible repeat (first | refine blk_drewN ?_ _ | refine blk_drew ?_ | refine blk_alloc ?_ _)); exact BK1032.out) hb); have n1_ := Aside0.mk (below_step (by repeat (first | (with_reducible first | exact HB.out | apply below_alloc | apply pw_below_drewN | apply below_drew1 | refine below_set ?_ GE1032.out) | exact HB.out)) hb); have n2_ := Aside0.mk (hbox); have n3_ := Aside0.mk ((by rw [hg]; exact (below_size (by repeat (first | (with_reducible first | exact HB.out | apply below_alloc | apply pw_below_drewN | apply below_drew1 | refine below_set ?_ GE1032.out) | exact HB.out))) : w.heap.size ≤ gb1033)); have n4_ := Aside0.mk ((by rw [hg]; exact (below_size (by repeat (first | (with_reducible first | exact HB.out | apply below_alloc | apply pw_below_drewN | apply below_drew1 | refine below_set ?_ GE1032.out) | exact HB.out))) : w.heap.size ≤ gb1033)); have n5_ := Aside0.mk ((by rw [hg]; exact Nat.ne_of_lt (blk_lt (g := gb1032) (o := .cells #[.int .i64 a0_0, .int .i64 a0_1, .bool a0_2, .bool a0_3] 51 (0, 0)) (by (with_reducible repeat (first | refine blk_drewN ?_ _ | refine blk_drew ?_ | refine blk_alloc ?_ _)); exact BK1032.out)) : gb1032 ≠ gb1033)); have n6_ := Aside0.mk ((by rw [hg]; exact Nat.ne_of_gt (blk_lt (g := gb1032) (o := .cells #[.int .i64 a0_0, .int .i64 a0_1, .bool a0_2, .bool a0_3] 51 (0, 0)) (by (with_reducible repeat (first | refine blk_drewN ?_ _ | refine blk_drew ?_ | refine blk_alloc ?_ _)); exact BK1032.out)) : gb1033 ≠ gb1032)); clear BK1032; clear HB; have BK1032 := n0_; have HB := n1_; have BK1033 := n2_; have GW1033 := n3_; have GE1033 := n4_; have NB1032_1033 := n5_; have NB1033_1032 := n6_; clear n0_ n1_ n2_ n3_ n4_ n5_ n6_; clear hb hbox hg; have hnb7 := NB1033_1032.out; have hnc7 := NB1032_1033.out; have hcz8_0 : w6.cell? ⟨gb1033, 0, none⟩ = some (.int .i64 a1_0) := (blk_cell BK1033.out 0).trans rfl; have hcz8_1 : w6.cell? ⟨gb1033, 1, none⟩ = some (.int .i64 a1_1) := (blk_cell BK1033.out 1).trans rfl; have hfz8_0 := blk_frozen BK1033.out 0; have hfz8_1 := blk_frozen BK1033.out 1) | ((with_reducible refine gate_callee (f := 124) rfl ?_); refine goesL_ (some 12) rfl rfl Try.func124 (by kernel_rfl) rfl #[.agg #[.int .i64 a1_0, .int .i64 a1_1]] rfl (by (try simp only [List.map_toArray, List.map_cons, List.map_nil]); first | done | rfl | (simp only [List.length_drop, List.length_take]; rfl)) ?_; (with_reducible refine (spec_boSteps.calls k a1_0 a1_1 t1034 _ A4.out).mono ?_); rintro e w9 ⟨v1035, rfl, ho0, hb⟩; refine ⟨_, rfl, ?_⟩; have n0_ := Aside0.mk (Kd.S_lower ho0 (below_size (by repeat (first | (with_reducible first | exact HB.out | apply below_alloc | apply pw_below_drewN | apply below_drew1 | refine below_set ?_ GE1032.out | refine below_set ?_ GE1033.out) | exact HB.out)))); have n1_ := Aside0.mk (blk_below (g := gb1032) (o := .cells #[.int .i64 a0_0, .int .i64 a0_1, .bool a0_2, .bool a0_3] 51 (0, 0)) (by (with_reducible repeat (first | refine blk_drewN ?_ _ | refine blk_drew ?_ | refine blk_alloc ?_ _)); exact BK1032.out) hb); have n2_ := Aside0.mk (blk_below (g := gb1033) (o := .cells #[.int .i64 a1_0, .int .i64 a1_1] 32 (0, 0)) (by (with_reducible repeat (first | refine blk_drewN ?_ _ | refine blk_drew ?_ | refine blk_alloc ?_ _)); exact BK1033.out) hb); have n3_ := Aside0.mk (below_step (by repeat (first | (with_reducible first | exact HB.out | apply below_alloc | apply pw_below_drewN | apply below_drew1 | refine below_set ?_ GE1032.out | refine below_set ?_ GE1033.out) | exact HB.out)) hb); clear BK1032; clear BK1033; clear HB; have HO1036 := n0_; have BK1032 := n1_; have BK1033 := n2_; have HB := n3_; clear n0_ n1_ n2_ n3_; (try clear hb); (try clear hb2); (try clear hk); (try clear hi); (try clear ho0); (try clear hna_); (try clear hnb_); obtain ⟨Ao10, co10, eo10⟩ := Kd.S_slice HO1036.out; subst eo10))
 go_loopg [7, 14] k (fun kq v7 v14 w' => ∃ (x7_1 : List Int) (x14_1 : Int), v14 = .int .i64 x14_1 ∧ Aside0 (spec_arLeaps.l0 kq a2 x7_1 t1034 (t1034.length : Int) x14_1 a0_0 a0_1 a0_2 a0_3 = some r) ∧ Aside0 (kq ≤ k) ∧ Aside0 (Kd.R (Kd.int .i64) 3 w' w.heap.size (fun _ => True) v7 x7_1) ∧ Aside0 (Kd.S (Kd.slice 3 (Kd.int .i64)) 22 w' w.heap.size (fun k_ => some k_ ≠ (v7 : Value).ownBlock) (.slice Ao10 t1034.length co10) t1034) ∧ Aside0 (w'.heap[gb1032]? = some (.cells #[.int .i64 a0_0, .int .i64 a0_1, .bool a0_2, .bool a0_3] 51 (0, 0))) ∧ Aside0 (w'.heap[gb1033]? = some (.cells #[.int .i64 a1_0, .int .i64 a1_1] 32 (0, 0))) ∧ Aside0 (Below w.heap.size w w'))
 case atStart => exact ⟨(([] : List Int)), (0), (by first | rfl | (simp; done) | (simp [*]; done)), H', ⟨Nat.le_refl _⟩, ⟨by first | exact Kd.R_nil _ _ _ _ _ | exact Kd.N_nil _ _ _ _ _ | exact Kd.V_nil _ _ _ _ _ | exact Kd.Q_nil _ _ _ _ _ | exact Kd.S_nil _ _ _ _ _⟩, ⟨by (with_reducible repeat (first | apply Kd.S_alloc | apply Kd.S_drewN | apply Kd.S_drew)); exact Kd.S_mono HO1036.out (fun _ hk => (by simp [Value.ownBlock]))⟩, ⟨by (with_reducible repeat (first | refine blk_drewN ?_ _ | refine blk_drew ?_ | refine blk_alloc ?_ _)); exact BK1032.out⟩, ⟨by (with_reducible repeat (first | refine blk_drewN ?_ _ | refine blk_drew ?_ | refine blk_alloc ?_ _)); exact BK1033.out⟩, ⟨by repeat (first | (with_reducible first | exact HB.out | apply below_alloc | apply pw_below_drewN | apply below_drew1 | refine below_set ?_ GE1032.out | refine below_set ?_ GE1033.out) | exact HB.out)⟩⟩
 case round =>
  clear H'
  try clear c1; try clear p2; try clear c7; try clear c10; try clear hcz8_0; try clear hcz8_1; try clear hfz8_0; try clear hfz8_1
  obtain ⟨x7_1, x14_1, rfl, HA, HK1, HO_7, HO_12, BK1032, BK1033, HB⟩ := hrel
  cases gk with
  | zero => exact absurd HA.out (by simp [spec_arLeaps.l0])
  | succ k1 =>
   have H := HA.out
   clear HA
   simp only [spec_arLeaps.l0] at H
   by_cases c11 : x14_1 < (t1034.length : Int)
   ·rw [if_pos c11] at H
    have c11b0 : decide (x14_1 < (t1034.length : Int)) = true := decide_eq_true c11
    clear c11
    by_cases c12 : 0 ≤ x14_1
    ·rw [if_pos c12] at H
     have c12b0 : decide (0 ≤ x14_1) = true := decide_eq_true c12
     clear c12
     by_cases c13 : x14_1 < (t1034.length : Int)
     ·rw [if_pos c13] at H
      have c13b0 : decide (x14_1 < (t1034.length : Int)) = true := decide_eq_true c13
      clear c13
      by_cases c14 : 0 < ((rd_L1 t1034 x14_1).length : Int)
      ·rw [if_pos c14] at H
       have c14b0 : decide (0 < ((rd_L1 t1034 x14_1).length : Int)) = true := decide_eq_true c14
       have c14b1 : decide (0 < (rd_L1 t1034 x14_1).length) = true := decide_eq_true (by omega)
       clear c14
       by_cases c15 : 1 < ((rd_L1 t1034 x14_1).length : Int)
       ·rw [if_pos c15] at H
        have c15b0 : decide (1 < ((rd_L1 t1034 x14_1).length : Int)) = true := decide_eq_true c15
        have c15b1 : decide (1 < (rd_L1 t1034 x14_1).length) = true := decide_eq_true (by omega)
        clear c15
        replace H := Option.bind_eq_some_iff.mp H
        obtain ⟨t1040, A160, H⟩ := H
        replace H : (if t1040 ≥ 0 then (if t1040 = a2 then (spec_arLeaps.l0 k1 a2 x7_1 t1034 (t1034.length : Int) (wrap64 (x14_1 + 1)) a0_0 a0_1 a0_2 a0_3) else ((spec_l1Has.f k1 x7_1 t1040).bind fun t1041 => (if t1041 = true then (spec_arLeaps.l0 k1 a2 x7_1 t1034 (t1034.length : Int) (wrap64 (x14_1 + 1)) a0_0 a0_1 a0_2 a0_3) else ((spec_l1Put.f k1 x7_1 t1040).bind fun t1042 => (spec_arLeaps.l0 k1 a2 t1042 t1034 (t1034.length : Int) (wrap64 (x14_1 + 1)) a0_0 a0_1 a0_2 a0_3))))) else (spec_arLeaps.l0 k1 a2 x7_1 t1034 (t1034.length : Int) (wrap64 (x14_1 + 1)) a0_0 a0_1 a0_2 a0_3)) = some r := H
        have A16 := Aside0.mk A160
        clear A160
        by_cases c17 : t1040 ≥ 0
        ·rw [if_pos c17] at H
         have c17b0 : decide (0 ≤ t1040) = true := decide_eq_true c17
         clear c17
         by_cases c18 : t1040 = a2
         ·rw [if_pos c18] at H
          have c18b0 : (t1040 == a2) = true := beq_iff_eq.mpr c18
          have c18b1 : (t1040 != a2) = false := bne_eq_false_iff_eq.mpr c18
          clear c18
          have H' := Aside0.mk H
          clear H
          have p1037 : 0 ≤ (x14_1 : Int) := of_decide_eq_true (by first | (with_reducible assumption) | assumption)
          have q1037 : x14_1 < (t1034.length : Int) := of_decide_eq_true (by first | (with_reducible assumption) | assumption)
          obtain ⟨ad1037, A1037_0, c1037_0, e1037, hx1037_0, hl1037_0, hi1037_0⟩ := at_L1 (Kd.S_reads' HO_12.out).2.2 x14_1 p1037 q1037
          cases e1037
          obtain ⟨ce1037, hce1037, hMe1037, hcc1037⟩ := Kd.S_get HO_12.out [] x14_1 p1037 (by first | exact q1037 | exact of_decide_eq_true (by first | (with_reducible assumption) | assumption) | (have e_ := (Kd.S_reads' HO_12.out).1; omega))
          obtain ⟨ve1037_0, rfl, ge1037_0⟩ := hMe1037
          have hv1037_0 := hcc1037 0 _ rfl
          rw [Nat.add_zero, show ((Kd.slice 3 (Kd.int .i64))).sz = 1 from rfl, Nat.mul_one] at hv1037_0
          replace hv1037_0 := Option.some.inj (hv1037_0.symm.trans hx1037_0)
          rw [hv1037_0] at ge1037_0
          have HL1037_0 := Aside0.mk (show Kd.R (Kd.int .i64) 3 _ _ _ _ (rd_L1 t1034 x14_1) from ge1037_0)
          clear hv1037_0 ge1037_0
          clear hcc1037 hce1037
          have HR1037_0 := Aside0.mk hi1037_0
          have HC1037_0 := Aside0.mk hl1037_0
          clear hi1037_0 hl1037_0
          replace p1037 := eq_true p1037
          replace q1037 := eq_true q1037
          try go_wp2
          have n0_ := Aside0.mk (Kd.R_drew HO_7.out)
          have n1_ := Aside0.mk (Kd.S_drew HO_12.out)
          have n2_ := Aside0.mk (Kd.R_drew HL1037_0.out)
          have n3_ := Aside0.mk (blk_drew BK1032.out)
          have n4_ := Aside0.mk (blk_drew BK1033.out)
          have n5_ := Aside0.mk (Kd.C_drew HR1037_0.out)
          have n6_ := Aside0.mk (below_drew1 HB.out)
          clear HO_7
          clear HO_12
          clear HL1037_0
          clear BK1032
          clear BK1033
          clear HR1037_0
          clear HB
          have HO_7 := n0_
          have HO_12 := n1_
          have HL1037_0 := n2_
          have BK1032 := n3_
          have BK1033 := n4_
          have HR1037_0 := n5_
          have HB := n6_
          clear n0_ n1_ n2_ n3_ n4_ n5_ n6_
          have p1038 : 0 ≤ (0 : Int) := (by omega)
          have q1038 : 0 < ((rd_L1 t1034 x14_1).length : Int) := of_decide_eq_true (by first | (with_reducible assumption) | assumption)
          obtain ⟨ad1038, e1038, hx1038_0⟩ := Kd.at_int (by repeat (first | (with_reducible exact HR1037_0.out) | (with_reducible refine Kd.C_alloc ?_ _) | (with_reducible refine Kd.C_drewN ?_ _) | (with_reducible refine Kd.C_drew ?_) | exact HR1037_0.out)) 0 p1038 q1038
          cases e1038
          have qi1038 : (0 < (rd_L1 t1034 x14_1).length) = True := eq_true (by omega)
          (try rw [show ((0 : Int)).toNat = 0 from rfl] at hx1038_0)
          (try rw [Addr.add_zero'] at hx1038_0)
          replace p1038 := eq_true p1038
          replace q1038 := eq_true q1038
          have p1039 : 0 ≤ (1 : Int) := (by omega)
          have q1039 : 1 < ((rd_L1 t1034 x14_1).length : Int) := of_decide_eq_true (by first | (with_reducible assumption) | assumption)
          obtain ⟨ad1039, e1039, hx1039_0⟩ := Kd.at_int (by repeat (first | (with_reducible exact HR1037_0.out) | (with_reducible refine Kd.C_alloc ?_ _) | (with_reducible refine Kd.C_drewN ?_ _) | (with_reducible refine Kd.C_drew ?_) | exact HR1037_0.out)) 1 p1039 q1039
          obtain rfl : ad1038 = ad1039 := (by injection e1039)
          (try simp only [show (1 : Int).toNat = 1 from rfl, Nat.reduceMul, Nat.reduceEqDiff, Go.Addr.add, ↓reduceIte] at hx1039_0)
          have qi1039 : (1 < (rd_L1 t1034 x14_1).length) = True := eq_true (by omega)
          (try rw [show ((1 : Int)).toNat = 1 from rfl] at hx1039_0)
          replace p1039 := eq_true p1039
          replace q1039 := eq_true q1039
          refine start_ (n := 10) (S := fun w' => w'.cell? ⟨gb1032, 0, none⟩ = some (.int .i64 a0_0) ∧ w'.cell? ⟨gb1032, 1, none⟩ = some (.int .i64 a0_1) ∧ w'.cell? ⟨gb1032, 2, none⟩ = some (.bool a0_2) ∧ w'.cell? ⟨gb1032, 3, none⟩ = some (.bool a0_3) ∧ w'.cell? ad1038 = some (.int .i64 (rd (rd_L1 t1034 x14_1) 0)) ∧ w'.cell? ⟨ad1038.block, ad1038.off + 1, none⟩ = some (.int .i64 (rd (rd_L1 t1034 x14_1) 1))) (ds := []) #[false, false, false, false, false, false, false, false, false, false] (by kernel_rfl) rfl rfl ⟨(blk_cell BK1032.out 0).trans rfl, (blk_cell BK1032.out 1).trans rfl, (blk_cell BK1032.out 2).trans rfl, (blk_cell BK1032.out 3).trans rfl, hx1038_0, hx1039_0⟩ (fun hHeld => ?_); refine with_tabW spec_arLeaps.tab5 spec_arLeaps.bits5 (fun HT_ HW_ => ?_)
          generalize wr.drew = w19 at HO_7 HO_12 HL1037_0 BK1032 BK1033 HR1037_0 HB hx1038_0 hx1039_0 hHeld ⊢
          refine pure_ (i := 1) (N := some 19) (v := ?_) (a' := ?_) #[false, true, false, false, false, false, false, false, false, false] rfl rfl (any_of HT_.out (by kernel_rfl)) (fun _ _ _ h => h) (Or.inl ⟨by rfl, ?_⟩) ?_ ?_
          rotate_left
          ·intro w'
           go_simp
           with_reducible rfl
          rotate_left
          ·simp only [Act.put, List.setIfInBounds_toArray, List.set_cons_zero, List.set_cons_succ, i64_w, i32_w]
           rfl
          refine pure_ (i := 2) (N := some 20) (v := ?_) (a' := ?_) #[false, true, true, false, false, false, false, false, false, false] rfl rfl (any_of HT_.out (by kernel_rfl)) (fun _ _ _ h => h) (Or.inl ⟨by rfl, ?_⟩) ?_ ?_
          rotate_left
          ·intro w'
           go_simp
           with_reducible rfl
          rotate_left
          ·simp only [Act.put, List.setIfInBounds_toArray, List.set_cons_zero, List.set_cons_succ, i64_w, i32_w]
           rfl
          refine pure_ (i := 3) (N := some 21) (v := ?_) (a' := ?_) #[false, true, true, true, false, false, false, false, false, false] rfl rfl (any_of HT_.out (by kernel_rfl)) (fun _ _ _ h => h) (Or.inl ⟨by rfl, ?_⟩) ?_ ?_
          rotate_left
          ·intro w'
           go_simp
           with_reducible rfl
          rotate_left
          ·simp only [Act.put, List.setIfInBounds_toArray, List.set_cons_zero, List.set_cons_succ, i64_w, i32_w]
           rfl
          refine pure_ (i := 5) (N := some 23) (v := ?_) (a' := ?_) #[false, true, true, true, false, true, false, false, false, false] rfl rfl (any_of HT_.out (by kernel_rfl)) (fun _ _ _ h => h) (Or.inl ⟨by rfl, ?_⟩) ?_ ?_
          rotate_left
          ·intro w'
           go_simp
           with_reducible rfl
          rotate_left
          ·simp only [Act.put, List.setIfInBounds_toArray, List.set_cons_zero, List.set_cons_succ, i64_w, i32_w]
           rfl
          refine pure_ (i := 6) (N := some 24) (v := ?_) (a' := ?_) #[false, true, true, true, false, true, true, false, false, false] rfl rfl (any_of HT_.out (by kernel_rfl)) (fun _ _ _ h => h) (Or.inl ⟨by rfl, ?_⟩) ?_ ?_
          rotate_left
          ·intro w'
           go_simp
           with_reducible rfl
          rotate_left
          ·simp only [Act.put, List.setIfInBounds_toArray, List.set_cons_zero, List.set_cons_succ, i64_w, i32_w]
           rfl
          refine take_ (i := 0) (N := some 18) (v := ?_) (a' := ?_) #[true, true, true, true, false, true, true, false, false, false] rfl rfl (take_ofW HT_.out HW_.out (by kernel_rfl)) (fun _ _ _ h => h) (Or.inl ⟨by rfl, ?_⟩) hHeld ?_ ?_
          rotate_left
          ·rintro w' ⟨s0, s1, s2, s3, s4, s5⟩
           go_simp
           with_reducible rfl
          rotate_left
          ·simp only [Act.put, List.setIfInBounds_toArray, List.set_cons_zero, List.set_cons_succ, i64_w, i32_w]
           rfl
          refine take_ (i := 4) (N := some 22) (v := ?_) (a' := ?_) #[true, true, true, true, true, true, true, false, false, false] rfl rfl (take_ofW HT_.out HW_.out (by kernel_rfl)) (fun _ _ _ h => h) (Or.inl ⟨by rfl, ?_⟩) hHeld ?_ ?_
          rotate_left
          ·rintro w' ⟨s0, s1, s2, s3, s4, s5⟩
           go_simp
           with_reducible rfl
          rotate_left
          ·simp only [Act.put, List.setIfInBounds_toArray, List.set_cons_zero, List.set_cons_succ, i64_w, i32_w]
           rfl
          refine take_ (i := 7) (N := some 25) (v := ?_) (a' := ?_) #[true, true, true, true, true, true, true, true, false, false] rfl rfl (take_ofW HT_.out HW_.out (by kernel_rfl)) (fun _ _ _ h => h) (Or.inl ⟨by rfl, ?_⟩) hHeld ?_ ?_
          rotate_left
          ·rintro w' ⟨s0, s1, s2, s3, s4, s5⟩
           go_simp
           with_reducible rfl
          rotate_left
          ·simp only [Act.put, List.setIfInBounds_toArray, List.set_cons_zero, List.set_cons_succ, i64_w, i32_w]
           rfl
          refine one_ (i := 8) (N := some 26) #[true, true, true, true, true, true, true, true, true, false] rfl rfl (one_of HT_.out (by kernel_rfl)) (by decide) (fun K hK => ?_)
          refine goes_ Try.func125 (by kernel_rfl) rfl #[.agg #[.int .i64 a0_0, .int .i64 a0_1, .bool a0_2, .bool a0_3], .int .i64 a2, .int .i64 (rd (rd_L1 t1034 x14_1) 0), .int .i64 (rd (rd_L1 t1034 x14_1) 1)] (by rfl) rfl rfl (by (try simp only [List.map_toArray, List.map_cons, List.map_nil]); first | done | rfl | (simp only [List.length_drop, List.length_take]; rfl)) ?_
          with_reducible refine (spec_arStep.calls k1 a0_0 a0_1 a0_2 a0_3 a2 (rd (rd_L1 t1034 x14_1) 0) (rd (rd_L1 t1034 x14_1) 1) t1040 _ A16.out).mono ?_
          rintro e w20 ⟨rfl, hb⟩
          have HS4_ := (hb.cell (World.block_lt_of_cell? _ _ (hHeld.2.2.2.2.1))).trans (hHeld.2.2.2.2.1)
          have HS5_ := (hb.cell (World.block_lt_of_cell? _ _ (hHeld.2.2.2.2.2))).trans (hHeld.2.2.2.2.2)
          refine ⟨_, rfl, ?_⟩
          have n0_ := Aside0.mk (Kd.R_below (by (with_reducible repeat (first | apply Kd.R_alloc | apply Kd.R_drewN | apply Kd.R_drew)); exact HO_7.out) hb)
          have n1_ := Aside0.mk (Kd.S_below (by (with_reducible repeat (first | apply Kd.S_alloc | apply Kd.S_drewN | apply Kd.S_drew)); exact HO_12.out) hb)
          have n2_ := Aside0.mk (Kd.R_below (by (with_reducible repeat (first | apply Kd.R_alloc | apply Kd.R_drewN | apply Kd.R_drew)); exact HL1037_0.out) hb)
          have n3_ := Aside0.mk (blk_below (g := gb1032) (o := .cells #[.int .i64 a0_0, .int .i64 a0_1, .bool a0_2, .bool a0_3] 51 (0, 0)) (by (with_reducible repeat (first | refine blk_drewN ?_ _ | refine blk_drew ?_ | refine blk_alloc ?_ _)); exact BK1032.out) hb)
          have n4_ := Aside0.mk (blk_below (g := gb1033) (o := .cells #[.int .i64 a1_0, .int .i64 a1_1] 32 (0, 0)) (by (with_reducible repeat (first | refine blk_drewN ?_ _ | refine blk_drew ?_ | refine blk_alloc ?_ _)); exact BK1033.out) hb)
          have n5_ := Aside0.mk (Kd.C_below (by repeat (first | (with_reducible exact HR1037_0.out) | (with_reducible refine Kd.C_alloc ?_ _) | (with_reducible refine Kd.C_drewN ?_ _) | (with_reducible refine Kd.C_drew ?_) | exact HR1037_0.out)) hb)
          have n6_ := Aside0.mk (below_step (by repeat (first | (with_reducible first | exact HB.out | apply below_alloc | apply pw_below_drewN | apply below_drew1 | refine below_set ?_ GE1032.out | refine below_set ?_ GE1033.out) | exact HB.out)) hb)
          clear HO_7
          clear HO_12
          clear HL1037_0
          clear BK1032
          clear BK1033
          clear HR1037_0
          clear HB
          have HO_7 := n0_
          have HO_12 := n1_
          have HL1037_0 := n2_
          have BK1032 := n3_
          have BK1033 := n4_
          have HR1037_0 := n5_
          have HB := n6_
          clear n0_ n1_ n2_ n3_ n4_ n5_ n6_
          (try clear hb)
          (try clear hb2)
          (try clear hk)
          (try clear hi)
          (try clear hna_)
          (try clear hnb_)
          refine hK.out _ _ ⟨(blk_cell BK1032.out 0).trans rfl, (blk_cell BK1032.out 1).trans rfl, (blk_cell BK1032.out 2).trans rfl, (blk_cell BK1032.out 3).trans rfl, HS4_, HS5_⟩ (fun hHeld => ?_)
          clear hK K
          refine norm_ (a' := ?_) ?_ ?_
          rotate_left
          ·show Act.put _ (some 26) _ = _
           simp only [Act.put, List.setIfInBounds_toArray, List.set_cons_zero, List.set_cons_succ, i64_w, i32_w]
           rfl
          refine pure_ (i := 9) (N := some 10) (v := ?_) (a' := ?_) #[true, true, true, true, true, true, true, true, true, true] rfl rfl (any_of HT_.out (by kernel_rfl)) (fun _ _ _ h => h) (Or.inl ⟨by rfl, ?_⟩) ?_ ?_
          rotate_left
          ·intro w'
           go_simp
           with_reducible rfl
          rotate_left
          ·simp only [Act.put, List.setIfInBounds_toArray, List.set_cons_zero, List.set_cons_succ, i64_w, i32_w]
           rfl
          refine done_ (done_of HT_.out (by kernel_rfl)) ?_
          try go_wp2
          go_roundg k1
          case measure => have := HK1.out; omega
          case rel => exact ⟨(x7_1), (wrap64 (x14_1 + 1)), (by first | rfl | (simp; done) | (simp [*]; done)), H', ⟨by have := HK1.out; omega⟩, ⟨by (with_reducible repeat (first | apply Kd.R_alloc | apply Kd.R_drewN | apply Kd.R_drew)); exact HO_7.out⟩, ⟨by (with_reducible repeat (first | apply Kd.S_alloc | apply Kd.S_drewN | apply Kd.S_drew)); exact HO_12.out⟩, ⟨by (with_reducible repeat (first | refine blk_drewN ?_ _ | refine blk_drew ?_ | refine blk_alloc ?_ _)); exact BK1032.out⟩, ⟨by (with_reducible repeat (first | refine blk_drewN ?_ _ | refine blk_drew ?_ | refine blk_alloc ?_ _)); exact BK1033.out⟩, ⟨by repeat (first | (with_reducible first | exact HB.out | apply below_alloc | apply pw_below_drewN | apply below_drew1 | refine below_set ?_ GE1032.out | refine below_set ?_ GE1033.out) | exact HB.out)⟩⟩
         ·rw [if_neg c18] at H
          have c18b0 : (t1040 == a2) = false := beq_eq_false_iff_ne.mpr c18
          have c18b1 : (t1040 != a2) = true := bne_iff_ne.mpr c18
          replace H := Option.bind_eq_some_iff.mp H
          obtain ⟨t1041, A210, H⟩ := H
          replace H : (if t1041 = true then (spec_arLeaps.l0 k1 a2 x7_1 t1034 (t1034.length : Int) (wrap64 (x14_1 + 1)) a0_0 a0_1 a0_2 a0_3) else ((spec_l1Put.f k1 x7_1 t1040).bind fun t1042 => (spec_arLeaps.l0 k1 a2 t1042 t1034 (t1034.length : Int) (wrap64 (x14_1 + 1)) a0_0 a0_1 a0_2 a0_3))) = some r := H
          have A21 := Aside0.mk A210
          clear A210
          by_cases c22 : t1041 = true
          ·subst c22
           have H1 : (spec_arLeaps.l0 k1 a2 x7_1 t1034 (t1034.length : Int) (wrap64 (x14_1 + 1)) a0_0 a0_1 a0_2 a0_3) = some r := by rw [if_pos rfl] at H; exact H
           clear H
           have H := H1
           clear H1
           have H' := Aside0.mk H
           clear H
           have p1037 : 0 ≤ (x14_1 : Int) := of_decide_eq_true (by first | (with_reducible assumption) | assumption)
           have q1037 : x14_1 < (t1034.length : Int) := of_decide_eq_true (by first | (with_reducible assumption) | assumption)
           obtain ⟨ad1037, A1037_0, c1037_0, e1037, hx1037_0, hl1037_0, hi1037_0⟩ := at_L1 (Kd.S_reads' HO_12.out).2.2 x14_1 p1037 q1037
           cases e1037
           obtain ⟨ce1037, hce1037, hMe1037, hcc1037⟩ := Kd.S_get HO_12.out [] x14_1 p1037 (by first | exact q1037 | exact of_decide_eq_true (by first | (with_reducible assumption) | assumption) | (have e_ := (Kd.S_reads' HO_12.out).1; omega))
           obtain ⟨ve1037_0, rfl, ge1037_0⟩ := hMe1037
           have hv1037_0 := hcc1037 0 _ rfl
           rw [Nat.add_zero, show ((Kd.slice 3 (Kd.int .i64))).sz = 1 from rfl, Nat.mul_one] at hv1037_0
           replace hv1037_0 := Option.some.inj (hv1037_0.symm.trans hx1037_0)
           rw [hv1037_0] at ge1037_0
           have HL1037_0 := Aside0.mk (show Kd.R (Kd.int .i64) 3 _ _ _ _ (rd_L1 t1034 x14_1) from ge1037_0)
           clear hv1037_0 ge1037_0
           clear hcc1037 hce1037
           have HR1037_0 := Aside0.mk hi1037_0
           have HC1037_0 := Aside0.mk hl1037_0
           clear hi1037_0 hl1037_0
           replace p1037 := eq_true p1037
           replace q1037 := eq_true q1037
           try go_wp2
           have n0_ := Aside0.mk (Kd.R_drew HO_7.out)
           have n1_ := Aside0.mk (Kd.S_drew HO_12.out)
           have n2_ := Aside0.mk (Kd.R_drew HL1037_0.out)
           have n3_ := Aside0.mk (blk_drew BK1032.out)
           have n4_ := Aside0.mk (blk_drew BK1033.out)
           have n5_ := Aside0.mk (Kd.C_drew HR1037_0.out)
           have n6_ := Aside0.mk (below_drew1 HB.out)
           clear HO_7
           clear HO_12
           clear HL1037_0
           clear BK1032
           clear BK1033
           clear HR1037_0
           clear HB
           have HO_7 := n0_
           have HO_12 := n1_
           have HL1037_0 := n2_
           have BK1032 := n3_
           have BK1033 := n4_
           have HR1037_0 := n5_
           have HB := n6_
           clear n0_ n1_ n2_ n3_ n4_ n5_ n6_
           have p1038 : 0 ≤ (0 : Int) := (by omega)
           have q1038 : 0 < ((rd_L1 t1034 x14_1).length : Int) := of_decide_eq_true (by first | (with_reducible assumption) | assumption)
           obtain ⟨ad1038, e1038, hx1038_0⟩ := Kd.at_int (by repeat (first | (with_reducible exact HR1037_0.out) | (with_reducible refine Kd.C_alloc ?_ _) | (with_reducible refine Kd.C_drewN ?_ _) | (with_reducible refine Kd.C_drew ?_) | exact HR1037_0.out)) 0 p1038 q1038
           cases e1038
           have qi1038 : (0 < (rd_L1 t1034 x14_1).length) = True := eq_true (by omega)
           (try rw [show ((0 : Int)).toNat = 0 from rfl] at hx1038_0)
           (try rw [Addr.add_zero'] at hx1038_0)
           replace p1038 := eq_true p1038
           replace q1038 := eq_true q1038
           have p1039 : 0 ≤ (1 : Int) := (by omega)
           have q1039 : 1 < ((rd_L1 t1034 x14_1).length : Int) := of_decide_eq_true (by first | (with_reducible assumption) | assumption)
           obtain ⟨ad1039, e1039, hx1039_0⟩ := Kd.at_int (by repeat (first | (with_reducible exact HR1037_0.out) | (with_reducible refine Kd.C_alloc ?_ _) | (with_reducible refine Kd.C_drewN ?_ _) | (with_reducible refine Kd.C_drew ?_) | exact HR1037_0.out)) 1 p1039 q1039
           obtain rfl : ad1038 = ad1039 := (by injection e1039)
           (try simp only [show (1 : Int).toNat = 1 from rfl, Nat.reduceMul, Nat.reduceEqDiff, Go.Addr.add, ↓reduceIte] at hx1039_0)
           have qi1039 : (1 < (rd_L1 t1034 x14_1).length) = True := eq_true (by omega)
           (try rw [show ((1 : Int)).toNat = 1 from rfl] at hx1039_0)
           replace p1039 := eq_true p1039
           replace q1039 := eq_true q1039
           refine start_ (n := 10) (S := fun w' => w'.cell? ⟨gb1032, 0, none⟩ = some (.int .i64 a0_0) ∧ w'.cell? ⟨gb1032, 1, none⟩ = some (.int .i64 a0_1) ∧ w'.cell? ⟨gb1032, 2, none⟩ = some (.bool a0_2) ∧ w'.cell? ⟨gb1032, 3, none⟩ = some (.bool a0_3) ∧ w'.cell? ad1038 = some (.int .i64 (rd (rd_L1 t1034 x14_1) 0)) ∧ w'.cell? ⟨ad1038.block, ad1038.off + 1, none⟩ = some (.int .i64 (rd (rd_L1 t1034 x14_1) 1))) (ds := []) #[false, false, false, false, false, false, false, false, false, false] (by kernel_rfl) rfl rfl ⟨(blk_cell BK1032.out 0).trans rfl, (blk_cell BK1032.out 1).trans rfl, (blk_cell BK1032.out 2).trans rfl, (blk_cell BK1032.out 3).trans rfl, hx1038_0, hx1039_0⟩ (fun hHeld => ?_); refine with_tabW spec_arLeaps.tab5 spec_arLeaps.bits5 (fun HT_ HW_ => ?_)
           generalize wr.drew = w23 at HO_7 HO_12 HL1037_0 BK1032 BK1033 HR1037_0 HB hx1038_0 hx1039_0 hHeld ⊢
           refine pure_ (i := 1) (N := some 19) (v := ?_) (a' := ?_) #[false, true, false, false, false, false, false, false, false, false] rfl rfl (any_of HT_.out (by kernel_rfl)) (fun _ _ _ h => h) (Or.inl ⟨by rfl, ?_⟩) ?_ ?_
           rotate_left
           ·intro w'
            go_simp
            with_reducible rfl
           rotate_left
           ·simp only [Act.put, List.setIfInBounds_toArray, List.set_cons_zero, List.set_cons_succ, i64_w, i32_w]
            rfl
           refine pure_ (i := 2) (N := some 20) (v := ?_) (a' := ?_) #[false, true, true, false, false, false, false, false, false, false] rfl rfl (any_of HT_.out (by kernel_rfl)) (fun _ _ _ h => h) (Or.inl ⟨by rfl, ?_⟩) ?_ ?_
           rotate_left
           ·intro w'
            go_simp
            with_reducible rfl
           rotate_left
           ·simp only [Act.put, List.setIfInBounds_toArray, List.set_cons_zero, List.set_cons_succ, i64_w, i32_w]
            rfl
           refine pure_ (i := 3) (N := some 21) (v := ?_) (a' := ?_) #[false, true, true, true, false, false, false, false, false, false] rfl rfl (any_of HT_.out (by kernel_rfl)) (fun _ _ _ h => h) (Or.inl ⟨by rfl, ?_⟩) ?_ ?_
           rotate_left
           ·intro w'
            go_simp
            with_reducible rfl
           rotate_left
           ·simp only [Act.put, List.setIfInBounds_toArray, List.set_cons_zero, List.set_cons_succ, i64_w, i32_w]
            rfl
           refine pure_ (i := 5) (N := some 23) (v := ?_) (a' := ?_) #[false, true, true, true, false, true, false, false, false, false] rfl rfl (any_of HT_.out (by kernel_rfl)) (fun _ _ _ h => h) (Or.inl ⟨by rfl, ?_⟩) ?_ ?_
           rotate_left
           ·intro w'
            go_simp
            with_reducible rfl
           rotate_left
           ·simp only [Act.put, List.setIfInBounds_toArray, List.set_cons_zero, List.set_cons_succ, i64_w, i32_w]
            rfl
           refine pure_ (i := 6) (N := some 24) (v := ?_) (a' := ?_) #[false, true, true, true, false, true, true, false, false, false] rfl rfl (any_of HT_.out (by kernel_rfl)) (fun _ _ _ h => h) (Or.inl ⟨by rfl, ?_⟩) ?_ ?_
           rotate_left
           ·intro w'
            go_simp
            with_reducible rfl
           rotate_left
           ·simp only [Act.put, List.setIfInBounds_toArray, List.set_cons_zero, List.set_cons_succ, i64_w, i32_w]
            rfl
           refine take_ (i := 0) (N := some 18) (v := ?_) (a' := ?_) #[true, true, true, true, false, true, true, false, false, false] rfl rfl (take_ofW HT_.out HW_.out (by kernel_rfl)) (fun _ _ _ h => h) (Or.inl ⟨by rfl, ?_⟩) hHeld ?_ ?_
           rotate_left
           ·rintro w' ⟨s0, s1, s2, s3, s4, s5⟩
            go_simp
            with_reducible rfl
           rotate_left
           ·simp only [Act.put, List.setIfInBounds_toArray, List.set_cons_zero, List.set_cons_succ, i64_w, i32_w]
            rfl
           refine take_ (i := 4) (N := some 22) (v := ?_) (a' := ?_) #[true, true, true, true, true, true, true, false, false, false] rfl rfl (take_ofW HT_.out HW_.out (by kernel_rfl)) (fun _ _ _ h => h) (Or.inl ⟨by rfl, ?_⟩) hHeld ?_ ?_
           rotate_left
           ·rintro w' ⟨s0, s1, s2, s3, s4, s5⟩
            go_simp
            with_reducible rfl
           rotate_left
           ·simp only [Act.put, List.setIfInBounds_toArray, List.set_cons_zero, List.set_cons_succ, i64_w, i32_w]
            rfl
           refine take_ (i := 7) (N := some 25) (v := ?_) (a' := ?_) #[true, true, true, true, true, true, true, true, false, false] rfl rfl (take_ofW HT_.out HW_.out (by kernel_rfl)) (fun _ _ _ h => h) (Or.inl ⟨by rfl, ?_⟩) hHeld ?_ ?_
           rotate_left
           ·rintro w' ⟨s0, s1, s2, s3, s4, s5⟩
            go_simp
            with_reducible rfl
           rotate_left
           ·simp only [Act.put, List.setIfInBounds_toArray, List.set_cons_zero, List.set_cons_succ, i64_w, i32_w]
            rfl
           refine one_ (i := 8) (N := some 26) #[true, true, true, true, true, true, true, true, true, false] rfl rfl (one_of HT_.out (by kernel_rfl)) (by decide) (fun K hK => ?_)
           refine goes_ Try.func125 (by kernel_rfl) rfl #[.agg #[.int .i64 a0_0, .int .i64 a0_1, .bool a0_2, .bool a0_3], .int .i64 a2, .int .i64 (rd (rd_L1 t1034 x14_1) 0), .int .i64 (rd (rd_L1 t1034 x14_1) 1)] (by rfl) rfl rfl (by (try simp only [List.map_toArray, List.map_cons, List.map_nil]); first | done | rfl | (simp only [List.length_drop, List.length_take]; rfl)) ?_
           with_reducible refine (spec_arStep.calls k1 a0_0 a0_1 a0_2 a0_3 a2 (rd (rd_L1 t1034 x14_1) 0) (rd (rd_L1 t1034 x14_1) 1) t1040 _ A16.out).mono ?_
           rintro e w24 ⟨rfl, hb⟩
           have HS4_ := (hb.cell (World.block_lt_of_cell? _ _ (hHeld.2.2.2.2.1))).trans (hHeld.2.2.2.2.1)
           have HS5_ := (hb.cell (World.block_lt_of_cell? _ _ (hHeld.2.2.2.2.2))).trans (hHeld.2.2.2.2.2)
           refine ⟨_, rfl, ?_⟩
           have n0_ := Aside0.mk (Kd.R_below (by (with_reducible repeat (first | apply Kd.R_alloc | apply Kd.R_drewN | apply Kd.R_drew)); exact HO_7.out) hb)
           have n1_ := Aside0.mk (Kd.S_below (by (with_reducible repeat (first | apply Kd.S_alloc | apply Kd.S_drewN | apply Kd.S_drew)); exact HO_12.out) hb)
           have n2_ := Aside0.mk (Kd.R_below (by (with_reducible repeat (first | apply Kd.R_alloc | apply Kd.R_drewN | apply Kd.R_drew)); exact HL1037_0.out) hb)
           have n3_ := Aside0.mk (blk_below (g := gb1032) (o := .cells #[.int .i64 a0_0, .int .i64 a0_1, .bool a0_2, .bool a0_3] 51 (0, 0)) (by (with_reducible repeat (first | refine blk_drewN ?_ _ | refine blk_drew ?_ | refine blk_alloc ?_ _)); exact BK1032.out) hb)
           have n4_ := Aside0.mk (blk_below (g := gb1033) (o := .cells #[.int .i64 a1_0, .int .i64 a1_1] 32 (0, 0)) (by (with_reducible repeat (first | refine blk_drewN ?_ _ | refine blk_drew ?_ | refine blk_alloc ?_ _)); exact BK1033.out) hb)
           have n5_ := Aside0.mk (Kd.C_below (by repeat (first | (with_reducible exact HR1037_0.out) | (with_reducible refine Kd.C_alloc ?_ _) | (with_reducible refine Kd.C_drewN ?_ _) | (with_reducible refine Kd.C_drew ?_) | exact HR1037_0.out)) hb)
           have n6_ := Aside0.mk (below_step (by repeat (first | (with_reducible first | exact HB.out | apply below_alloc | apply pw_below_drewN | apply below_drew1 | refine below_set ?_ GE1032.out | refine below_set ?_ GE1033.out) | exact HB.out)) hb)
           clear HO_7
           clear HO_12
           clear HL1037_0
           clear BK1032
           clear BK1033
           clear HR1037_0
           clear HB
           have HO_7 := n0_
           have HO_12 := n1_
           have HL1037_0 := n2_
           have BK1032 := n3_
           have BK1033 := n4_
           have HR1037_0 := n5_
           have HB := n6_
           clear n0_ n1_ n2_ n3_ n4_ n5_ n6_
           (try clear hb)
           (try clear hb2)
           (try clear hk)
           (try clear hi)
           (try clear hna_)
           (try clear hnb_)
           refine hK.out _ _ ⟨(blk_cell BK1032.out 0).trans rfl, (blk_cell BK1032.out 1).trans rfl, (blk_cell BK1032.out 2).trans rfl, (blk_cell BK1032.out 3).trans rfl, HS4_, HS5_⟩ (fun hHeld => ?_)
           clear hK K
           refine norm_ (a' := ?_) ?_ ?_
           rotate_left
           ·show Act.put _ (some 26) _ = _
            simp only [Act.put, List.setIfInBounds_toArray, List.set_cons_zero, List.set_cons_succ, i64_w, i32_w]
            rfl
           refine pure_ (i := 9) (N := some 10) (v := ?_) (a' := ?_) #[true, true, true, true, true, true, true, true, true, true] rfl rfl (any_of HT_.out (by kernel_rfl)) (fun _ _ _ h => h) (Or.inl ⟨by rfl, ?_⟩) ?_ ?_
           rotate_left
           ·intro w'
            go_simp
            with_reducible rfl
           rotate_left
           ·simp only [Act.put, List.setIfInBounds_toArray, List.set_cons_zero, List.set_cons_succ, i64_w, i32_w]
            rfl
           refine done_ (done_of HT_.out (by kernel_rfl)) ?_
           obtain ⟨Ao25, co25, eo25⟩ := Kd.R_slice HO_7.out
           subst eo25
           try go_wp2_with (first | (go_at_call 92; (with_reducible refine (spec_l1Has.calls k1 _ _ x7_1 t1040 true _ ?side1 ?side2 A21.out).mono ?_); (case side1 => repeat (first | exact (Kd.R_reads' HO_7.out).2.2 | (with_reducible refine Kd.C_alloc ?_ _) | (with_reducible refine Kd.C_drewN ?_ _) | (with_reducible refine Kd.C_drew ?_))); (case side2 => exact (Kd.R_reads' HO_7.out).2.1); rintro e w' ⟨rfl, ⟨nd, rfl⟩⟩))
           go_roundg k1
           case measure => have := HK1.out; omega
           case rel => exact ⟨(x7_1), (wrap64 (x14_1 + 1)), (by first | rfl | (simp; done) | (simp [*]; done)), H', ⟨by have := HK1.out; omega⟩, ⟨by (with_reducible repeat (first | apply Kd.R_alloc | apply Kd.R_drewN | apply Kd.R_drew)); exact HO_7.out⟩, ⟨by (with_reducible repeat (first | apply Kd.S_alloc | apply Kd.S_drewN | apply Kd.S_drew)); exact HO_12.out⟩, ⟨by (with_reducible repeat (first | refine blk_drewN ?_ _ | refine blk_drew ?_ | refine blk_alloc ?_ _)); exact BK1032.out⟩, ⟨by (with_reducible repeat (first | refine blk_drewN ?_ _ | refine blk_drew ?_ | refine blk_alloc ?_ _)); exact BK1033.out⟩, ⟨by repeat (first | (with_reducible first | exact HB.out | apply below_alloc | apply pw_below_drewN | apply below_drew1 | refine below_set ?_ GE1032.out | refine below_set ?_ GE1033.out) | exact HB.out)⟩⟩
          ·replace c22 := Bool.eq_false_iff.mpr c22
           subst c22
           have H1 : ((spec_l1Put.f k1 x7_1 t1040).bind fun t1042 => (spec_arLeaps.l0 k1 a2 t1042 t1034 (t1034.length : Int) (wrap64 (x14_1 + 1)) a0_0 a0_1 a0_2 a0_3)) = some r := by rw [if_neg (show ¬ (false = true) by decide)] at H; exact H
           clear H
           have H := H1
           clear H1
           replace H := Option.bind_eq_some_iff.mp H
           obtain ⟨t1042, A260, H⟩ := H
           replace H : (spec_arLeaps.l0 k1 a2 t1042 t1034 (t1034.length : Int) (wrap64 (x14_1 + 1)) a0_0 a0_1 a0_2 a0_3) = some r := H
           have A26 := Aside0.mk A260
           clear A260
           have H' := Aside0.mk H
           clear H
           have p1037 : 0 ≤ (x14_1 : Int) := of_decide_eq_true (by first | (with_reducible assumption) | assumption)
           have q1037 : x14_1 < (t1034.length : Int) := of_decide_eq_true (by first | (with_reducible assumption) | assumption)
           obtain ⟨ad1037, A1037_0, c1037_0, e1037, hx1037_0, hl1037_0, hi1037_0⟩ := at_L1 (Kd.S_reads' HO_12.out).2.2 x14_1 p1037 q1037
           cases e1037
           obtain ⟨ce1037, hce1037, hMe1037, hcc1037⟩ := Kd.S_get HO_12.out [] x14_1 p1037 (by first | exact q1037 | exact of_decide_eq_true (by first | (with_reducible assumption) | assumption) | (have e_ := (Kd.S_reads' HO_12.out).1; omega))
           obtain ⟨ve1037_0, rfl, ge1037_0⟩ := hMe1037
           have hv1037_0 := hcc1037 0 _ rfl
           rw [Nat.add_zero, show ((Kd.slice 3 (Kd.int .i64))).sz = 1 from rfl, Nat.mul_one] at hv1037_0
           replace hv1037_0 := Option.some.inj (hv1037_0.symm.trans hx1037_0)
           rw [hv1037_0] at ge1037_0
           have HL1037_0 := Aside0.mk (show Kd.R (Kd.int .i64) 3 _ _ _ _ (rd_L1 t1034 x14_1) from ge1037_0)
           clear hv1037_0 ge1037_0
           clear hcc1037 hce1037
           have HR1037_0 := Aside0.mk hi1037_0
           have HC1037_0 := Aside0.mk hl1037_0
           clear hi1037_0 hl1037_0
           replace p1037 := eq_true p1037
           replace q1037 := eq_true q1037
           try go_wp2
           have n0_ := Aside0.mk (Kd.R_drew HO_7.out)
           have n1_ := Aside0.mk (Kd.S_drew HO_12.out)
           have n2_ := Aside0.mk (Kd.R_drew HL1037_0.out)
           have n3_ := Aside0.mk (blk_drew BK1032.out)
           have n4_ := Aside0.mk (blk_drew BK1033.out)
           have n5_ := Aside0.mk (Kd.C_drew HR1037_0.out)
           have n6_ := Aside0.mk (below_drew1 HB.out)
           clear HO_7
           clear HO_12
           clear HL1037_0
           clear BK1032
           clear BK1033
           clear HR1037_0
           clear HB
           have HO_7 := n0_
           have HO_12 := n1_
           have HL1037_0 := n2_
           have BK1032 := n3_
           have BK1033 := n4_
           have HR1037_0 := n5_
           have HB := n6_
           clear n0_ n1_ n2_ n3_ n4_ n5_ n6_
           have p1038 : 0 ≤ (0 : Int) := (by omega)
           have q1038 : 0 < ((rd_L1 t1034 x14_1).length : Int) := of_decide_eq_true (by first | (with_reducible assumption) | assumption)
           obtain ⟨ad1038, e1038, hx1038_0⟩ := Kd.at_int (by repeat (first | (with_reducible exact HR1037_0.out) | (with_reducible refine Kd.C_alloc ?_ _) | (with_reducible refine Kd.C_drewN ?_ _) | (with_reducible refine Kd.C_drew ?_) | exact HR1037_0.out)) 0 p1038 q1038
           cases e1038
           have qi1038 : (0 < (rd_L1 t1034 x14_1).length) = True := eq_true (by omega)
           (try rw [show ((0 : Int)).toNat = 0 from rfl] at hx1038_0)
           (try rw [Addr.add_zero'] at hx1038_0)
           replace p1038 := eq_true p1038
           replace q1038 := eq_true q1038
           have p1039 : 0 ≤ (1 : Int) := (by omega)
           have q1039 : 1 < ((rd_L1 t1034 x14_1).length : Int) := of_decide_eq_true (by first | (with_reducible assumption) | assumption)
           obtain ⟨ad1039, e1039, hx1039_0⟩ := Kd.at_int (by repeat (first | (with_reducible exact HR1037_0.out) | (with_reducible refine Kd.C_alloc ?_ _) | (with_reducible refine Kd.C_drewN ?_ _) | (with_reducible refine Kd.C_drew ?_) | exact HR1037_0.out)) 1 p1039 q1039
           obtain rfl : ad1038 = ad1039 := (by injection e1039)
           (try simp only [show (1 : Int).toNat = 1 from rfl, Nat.reduceMul, Nat.reduceEqDiff, Go.Addr.add, ↓reduceIte] at hx1039_0)
           have qi1039 : (1 < (rd_L1 t1034 x14_1).length) = True := eq_true (by omega)
           (try rw [show ((1 : Int)).toNat = 1 from rfl] at hx1039_0)
           replace p1039 := eq_true p1039
           replace q1039 := eq_true q1039
           refine start_ (n := 10) (S := fun w' => w'.cell? ⟨gb1032, 0, none⟩ = some (.int .i64 a0_0) ∧ w'.cell? ⟨gb1032, 1, none⟩ = some (.int .i64 a0_1) ∧ w'.cell? ⟨gb1032, 2, none⟩ = some (.bool a0_2) ∧ w'.cell? ⟨gb1032, 3, none⟩ = some (.bool a0_3) ∧ w'.cell? ad1038 = some (.int .i64 (rd (rd_L1 t1034 x14_1) 0)) ∧ w'.cell? ⟨ad1038.block, ad1038.off + 1, none⟩ = some (.int .i64 (rd (rd_L1 t1034 x14_1) 1))) (ds := []) #[false, false, false, false, false, false, false, false, false, false] (by kernel_rfl) rfl rfl ⟨(blk_cell BK1032.out 0).trans rfl, (blk_cell BK1032.out 1).trans rfl, (blk_cell BK1032.out 2).trans rfl, (blk_cell BK1032.out 3).trans rfl, hx1038_0, hx1039_0⟩ (fun hHeld => ?_); refine with_tabW spec_arLeaps.tab5 spec_arLeaps.bits5 (fun HT_ HW_ => ?_)
           generalize wr.drew = w27 at HO_7 HO_12 HL1037_0 BK1032 BK1033 HR1037_0 HB hx1038_0 hx1039_0 hHeld ⊢
           refine pure_ (i := 1) (N := some 19) (v := ?_) (a' := ?_) #[false, true, false, false, false, false, false, false, false, false] rfl rfl (any_of HT_.out (by kernel_rfl)) (fun _ _ _ h => h) (Or.inl ⟨by rfl, ?_⟩) ?_ ?_
           rotate_left
           ·intro w'
            go_simp
            with_reducible rfl
           rotate_left
           ·simp only [Act.put, List.setIfInBounds_toArray, List.set_cons_zero, List.set_cons_succ, i64_w, i32_w]
            rfl
           refine pure_ (i := 2) (N := some 20) (v := ?_) (a' := ?_) #[false, true, true, false, false, false, false, false, false, false] rfl rfl (any_of HT_.out (by kernel_rfl)) (fun _ _ _ h => h) (Or.inl ⟨by rfl, ?_⟩) ?_ ?_
           rotate_left
           ·intro w'
            go_simp
            with_reducible rfl
           rotate_left
           ·simp only [Act.put, List.setIfInBounds_toArray, List.set_cons_zero, List.set_cons_succ, i64_w, i32_w]
            rfl
           refine pure_ (i := 3) (N := some 21) (v := ?_) (a' := ?_) #[false, true, true, true, false, false, false, false, false, false] rfl rfl (any_of HT_.out (by kernel_rfl)) (fun _ _ _ h => h) (Or.inl ⟨by rfl, ?_⟩) ?_ ?_
           rotate_left
           ·intro w'
            go_simp
            with_reducible rfl
           rotate_left
           ·simp only [Act.put, List.setIfInBounds_toArray, List.set_cons_zero, List.set_cons_succ, i64_w, i32_w]
            rfl
           refine pure_ (i := 5) (N := some 23) (v := ?_) (a' := ?_) #[false, true, true, true, false, true, false, false, false, false] rfl rfl (any_of HT_.out (by kernel_rfl)) (fun _ _ _ h => h) (Or.inl ⟨by rfl, ?_⟩) ?_ ?_
           rotate_left
           ·intro w'
            go_simp
            with_reducible rfl
           rotate_left
           ·simp only [Act.put, List.setIfInBounds_toArray, List.set_cons_zero, List.set_cons_succ, i64_w, i32_w]
            rfl
           refine pure_ (i := 6) (N := some 24) (v := ?_) (a' := ?_) #[false, true, true, true, false, true, true, false, false, false] rfl rfl (any_of HT_.out (by kernel_rfl)) (fun _ _ _ h => h) (Or.inl ⟨by rfl, ?_⟩) ?_ ?_
           rotate_left
           ·intro w'
            go_simp
            with_reducible rfl
           rotate_left
           ·simp only [Act.put, List.setIfInBounds_toArray, List.set_cons_zero, List.set_cons_succ, i64_w, i32_w]
            rfl
           refine take_ (i := 0) (N := some 18) (v := ?_) (a' := ?_) #[true, true, true, true, false, true, true, false, false, false] rfl rfl (take_ofW HT_.out HW_.out (by kernel_rfl)) (fun _ _ _ h => h) (Or.inl ⟨by rfl, ?_⟩) hHeld ?_ ?_
           rotate_left
           ·rintro w' ⟨s0, s1, s2, s3, s4, s5⟩
            go_simp
            with_reducible rfl
           rotate_left
           ·simp only [Act.put, List.setIfInBounds_toArray, List.set_cons_zero, List.set_cons_succ, i64_w, i32_w]
            rfl
           refine take_ (i := 4) (N := some 22) (v := ?_) (a' := ?_) #[true, true, true, true, true, true, true, false, false, false] rfl rfl (take_ofW HT_.out HW_.out (by kernel_rfl)) (fun _ _ _ h => h) (Or.inl ⟨by rfl, ?_⟩) hHeld ?_ ?_
           rotate_left
           ·rintro w' ⟨s0, s1, s2, s3, s4, s5⟩
            go_simp
            with_reducible rfl
           rotate_left
           ·simp only [Act.put, List.setIfInBounds_toArray, List.set_cons_zero, List.set_cons_succ, i64_w, i32_w]
            rfl
           refine take_ (i := 7) (N := some 25) (v := ?_) (a' := ?_) #[true, true, true, true, true, true, true, true, false, false] rfl rfl (take_ofW HT_.out HW_.out (by kernel_rfl)) (fun _ _ _ h => h) (Or.inl ⟨by rfl, ?_⟩) hHeld ?_ ?_
           rotate_left
           ·rintro w' ⟨s0, s1, s2, s3, s4, s5⟩
            go_simp
            with_reducible rfl
           rotate_left
           ·simp only [Act.put, List.setIfInBounds_toArray, List.set_cons_zero, List.set_cons_succ, i64_w, i32_w]
            rfl
           refine one_ (i := 8) (N := some 26) #[true, true, true, true, true, true, true, true, true, false] rfl rfl (one_of HT_.out (by kernel_rfl)) (by decide) (fun K hK => ?_)
           refine goes_ Try.func125 (by kernel_rfl) rfl #[.agg #[.int .i64 a0_0, .int .i64 a0_1, .bool a0_2, .bool a0_3], .int .i64 a2, .int .i64 (rd (rd_L1 t1034 x14_1) 0), .int .i64 (rd (rd_L1 t1034 x14_1) 1)] (by rfl) rfl rfl (by (try simp only [List.map_toArray, List.map_cons, List.map_nil]); first | done | rfl | (simp only [List.length_drop, List.length_take]; rfl)) ?_
           with_reducible refine (spec_arStep.calls k1 a0_0 a0_1 a0_2 a0_3 a2 (rd (rd_L1 t1034 x14_1) 0) (rd (rd_L1 t1034 x14_1) 1) t1040 _ A16.out).mono ?_
           rintro e w28 ⟨rfl, hb⟩
           have HS4_ := (hb.cell (World.block_lt_of_cell? _ _ (hHeld.2.2.2.2.1))).trans (hHeld.2.2.2.2.1)
           have HS5_ := (hb.cell (World.block_lt_of_cell? _ _ (hHeld.2.2.2.2.2))).trans (hHeld.2.2.2.2.2)
           refine ⟨_, rfl, ?_⟩
           have n0_ := Aside0.mk (Kd.R_below (by (with_reducible repeat (first | apply Kd.R_alloc | apply Kd.R_drewN | apply Kd.R_drew)); exact HO_7.out) hb)
           have n1_ := Aside0.mk (Kd.S_below (by (with_reducible repeat (first | apply Kd.S_alloc | apply Kd.S_drewN | apply Kd.S_drew)); exact HO_12.out) hb)
           have n2_ := Aside0.mk (Kd.R_below (by (with_reducible repeat (first | apply Kd.R_alloc | apply Kd.R_drewN | apply Kd.R_drew)); exact HL1037_0.out) hb)
           have n3_ := Aside0.mk (blk_below (g := gb1032) (o := .cells #[.int .i64 a0_0, .int .i64 a0_1, .bool a0_2, .bool a0_3] 51 (0, 0)) (by (with_reducible repeat (first | refine blk_drewN ?_ _ | refine blk_drew ?_ | refine blk_alloc ?_ _)); exact BK1032.out) hb)
           have n4_ := Aside0.mk (blk_below (g := gb1033) (o := .cells #[.int .i64 a1_0, .int .i64 a1_1] 32 (0, 0)) (by (with_reducible repeat (first | refine blk_drewN ?_ _ | refine blk_drew ?_ | refine blk_alloc ?_ _)); exact BK1033.out) hb)
           have n5_ := Aside0.mk (Kd.C_below (by repeat (first | (with_reducible exact HR1037_0.out) | (with_reducible refine Kd.C_alloc ?_ _) | (with_reducible refine Kd.C_drewN ?_ _) | (with_reducible refine Kd.C_drew ?_) | exact HR1037_0.out)) hb)
           have n6_ := Aside0.mk (below_step (by repeat (first | (with_reducible first | exact HB.out | apply below_alloc | apply pw_below_drewN | apply below_drew1 | refine below_set ?_ GE1032.out | refine below_set ?_ GE1033.out) | exact HB.out)) hb)
           clear HO_7
           clear HO_12
           clear HL1037_0
           clear BK1032
           clear BK1033
           clear HR1037_0
           clear HB
           have HO_7 := n0_
           have HO_12 := n1_
           have HL1037_0 := n2_
           have BK1032 := n3_
           have BK1033 := n4_
           have HR1037_0 := n5_
           have HB := n6_
           clear n0_ n1_ n2_ n3_ n4_ n5_ n6_
           (try clear hb)
           (try clear hb2)
           (try clear hk)
           (try clear hi)
           (try clear hna_)
           (try clear hnb_)
           refine hK.out _ _ ⟨(blk_cell BK1032.out 0).trans rfl, (blk_cell BK1032.out 1).trans rfl, (blk_cell BK1032.out 2).trans rfl, (blk_cell BK1032.out 3).trans rfl, HS4_, HS5_⟩ (fun hHeld => ?_)
           clear hK K
           refine norm_ (a' := ?_) ?_ ?_
           rotate_left
           ·show Act.put _ (some 26) _ = _
            simp only [Act.put, List.setIfInBounds_toArray, List.set_cons_zero, List.set_cons_succ, i64_w, i32_w]
            rfl
           refine pure_ (i := 9) (N := some 10) (v := ?_) (a' := ?_) #[true, true, true, true, true, true, true, true, true, true] rfl rfl (any_of HT_.out (by kernel_rfl)) (fun _ _ _ h => h) (Or.inl ⟨by rfl, ?_⟩) ?_ ?_
           rotate_left
           ·intro w'
            go_simp
            with_reducible rfl
           rotate_left
           ·simp only [Act.put, List.setIfInBounds_toArray, List.set_cons_zero, List.set_cons_succ, i64_w, i32_w]
            rfl
           refine done_ (done_of HT_.out (by kernel_rfl)) ?_
           obtain ⟨Ao29, co29, eo29⟩ := Kd.R_slice HO_7.out
           subst eo29
           try go_wp2_with (first | (go_at_call 92; (with_reducible refine (spec_l1Has.calls k1 _ _ x7_1 t1040 false _ ?side1 ?side2 A21.out).mono ?_); (case side1 => repeat (first | exact (Kd.R_reads' HO_7.out).2.2 | (with_reducible refine Kd.C_alloc ?_ _) | (with_reducible refine Kd.C_drewN ?_ _) | (with_reducible refine Kd.C_drew ?_))); (case side2 => exact (Kd.R_reads' HO_7.out).2.1); rintro e w' ⟨rfl, ⟨nd, rfl⟩⟩) | ((with_reducible refine gate_callee (f := 126) rfl ?_); refine goesL_ (some 42) rfl rfl Try.func126 (by kernel_rfl) rfl #[.slice Ao29 x7_1.length co29, .int .i64 t1040] rfl (by (try simp only [List.map_toArray, List.map_cons, List.map_nil]); first | done | rfl | (simp only [List.length_drop, List.length_take]; rfl)) ?_; (with_reducible refine (spec_l1Put.calls k1 (fun k_ => some k_ = (.slice Ao29 x7_1.length co29 : Value).ownBlock) (.slice Ao29 x7_1.length co29) x7_1 t1040 t1042 w _ ?side1 ?side2 A26.out).mono ?_); (case side1 => repeat (first | (with_reducible first | exact HB.out | apply below_alloc | apply pw_below_drewN | apply below_drew1 | refine below_set ?_ GE1032.out | refine below_set ?_ GE1033.out) | exact HB.out)); (case side2 => exact Kd.R_tight rfl HO_7.out); rintro e w30 ⟨v1043, rfl, ho0, hb, hkp⟩; refine ⟨_, rfl, ?_⟩; have n0_ := Aside0.mk (Kd.S_mono (ok' := fun k_ => some k_ ≠ (v1043 : Value).ownBlock) (Kd.S_keptB (HO_12.out) hkp (fun k_ hk_ hs_ => (hk_) hs_)) (fun k_ hk_ => fun e_ => Or.elim (ho0.1 k_ e_.symm) (fun hs_ => hk_.2.1 hs_) (fun hn_ => Nat.not_le.2 hk_.2.2 hn_))); have n1_ := Aside0.mk (blk_kept (by (with_reducible repeat (first | refine blk_drewN ?_ _ | refine blk_drew ?_ | refine blk_alloc ?_ _)); exact BK1032.out) hkp (fun hs_ => (fun e_ => (Kd.R_ne HO_7.out BK1032.out (by decide)) e_) hs_)); have n2_ := Aside0.mk (blk_kept (by (with_reducible repeat (first | refine blk_drewN ?_ _ | refine blk_drew ?_ | refine blk_alloc ?_ _)); exact BK1033.out) hkp (fun hs_ => (fun e_ => (Kd.R_ne HO_7.out BK1033.out (by decide)) e_) hs_)); have n3_ := Aside0.mk (Kd.R_mono (ok' := fun k_ => True) ho0 (fun k_ hk_ => trivial)); have n4_ := Aside0.mk (hb); clear HO_12; clear BK1032; clear BK1033; clear HB; clear HO_7; clear HL1037_0; have HO_12 := n0_; have BK1032 := n1_; have BK1033 := n2_; have HO1044 := n3_; have HB := n4_; clear n0_ n1_ n2_ n3_ n4_; (try clear hb); (try clear hkp); (try clear ho0)))
           go_roundg k1
           case measure => have := HK1.out; omega
           case rel => exact ⟨(t1042), (wrap64 (x14_1 + 1)), (by first | rfl | (simp; done) | (simp [*]; done)), H', ⟨by have := HK1.out; omega⟩, ⟨by (with_reducible repeat (first | apply Kd.R_alloc | apply Kd.R_drewN | apply Kd.R_drew)); exact HO1044.out⟩, ⟨by (with_reducible repeat (first | apply Kd.S_alloc | apply Kd.S_drewN | apply Kd.S_drew)); exact HO_12.out⟩, ⟨by (with_reducible repeat (first | refine blk_drewN ?_ _ | refine blk_drew ?_ | refine blk_alloc ?_ _)); exact BK1032.out⟩, ⟨by (with_reducible repeat (first | refine blk_drewN ?_ _ | refine blk_drew ?_ | refine blk_alloc ?_ _)); exact BK1033.out⟩, ⟨by repeat (first | (with_reducible first | exact HB.out | apply below_alloc | apply pw_below_drewN | apply below_drew1 | refine below_set ?_ GE1032.out | refine below_set ?_ GE1033.out) | exact HB.out)⟩⟩
        ·rw [if_neg c17] at H
         have c17b0 : decide (0 ≤ t1040) = false := decide_eq_false c17
         clear c17
         have H' := Aside0.mk H
         clear H
         have p1037 : 0 ≤ (x14_1 : Int) := of_decide_eq_true (by first | (with_reducible assumption) | assumption)
         have q1037 : x14_1 < (t1034.length : Int) := of_decide_eq_true (by first | (with_reducible assumption) | assumption)
         obtain ⟨ad1037, A1037_0, c1037_0, e1037, hx1037_0, hl1037_0, hi1037_0⟩ := at_L1 (Kd.S_reads' HO_12.out).2.2 x14_1 p1037 q1037
         cases e1037
         obtain ⟨ce1037, hce1037, hMe1037, hcc1037⟩ := Kd.S_get HO_12.out [] x14_1 p1037 (by first | exact q1037 | exact of_decide_eq_true (by first | (with_reducible assumption) | assumption) | (have e_ := (Kd.S_reads' HO_12.out).1; omega))
         obtain ⟨ve1037_0, rfl, ge1037_0⟩ := hMe1037
         have hv1037_0 := hcc1037 0 _ rfl
         rw [Nat.add_zero, show ((Kd.slice 3 (Kd.int .i64))).sz = 1 from rfl, Nat.mul_one] at hv1037_0
         replace hv1037_0 := Option.some.inj (hv1037_0.symm.trans hx1037_0)
         rw [hv1037_0] at ge1037_0
         have HL1037_0 := Aside0.mk (show Kd.R (Kd.int .i64) 3 _ _ _ _ (rd_L1 t1034 x14_1) from ge1037_0)
         clear hv1037_0 ge1037_0
         clear hcc1037 hce1037
         have HR1037_0 := Aside0.mk hi1037_0
         have HC1037_0 := Aside0.mk hl1037_0
         clear hi1037_0 hl1037_0
         replace p1037 := eq_true p1037
         replace q1037 := eq_true q1037
         try go_wp2
         have n0_ := Aside0.mk (Kd.R_drew HO_7.out)
         have n1_ := Aside0.mk (Kd.S_drew HO_12.out)
         have n2_ := Aside0.mk (Kd.R_drew HL1037_0.out)
         have n3_ := Aside0.mk (blk_drew BK1032.out)
         have n4_ := Aside0.mk (blk_drew BK1033.out)
         have n5_ := Aside0.mk (Kd.C_drew HR1037_0.out)
         have n6_ := Aside0.mk (below_drew1 HB.out)
         clear HO_7
         clear HO_12
         clear HL1037_0
         clear BK1032
         clear BK1033
         clear HR1037_0
         clear HB
         have HO_7 := n0_
         have HO_12 := n1_
         have HL1037_0 := n2_
         have BK1032 := n3_
         have BK1033 := n4_
         have HR1037_0 := n5_
         have HB := n6_
         clear n0_ n1_ n2_ n3_ n4_ n5_ n6_
         have p1038 : 0 ≤ (0 : Int) := (by omega)
         have q1038 : 0 < ((rd_L1 t1034 x14_1).length : Int) := of_decide_eq_true (by first | (with_reducible assumption) | assumption)
         obtain ⟨ad1038, e1038, hx1038_0⟩ := Kd.at_int (by repeat (first | (with_reducible exact HR1037_0.out) | (with_reducible refine Kd.C_alloc ?_ _) | (with_reducible refine Kd.C_drewN ?_ _) | (with_reducible refine Kd.C_drew ?_) | exact HR1037_0.out)) 0 p1038 q1038
         cases e1038
         have qi1038 : (0 < (rd_L1 t1034 x14_1).length) = True := eq_true (by omega)
         (try rw [show ((0 : Int)).toNat = 0 from rfl] at hx1038_0)
         (try rw [Addr.add_zero'] at hx1038_0)
         replace p1038 := eq_true p1038
         replace q1038 := eq_true q1038
         have p1039 : 0 ≤ (1 : Int) := (by omega)
         have q1039 : 1 < ((rd_L1 t1034 x14_1).length : Int) := of_decide_eq_true (by first | (with_reducible assumption) | assumption)
         obtain ⟨ad1039, e1039, hx1039_0⟩ := Kd.at_int (by repeat (first | (with_reducible exact HR1037_0.out) | (with_reducible refine Kd.C_alloc ?_ _) | (with_reducible refine Kd.C_drewN ?_ _) | (with_reducible refine Kd.C_drew ?_) | exact HR1037_0.out)) 1 p1039 q1039
         obtain rfl : ad1038 = ad1039 := (by injection e1039)
         (try simp only [show (1 : Int).toNat = 1 from rfl, Nat.reduceMul, Nat.reduceEqDiff, Go.Addr.add, ↓reduceIte] at hx1039_0)
         have qi1039 : (1 < (rd_L1 t1034 x14_1).length) = True := eq_true (by omega)
         (try rw [show ((1 : Int)).toNat = 1 from rfl] at hx1039_0)
         replace p1039 := eq_true p1039
         replace q1039 := eq_true q1039
         refine start_ (n := 10) (S := fun w' => w'.cell? ⟨gb1032, 0, none⟩ = some (.int .i64 a0_0) ∧ w'.cell? ⟨gb1032, 1, none⟩ = some (.int .i64 a0_1) ∧ w'.cell? ⟨gb1032, 2, none⟩ = some (.bool a0_2) ∧ w'.cell? ⟨gb1032, 3, none⟩ = some (.bool a0_3) ∧ w'.cell? ad1038 = some (.int .i64 (rd (rd_L1 t1034 x14_1) 0)) ∧ w'.cell? ⟨ad1038.block, ad1038.off + 1, none⟩ = some (.int .i64 (rd (rd_L1 t1034 x14_1) 1))) (ds := []) #[false, false, false, false, false, false, false, false, false, false] (by kernel_rfl) rfl rfl ⟨(blk_cell BK1032.out 0).trans rfl, (blk_cell BK1032.out 1).trans rfl, (blk_cell BK1032.out 2).trans rfl, (blk_cell BK1032.out 3).trans rfl, hx1038_0, hx1039_0⟩ (fun hHeld => ?_); refine with_tabW spec_arLeaps.tab5 spec_arLeaps.bits5 (fun HT_ HW_ => ?_)
         generalize wr.drew = w31 at HO_7 HO_12 HL1037_0 BK1032 BK1033 HR1037_0 HB hx1038_0 hx1039_0 hHeld ⊢
         refine pure_ (i := 1) (N := some 19) (v := ?_) (a' := ?_) #[false, true, false, false, false, false, false, false, false, false] rfl rfl (any_of HT_.out (by kernel_rfl)) (fun _ _ _ h => h) (Or.inl ⟨by rfl, ?_⟩) ?_ ?_
         rotate_left
         ·intro w'
          go_simp
          with_reducible rfl
         rotate_left
         ·simp only [Act.put, List.setIfInBounds_toArray, List.set_cons_zero, List.set_cons_succ, i64_w, i32_w]
          rfl
         refine pure_ (i := 2) (N := some 20) (v := ?_) (a' := ?_) #[false, true, true, false, false, false, false, false, false, false] rfl rfl (any_of HT_.out (by kernel_rfl)) (fun _ _ _ h => h) (Or.inl ⟨by rfl, ?_⟩) ?_ ?_
         rotate_left
         ·intro w'
          go_simp
          with_reducible rfl
         rotate_left
         ·simp only [Act.put, List.setIfInBounds_toArray, List.set_cons_zero, List.set_cons_succ, i64_w, i32_w]
          rfl
         refine pure_ (i := 3) (N := some 21) (v := ?_) (a' := ?_) #[false, true, true, true, false, false, false, false, false, false] rfl rfl (any_of HT_.out (by kernel_rfl)) (fun _ _ _ h => h) (Or.inl ⟨by rfl, ?_⟩) ?_ ?_
         rotate_left
         ·intro w'
          go_simp
          with_reducible rfl
         rotate_left
         ·simp only [Act.put, List.setIfInBounds_toArray, List.set_cons_zero, List.set_cons_succ, i64_w, i32_w]
          rfl
         refine pure_ (i := 5) (N := some 23) (v := ?_) (a' := ?_) #[false, true, true, true, false, true, false, false, false, false] rfl rfl (any_of HT_.out (by kernel_rfl)) (fun _ _ _ h => h) (Or.inl ⟨by rfl, ?_⟩) ?_ ?_
         rotate_left
         ·intro w'
          go_simp
          with_reducible rfl
         rotate_left
         ·simp only [Act.put, List.setIfInBounds_toArray, List.set_cons_zero, List.set_cons_succ, i64_w, i32_w]
          rfl
         refine pure_ (i := 6) (N := some 24) (v := ?_) (a' := ?_) #[false, true, true, true, false, true, true, false, false, false] rfl rfl (any_of HT_.out (by kernel_rfl)) (fun _ _ _ h => h) (Or.inl ⟨by rfl, ?_⟩) ?_ ?_
         rotate_left
         ·intro w'
          go_simp
          with_reducible rfl
         rotate_left
         ·simp only [Act.put, List.setIfInBounds_toArray, List.set_cons_zero, List.set_cons_succ, i64_w, i32_w]
          rfl
         refine take_ (i := 0) (N := some 18) (v := ?_) (a' := ?_) #[true, true, true, true, false, true, true, false, false, false] rfl rfl (take_ofW HT_.out HW_.out (by kernel_rfl)) (fun _ _ _ h => h) (Or.inl ⟨by rfl, ?_⟩) hHeld ?_ ?_
         rotate_left
         ·rintro w' ⟨s0, s1, s2, s3, s4, s5⟩
          go_simp
          with_reducible rfl
         rotate_left
         ·simp only [Act.put, List.setIfInBounds_toArray, List.set_cons_zero, List.set_cons_succ, i64_w, i32_w]
          rfl
         refine take_ (i := 4) (N := some 22) (v := ?_) (a' := ?_) #[true, true, true, true, true, true, true, false, false, false] rfl rfl (take_ofW HT_.out HW_.out (by kernel_rfl)) (fun _ _ _ h => h) (Or.inl ⟨by rfl, ?_⟩) hHeld ?_ ?_
         rotate_left
         ·rintro w' ⟨s0, s1, s2, s3, s4, s5⟩
          go_simp
          with_reducible rfl
         rotate_left
         ·simp only [Act.put, List.setIfInBounds_toArray, List.set_cons_zero, List.set_cons_succ, i64_w, i32_w]
          rfl
         refine take_ (i := 7) (N := some 25) (v := ?_) (a' := ?_) #[true, true, true, true, true, true, true, true, false, false] rfl rfl (take_ofW HT_.out HW_.out (by kernel_rfl)) (fun _ _ _ h => h) (Or.inl ⟨by rfl, ?_⟩) hHeld ?_ ?_
         rotate_left
         ·rintro w' ⟨s0, s1, s2, s3, s4, s5⟩
          go_simp
          with_reducible rfl
         rotate_left
         ·simp only [Act.put, List.setIfInBounds_toArray, List.set_cons_zero, List.set_cons_succ, i64_w, i32_w]
          rfl
         refine one_ (i := 8) (N := some 26) #[true, true, true, true, true, true, true, true, true, false] rfl rfl (one_of HT_.out (by kernel_rfl)) (by decide) (fun K hK => ?_)
         refine goes_ Try.func125 (by kernel_rfl) rfl #[.agg #[.int .i64 a0_0, .int .i64 a0_1, .bool a0_2, .bool a0_3], .int .i64 a2, .int .i64 (rd (rd_L1 t1034 x14_1) 0), .int .i64 (rd (rd_L1 t1034 x14_1) 1)] (by rfl) rfl rfl (by (try simp only [List.map_toArray, List.map_cons, List.map_nil]); first | done | rfl | (simp only [List.length_drop, List.length_take]; rfl)) ?_
         with_reducible refine (spec_arStep.calls k1 a0_0 a0_1 a0_2 a0_3 a2 (rd (rd_L1 t1034 x14_1) 0) (rd (rd_L1 t1034 x14_1) 1) t1040 _ A16.out).mono ?_
         rintro e w32 ⟨rfl, hb⟩
         have HS4_ := (hb.cell (World.block_lt_of_cell? _ _ (hHeld.2.2.2.2.1))).trans (hHeld.2.2.2.2.1)
         have HS5_ := (hb.cell (World.block_lt_of_cell? _ _ (hHeld.2.2.2.2.2))).trans (hHeld.2.2.2.2.2)
         refine ⟨_, rfl, ?_⟩
         have n0_ := Aside0.mk (Kd.R_below (by (with_reducible repeat (first | apply Kd.R_alloc | apply Kd.R_drewN | apply Kd.R_drew)); exact HO_7.out) hb)
         have n1_ := Aside0.mk (Kd.S_below (by (with_reducible repeat (first | apply Kd.S_alloc | apply Kd.S_drewN | apply Kd.S_drew)); exact HO_12.out) hb)
         have n2_ := Aside0.mk (Kd.R_below (by (with_reducible repeat (first | apply Kd.R_alloc | apply Kd.R_drewN | apply Kd.R_drew)); exact HL1037_0.out) hb)
         have n3_ := Aside0.mk (blk_below (g := gb1032) (o := .cells #[.int .i64 a0_0, .int .i64 a0_1, .bool a0_2, .bool a0_3] 51 (0, 0)) (by (with_reducible repeat (first | refine blk_drewN ?_ _ | refine blk_drew ?_ | refine blk_alloc ?_ _)); exact BK1032.out) hb)
         have n4_ := Aside0.mk (blk_below (g := gb1033) (o := .cells #[.int .i64 a1_0, .int .i64 a1_1] 32 (0, 0)) (by (with_reducible repeat (first | refine blk_drewN ?_ _ | refine blk_drew ?_ | refine blk_alloc ?_ _)); exact BK1033.out) hb)
         have n5_ := Aside0.mk (Kd.C_below (by repeat (first | (with_reducible exact HR1037_0.out) | (with_reducible refine Kd.C_alloc ?_ _) | (with_reducible refine Kd.C_drewN ?_ _) | (with_reducible refine Kd.C_drew ?_) | exact HR1037_0.out)) hb)
         have n6_ := Aside0.mk (below_step (by repeat (first | (with_reducible first | exact HB.out | apply below_alloc | apply pw_below_drewN | apply below_drew1 | refine below_set ?_ GE1032.out | refine below_set ?_ GE1033.out) | exact HB.out)) hb)
         clear HO_7
         clear HO_12
         clear HL1037_0
         clear BK1032
         clear BK1033
         clear HR1037_0
         clear HB
         have HO_7 := n0_
         have HO_12 := n1_
         have HL1037_0 := n2_
         have BK1032 := n3_
         have BK1033 := n4_
         have HR1037_0 := n5_
         have HB := n6_
         clear n0_ n1_ n2_ n3_ n4_ n5_ n6_
         (try clear hb)
         (try clear hb2)
         (try clear hk)
         (try clear hi)
         (try clear hna_)
         (try clear hnb_)
         refine hK.out _ _ ⟨(blk_cell BK1032.out 0).trans rfl, (blk_cell BK1032.out 1).trans rfl, (blk_cell BK1032.out 2).trans rfl, (blk_cell BK1032.out 3).trans rfl, HS4_, HS5_⟩ (fun hHeld => ?_)
         clear hK K
         refine norm_ (a' := ?_) ?_ ?_
         rotate_left
         ·show Act.put _ (some 26) _ = _
          simp only [Act.put, List.setIfInBounds_toArray, List.set_cons_zero, List.set_cons_succ, i64_w, i32_w]
          rfl
         refine pure_ (i := 9) (N := some 10) (v := ?_) (a' := ?_) #[true, true, true, true, true, true, true, true, true, true] rfl rfl (any_of HT_.out (by kernel_rfl)) (fun _ _ _ h => h) (Or.inl ⟨by rfl, ?_⟩) ?_ ?_
         rotate_left
         ·intro w'
          go_simp
          with_reducible rfl
         rotate_left
         ·simp only [Act.put, List.setIfInBounds_toArray, List.set_cons_zero, List.set_cons_succ, i64_w, i32_w]
          rfl
         refine done_ (done_of HT_.out (by kernel_rfl)) ?_
         try go_wp2
         go_roundg k1
         case measure => have := HK1.out; omega
         case rel => exact ⟨(x7_1), (wrap64 (x14_1 + 1)), (by first | rfl | (simp; done) | (simp [*]; done)), H', ⟨by have := HK1.out; omega⟩, ⟨by (with_reducible repeat (first | apply Kd.R_alloc | apply Kd.R_drewN | apply Kd.R_drew)); exact HO_7.out⟩, ⟨by (with_reducible repeat (first | apply Kd.S_alloc | apply Kd.S_drewN | apply Kd.S_drew)); exact HO_12.out⟩, ⟨by (with_reducible repeat (first | refine blk_drewN ?_ _ | refine blk_drew ?_ | refine blk_alloc ?_ _)); exact BK1032.out⟩, ⟨by (with_reducible repeat (first | refine blk_drewN ?_ _ | refine blk_drew ?_ | refine blk_alloc ?_ _)); exact BK1033.out⟩, ⟨by repeat (first | (with_reducible first | exact HB.out | apply below_alloc | apply pw_below_drewN | apply below_drew1 | refine below_set ?_ GE1032.out | refine below_set ?_ GE1033.out) | exact HB.out)⟩⟩
       ·rw [if_neg c15] at H
        exact absurd H (by simp)
      ·rw [if_neg c14] at H
       exact absurd H (by simp)
     ·rw [if_neg c13] at H
      exact absurd H (by simp)
    ·rw [if_neg c12] at H
     exact absurd H (by simp)
   ·rw [if_neg c11] at H
    have c11b0 : decide (x14_1 < (t1034.length : Int)) = false := decide_eq_false c11
    clear c11
    obtain rfl := Option.some.inj H
    go_wp2
    go_ret
    exact ⟨_, by first | rfl | (simp [errW_none, errW_some] <;> rfl) | (simp [*, errW_none, errW_some] <;> rfl), by (with_reducible repeat (first | apply Kd.R_alloc | apply Kd.R_drewN | apply Kd.R_drew)); exact HO_7.out, by repeat (first | (with_reducible first | exact HB.out | apply below_alloc | apply pw_below_drewN | apply below_drew1 | refine below_set ?_ GE1032.out | refine below_set ?_ GE1033.out) | exact HB.out)⟩

end Go.Proofs.Ytekajjhjjnfdpaa.Q

/- Written by a program of this session: functions of the translation as plain Lean functions, each with a proof that the call does what the plain function says; the conditions stand in each theorem. -/
import Derived.Test.YtekajjhjjnfdpaaQ0
import Derived.Test.YtekajjhjjnfdpaaQ5
import Derived.Test.YtekajjhjjnfdpaaQ42
import Derived.Test.YtekajjhjjnfdpaaHSort
namespace Go.Proofs.Ytekajjhjjnfdpaa.Q
open Go.RowKit Go.Proofs.YtekajjhjjnfdpaaW.PrintWords Go.Proofs.YtekajjhjjnfdpaaW.PrintLast Go.Proofs.YtekajjhjjnfdpaaW.PrintMore
attribute [local go_sem] max2_int min2_int max_two min_two max_three min_three max_four min_four   -- for this text's walks alone
set_option linter.unusedVariables false
set_option linter.unusedSimpArgs false

/-! ### impl_Around_near: function 111 -/
mutual
def impl_Around_near.l0 : Nat → List (List Int) → Int → Int → Int → Int → Bool → Bool → Int → Int → Option ((List (List Int)))
 | 0, _, _, _, _, _, _, _, _, _ => none
 | k + 1, x5, x18, x19, x1090000, x1090001, x1090002, x1090003, x1091000, x1091001 => if x19 < x18 then ((impl_Leaper_steps.f k x1091000 x1091001).bind fun t1094 => (impl_Around_near.l1 k x5 x19 x18 x19 t1094 (t1094.length : Int) 0 x1090000 x1090001 x1090002 x1090003 x1091000 x1091001)) else (some x5)
def impl_Around_near.l1 : Nat → List (List Int) → Int → Int → Int → List (List Int) → Int → Int → Int → Int → Bool → Bool → Int → Int → Option ((List (List Int)))
 | 0, _, _, _, _, _, _, _, _, _, _, _, _, _ => none
 | k + 1, x5, x6, x18, x19, x23, x24, x25, x1090000, x1090001, x1090002, x1090003, x1091000, x1091001 => if x25 < x24 then (if 0 ≤ x25 then (if x25 < (x23.length : Int) then (if 0 < ((rd_L1 x23 x25).length : Int) then (if 1 < ((rd_L1 x23 x25).length : Int) then ((impl_Around_step.f x1090000 x1090001 x1090002 x1090003 x6 (rd (rd_L1 x23 x25) 0) (rd (rd_L1 x23 x25) 1)).bind fun bt1102 => (if bt1102.2 = true then (if bt1102.1 = x6 then (impl_Around_near.l1 k x5 x6 x18 x19 x23 x24 (wrap64 (x25 + 1)) x1090000 x1090001 x1090002 x1090003 x1091000 x1091001) else (if 0 ≤ x6 then (if x6 < (x5.length : Int) then ((slices_Contains_int_int.f k (rd_L1 x5 x6) bt1102.1).bind fun t1105 => (if t1105 = true then (impl_Around_near.l1 k x5 x6 x18 x19 x23 x24 (wrap64 (x25 + 1)) x1090000 x1090001 x1090002 x1090003 x1091000 x1091001) else (if (rd_L1 x5 x6).length < 17592186044416 then (impl_Around_near.l1 k (x5.set (x6 : Int).toNat ((rd_L1 x5 x6) ++ [bt1102.1])) x6 x18 x19 x23 x24 (wrap64 (x25 + 1)) x1090000 x1090001 x1090002 x1090003 x1091000 x1091001) else (none)))) else (none)) else (none))) else (impl_Around_near.l1 k x5 x6 x18 x19 x23 x24 (wrap64 (x25 + 1)) x1090000 x1090001 x1090002 x1090003 x1091000 x1091001))) else (none)) else (none)) else (none)) else (none)) else (if 0 ≤ x6 then (if x6 < (x5.length : Int) then (if (rd_L1 x5 x6).length < 4611686018427387904 then (impl_Around_near.l0 k (x5.set (x6 : Int).toNat (sortL (rd_L1 x5 x6))) x18 (wrap64 (x19 + 1)) x1090000 x1090001 x1090002 x1090003 x1091000 x1091001) else (none)) else (none)) else (none))
end
def impl_Around_near.f (k : Nat) (a0_0 : Int) (a0_1 : Int) (a0_2 : Bool) (a0_3 : Bool) (a1_0 : Int) (a1_1 : Int) : Option ((List (List Int))) := if 0 ≤ (wrap64 (a0_0 * a0_1)) then (if (wrap64 (a0_0 * a0_1) : Int).toNat ≤ 11728124029610 then ((some (List.replicate (wrap64 (a0_0 * a0_1) : Int).toNat [] : List (List Int))).bind fun y1091 => (impl_Around_near.l0 k y1091 (y1091.length : Int) 0 a0_0 a0_1 a0_2 a0_3 a1_0 a1_1)) else (none)) else (none)
def impl_Around_near.T8 : Bool × List (List Nat × List Nat) := (true, [([], []), ([], []), ([], []), ([2], [2]), ([3], [3]), ([], []), ([5], [5]), ([6], [6]), ([0, 1, 4, 7], [0, 1, 4, 7]), ([8], [8]), ([9], [9]), ([9], [9]), ([10, 8, 0, 1, 2, 3, 4, 5, 6, 7, 8, 9, 10], [10]), ([11, 12, 0, 1, 2, 3, 4, 5, 6, 7, 8, 9, 10, 11, 12], [11])])
def impl_Around_near.B8 : List Nat := [0, 0, 0, 4, 12, 0, 32, 96, 255, 511, 1023, 1023, 2047, 8191]
theorem impl_Around_near.tab8 : rtab .any (opsOf Try.f111 8) = impl_Around_near.T8 := by kernel_rfl
theorem impl_Around_near.bits8 : waitsOk impl_Around_near.T8.2 impl_Around_near.B8 = true := by kernel_rfl
set_option maxHeartbeats 8000000 in
set_option maxRecDepth 100000 in
theorem impl_Around_near.calls (k : Nat) (a0_0 : Int) (a0_1 : Int) (a0_2 : Bool) (a0_3 : Bool) (a1_0 : Int) (a1_1 : Int) (r : List (List Int)) (w : World) (h : impl_Around_near.f k a0_0 a0_1 a0_2 a0_3 a1_0 a1_1 = some r) :
  Calls Try.prog 111 #[.agg #[.int .i64 a0_0, .int .i64 a0_1, .bool a0_2, .bool a0_3], .agg #[.int .i64 a1_0, .int .i64 a1_1]] w fun e w' => ∃ v0_ : Value, e = .returned (v0_) ∧ Kd.S (Kd.slice 3 (Kd.int .i64)) 22 w' w.heap.size (fun _ => True) v0_ r ∧ Below w.heap.size w w' := by
 have hu51 := Try.underlying51
 have hu32 := Try.underlying32
 have HB := Aside0.mk (Below.refl w.heap.size w)
 have H : (if 0 ≤ (wrap64 (a0_0 * a0_1)) then (if (wrap64 (a0_0 * a0_1) : Int).toNat ≤ 11728124029610 then ((some (List.replicate (wrap64 (a0_0 * a0_1) : Int).toNat [] : List (List Int))).bind fun y1091 => (impl_Around_near.l0 k y1091 (y1091.length : Int) 0 a0_0 a0_1 a0_2 a0_3 a1_0 a1_1)) else (none)) else (none)) = some r := h
 clear h
 obtain ⟨ji3, hji3⟩ : ∃ j_ : Int, (wrap64 (a0_0 * a0_1)) = j_ := ⟨_, rfl⟩
 replace H : (if 0 ≤ (ji3) then (if (ji3 : Int).toNat ≤ 11728124029610 then ((some (List.replicate (ji3 : Int).toNat [] : List (List Int))).bind fun y1091 => (impl_Around_near.l0 k y1091 (y1091.length : Int) 0 a0_0 a0_1 a0_2 a0_3 a1_0 a1_1)) else (none)) else (none)) = some r := by first | (rw [hji3] at H; exact H) | (simp only [hji3] at H ⊢; exact H)
 have hji3w : (IntKind.i64.wrap (a0_0 * a0_1)) = ji3 := (i64_w _).trans hji3
 by_cases c4 : 0 ≤ (ji3)
 ·rw [if_pos c4] at H
  have c4b0 := eq_true c4
  have c4b1 : decide (0 ≤ (ji3)) = true := decide_eq_true c4
  clear c4
  by_cases c5 : (ji3 : Int).toNat ≤ 11728124029610
  ·rw [if_pos c5] at H
   have c5b0 := eq_true c5
   have c5b1 : decide ((ji3 : Int).toNat ≤ 11728124029610) = true := decide_eq_true c5
   clear c5
   obtain ⟨y1091, hy1091⟩ : ∃ y_ : List (List Int), y_ = (List.replicate (ji3 : Int).toNat []) := ⟨_, rfl⟩
   replace H : (impl_Around_near.l0 k y1091 (y1091.length : Int) 0 a0_0 a0_1 a0_2 a0_3 a1_0 a1_1) = some r := by first | (rw [hy1091]; with_reducible exact H) | (have H2_ := (Option.bind_some _ _).symm.trans H; rw [hy1091]; with_reducible exact H2_) | (have H2_ := (Option.bind_some _ _).symm.trans H; with_reducible exact H2_) | with_reducible exact H | (rw [hy1091]; exact H) | exact H
   have Ny1091 := Aside0.mk hy1091
   clear hy1091
   have H' := Aside0.mk H
   clear H
   go_enter Try.func111, Try.ntmps111
   go_wp2_with (first | ((with_reducible refine gate_dst (N := 2) rfl ?_); refine box_event ?hg (N := 2) ?hd (cs := #[.int .i64 a0_0, .int .i64 a0_1, .bool a0_2, .bool a0_3]) (t := 51) ?hr ?_; (case hd => rfl); (case hg => rfl); (case hr => first | (go_simp; done) | (go_simp; rfl)); intro gb1089 hg w6 hbox hb; have n0_ := Aside0.mk (below_step (by repeat (first | (with_reducible first | exact HB.out | apply below_alloc | apply pw_below_drewN | apply below_drew1) | exact HB.out)) hb); have n1_ := Aside0.mk (hbox); have n2_ := Aside0.mk ((by rw [hg]; exact (below_size (by repeat (first | (with_reducible first | exact HB.out | apply below_alloc | apply pw_below_drewN | apply below_drew1) | exact HB.out))) : w.heap.size ≤ gb1089)); have n3_ := Aside0.mk ((by rw [hg]; exact (below_size (by repeat (first | (with_reducible first | exact HB.out | apply below_alloc | apply pw_below_drewN | apply below_drew1) | exact HB.out))) : w.heap.size ≤ gb1089)); clear HB; have HB := n0_; have BK1089 := n1_; have GW1089 := n2_; have GE1089 := n3_; clear n0_ n1_ n2_ n3_; clear hb hbox hg) | ((with_reducible refine gate_dst (N := 3) rfl ?_); refine box_event ?hg (N := 3) ?hd (cs := #[.int .i64 a1_0, .int .i64 a1_1]) (t := 32) ?hr ?_; (case hd => rfl); (case hg => rfl); (case hr => first | (go_simp; done) | (go_simp; rfl)); intro gb1090 hg w7 hbox hb; have n0_ := Aside0.mk (blk_below (g := gb1089) (o := .cells #[.int .i64 a0_0, .int .i64 a0_1, .bool a0_2, .bool a0_3] 51 (0, 0)) (by (with_reducible repeat (first | refine blk_drewN ?_ _ | refine blk_drew ?_ | refine blk_alloc ?_ _)); exact BK1089.out) hb); have n1_ := Aside0.mk (below_step (by repeat (first | (with_reducible first | exact HB.out | apply below_alloc | apply pw_below_drewN | apply below_drew1 | refine below_set ?_ GE1089.out) | exact HB.out)) hb); have n2_ := Aside0.mk (hbox); have n3_ := Aside0.mk ((by rw [hg]; exact (below_size (by repeat (first | (with_reducible first | exact HB.out | apply below_alloc | apply pw_below_drewN | apply below_drew1 | refine below_set ?_ GE1089.out) | exact HB.out))) : w.heap.size ≤ gb1090)); have n4_ := Aside0.mk ((by rw [hg]; exact (below_size (by repeat (first | (with_reducible first | exact HB.out | apply below_alloc | apply pw_below_drewN | apply below_drew1 | refine below_set ?_ GE1089.out) | exact HB.out))) : w.heap.size ≤ gb1090)); have n5_ := Aside0.mk ((by rw [hg]; exact Nat.ne_of_lt (blk_lt (g := gb1089) (o := .cells #[.int .i64 a0_0, .int .i64 a0_1, .bool a0_2, .bool a0_3] 51 (0, 0)) (by (with_reducible repeat (first | refine blk_drewN ?_ _ | refine blk_drew ?_ | refine blk_alloc ?_ _)); exact BK1089.out)) : gb1089 ≠ gb1090)); have n6_ := Aside0.mk ((by rw [hg]; exact Nat.ne_of_gt (blk_lt (g := gb1089) (o := .cells #[.int .i64 a0_0, .int .i64 a0_1, .bool a0_2, .bool a0_3] 51 (0, 0)) (by (with_reducible repeat (first | refine blk_drewN ?_ _ | refine blk_drew ?_ | refine blk_alloc ?_ _)); exact BK1089.out)) : gb1090 ≠ gb1089)); clear BK1089; clear HB; have BK1089 := n0_; have HB := n1_; have BK1090 := n2_; have GW1090 := n3_; have GE1090 := n4_; have NB1089_1090 := n5_; have NB1090_1089 := n6_; clear n0_ n1_ n2_ n3_ n4_ n5_ n6_; clear hb hbox hg; have hnb8 := NB1089_1090.out; have hnc8 := NB1090_1089.out; have hcz9_0 : w7.cell? ⟨gb1089, 0, none⟩ = some (.int .i64 a0_0) := (blk_cell BK1089.out 0).trans rfl; have hcz9_1 : w7.cell? ⟨gb1089, 1, none⟩ = some (.int .i64 a0_1) := (blk_cell BK1089.out 1).trans rfl; have hcz9_2 : w7.cell? ⟨gb1089, 2, none⟩ = some (.bool a0_2) := (blk_cell BK1089.out 2).trans rfl; have hcz9_3 : w7.cell? ⟨gb1089, 3, none⟩ = some (.bool a0_3) := (blk_cell BK1089.out 3).trans rfl; have hfz9_0 := blk_frozen BK1089.out 0; have hfz9_1 := blk_frozen BK1089.out 1; have hfz9_2 := blk_frozen BK1089.out 2; have hfz9_3 := blk_frozen BK1089.out 3) | ((with_reducible refine gate_dst (N := 16) rfl ?_); refine Kd.S_make (Kd.slice 3 (Kd.int .i64)) _ 22 rfl (N := 16) rfl 63 _ _ rfl ji3 rfl rfl Try.underlying63 (.slice none 0 0) 24 info22 rfl (by decide) (by omega) [] (ok := fun _ => True) (okp := fun _ => True) ⟨_, rfl, Kd.R_nil _ _ _ _ _⟩ (fun _ hk => hk) trivial (of_decide_eq_true (by first | (with_reducible assumption) | assumption)) (Nat.le_trans (Nat.mul_le_mul_right _ (of_decide_eq_true (by first | (with_reducible assumption) | assumption) : ji3.toNat ≤ 11728124029610)) (by omega)) (Below.refl _ _) (Nat.le_refl _) ?_; intro v1092 w10 ho11 hb hg_ hnew_; clear hg_ hnew_; (first | rw [← Ny1091.out] at ho11 | (simp only [Int.reduceToNat] at ho11; rw [← Ny1091.out] at ho11)); have n0_ := Aside0.mk (Kd.S_lower ho11 (below_size (by repeat (first | (with_reducible first | exact HB.out | apply below_alloc | apply pw_below_drewN | apply below_drew1 | refine below_set ?_ GE1089.out | refine below_set ?_ GE1090.out) | exact HB.out)))); have n1_ := Aside0.mk (blk_below (g := gb1089) (o := .cells #[.int .i64 a0_0, .int .i64 a0_1, .bool a0_2, .bool a0_3] 51 (0, 0)) (by (with_reducible repeat (first | refine blk_drewN ?_ _ | refine blk_drew ?_ | refine blk_alloc ?_ _)); exact BK1089.out) hb); have n2_ := Aside0.mk (blk_below (g := gb1090) (o := .cells #[.int .i64 a1_0, .int .i64 a1_1] 32 (0, 0)) (by (with_reducible repeat (first | refine blk_drewN ?_ _ | refine blk_drew ?_ | refine blk_alloc ?_ _)); exact BK1090.out) hb); have n3_ := Aside0.mk (below_step (by repeat (first | (with_reducible first | exact HB.out | apply below_alloc | apply pw_below_drewN | apply below_drew1 | refine below_set ?_ GE1089.out | refine below_set ?_ GE1090.out) | exact HB.out)) hb); clear BK1089; clear BK1090; clear HB; have HO1093 := n0_; have BK1089 := n1_; have BK1090 := n2_; have HB := n3_; clear n0_ n1_ n2_ n3_; clear hb ho11; obtain ⟨Ao12, co12, eo12⟩ := Kd.S_slice HO1093.out; subst eo12))
   go_loopg [19] k (fun kq v19 w' => ∃ (x5_1 : List (List Int)) (x19_1 : Int), v19 = .int .i64 x19_1 ∧ Aside0 (impl_Around_near.l0 kq x5_1 (y1091.length : Int) x19_1 a0_0 a0_1 a0_2 a0_3 a1_0 a1_1 = some r) ∧ Aside0 (kq ≤ k) ∧ Aside0 (Kd.S (Kd.slice 3 (Kd.int .i64)) 22 w' w.heap.size (fun _ => True) (.slice Ao12 y1091.length co12) x5_1) ∧ Aside0 (w'.heap[gb1089]? = some (.cells #[.int .i64 a0_0, .int .i64 a0_1, .bool a0_2, .bool a0_3] 51 (0, 0))) ∧ Aside0 (w'.heap[gb1090]? = some (.cells #[.int .i64 a1_0, .int .i64 a1_1] 32 (0, 0))) ∧ Aside0 (Below w.heap.size w w'))
   case atStart => exact ⟨(y1091), (0), (by first | rfl | (simp; done) | (simp [*]; done)), H', ⟨Nat.le_refl _⟩, ⟨by (with_reducible repeat (first | apply Kd.S_alloc | apply Kd.S_drewN | apply Kd.S_drew)); exact HO1093.out⟩, ⟨by (with_reducible repeat (first | refine blk_drewN ?_ _ | refine blk_drew ?_ | refine blk_alloc ?_ _)); exact BK1089.out⟩, ⟨by (with_reducible repeat (first | refine blk_drewN ?_ _ | refine blk_drew ?_ | refine blk_alloc ?_ _)); exact BK1090.out⟩, ⟨by repeat (first | (with_reducible first | exact HB.out | apply below_alloc | apply pw_below_drewN | apply below_drew1 | refine below_set ?_ GE1089.out | refine below_set ?_ GE1090.out) | exact HB.out)⟩⟩
   case round =>
    clear H'
    try clear c1; try clear p2; try clear c4; try clear c4b0; try clear c4b1; try clear c5; try clear c5b0; try clear c5b1; try clear p6; try clear c8; try clear c11; try clear hcz9_0; try clear hcz9_1; try clear hcz9_2; try clear hcz9_3; try clear hfz9_0; try clear hfz9_1; try clear hfz9_2; try clear hfz9_3
    obtain ⟨x5_1, x19_1, rfl, HA, HK1, HO_5, BK1089, BK1090, HB⟩ := hrel
    have hl5_1 := (Kd.S_reads' HO_5.out).1
    rw [hl5_1] at HO_5
    (try simp only [hl5_1])
    (try simp only [hl5_1] at BK1089)
    (try simp only [hl5_1] at BK1090)
    cases gk with
    | zero => exact absurd HA.out (by simp [impl_Around_near.l0])
    | succ k1 =>
     have H := HA.out
     clear HA
     simp only [impl_Around_near.l0] at H
     by_cases c13 : x19_1 < (y1091.length : Int)
     ·rw [if_pos c13] at H
      have c13b0 : decide (x19_1 < (y1091.length : Int)) = true := decide_eq_true c13
      have c13b8 := c13b0
      (try simp only [hl5_1] at c13b8)
      clear c13
      replace H := Option.bind_eq_some_iff.mp H
      obtain ⟨t1094, A140, H⟩ := H
      replace H : (impl_Around_near.l1 k1 x5_1 x19_1 (y1091.length : Int) x19_1 t1094 (t1094.length : Int) 0 a0_0 a0_1 a0_2 a0_3 a1_0 a1_1) = some r := H
      have A14 := Aside0.mk A140
      clear A140
      have H' := Aside0.mk H
      clear H
      have hnb15 := NB1090_1089.out
      have hnc15 := NB1089_1090.out
      have hcz16_0 : wr.cell? ⟨gb1090, 0, none⟩ = some (.int .i64 a1_0) := (blk_cell BK1090.out 0).trans rfl
      have hcz16_1 : wr.cell? ⟨gb1090, 1, none⟩ = some (.int .i64 a1_1) := (blk_cell BK1090.out 1).trans rfl
      have hfz16_0 := blk_frozen BK1090.out 0
      have hfz16_1 := blk_frozen BK1090.out 1
      go_wp2_with (first | ((with_reducible refine gate_callee (f := 97) rfl ?_); refine goesL_ (some 23) rfl rfl Try.func97 (by kernel_rfl) rfl #[.agg #[.int .i64 a1_0, .int .i64 a1_1]] rfl (by (try simp only [List.map_toArray, List.map_cons, List.map_nil]); first | done | rfl | (simp only [List.length_drop, List.length_take]; rfl)) ?_; (with_reducible refine (impl_Leaper_steps.calls k1 a1_0 a1_1 t1094 _ A14.out).mono ?_); rintro e w17 ⟨v1095, rfl, ho0, hb⟩; refine ⟨_, rfl, ?_⟩; obtain ⟨na1113_, nb1113_, hna_, hnb_⟩ := rng_of hb; replace ho0 := rng_new ho0 hna_ hnb_; have n0_ := Aside0.mk (Kd.S_elder' (Kd.S_mono (Kd.S_bound (by (with_reducible repeat (first | apply Kd.S_alloc | apply Kd.S_drewN | apply Kd.S_drew)); exact HO_5.out)) (fun k_ hk_ => (⟨hk_.1, rng_lt hna_ hk_.2.2.1⟩ : _ ∧ k_ ≠ (rngIn na1113_ nb1113_ k_)))) (Kd.S_base ho0) hb); have n1_ := Aside0.mk (Kd.S_lower (Kd.S_new' ho0 (Kd.S_lt (by (with_reducible repeat (first | apply Kd.S_alloc | apply Kd.S_drewN | apply Kd.S_drew)); exact HO_5.out))) (below_size (by repeat (first | (with_reducible first | exact HB.out | apply below_alloc | apply pw_below_drewN | apply below_drew1 | refine below_set ?_ GE1089.out | refine below_set ?_ GE1090.out) | exact HB.out)))); have n2_ := Aside0.mk (blk_below (g := gb1089) (o := .cells #[.int .i64 a0_0, .int .i64 a0_1, .bool a0_2, .bool a0_3] 51 (0, 0)) (by (with_reducible repeat (first | refine blk_drewN ?_ _ | refine blk_drew ?_ | refine blk_alloc ?_ _)); exact BK1089.out) hb); have n3_ := Aside0.mk (blk_below (g := gb1090) (o := .cells #[.int .i64 a1_0, .int .i64 a1_1] 32 (0, 0)) (by (with_reducible repeat (first | refine blk_drewN ?_ _ | refine blk_drew ?_ | refine blk_alloc ?_ _)); exact BK1090.out) hb); have n4_ := Aside0.mk ((Nat.le_of_eq hnb_.symm : nb1113_ ≤ w17.heap.size)); have n5_ := Aside0.mk (below_step (by repeat (first | (with_reducible first | exact HB.out | apply below_alloc | apply pw_below_drewN | apply below_drew1 | refine below_set ?_ GE1089.out | refine below_set ?_ GE1090.out) | exact HB.out)) hb); clear HO_5; clear BK1089; clear BK1090; clear HB; have HO_5 := n0_; have HO1096 := n1_; have BK1089 := n2_; have BK1090 := n3_; have HNB1113 := n4_; have HB := n5_; clear n0_ n1_ n2_ n3_ n4_ n5_; (try clear hb); (try clear hb2); (try clear hk); (try clear hi); (try clear ho0); (try clear hna_); (try clear hnb_); obtain ⟨Ao18, co18, eo18⟩ := Kd.S_slice HO1096.out; subst eo18))
      go_loopg [25] k1 (fun kq v25 w' => ∃ (x5_2 : List (List Int)) (x25_2 : Int), v25 = .int .i64 x25_2 ∧ Aside0 (impl_Around_near.l1 kq x5_2 x19_1 (y1091.length : Int) x19_1 t1094 (t1094.length : Int) x25_2 a0_0 a0_1 a0_2 a0_3 a1_0 a1_1 = some r) ∧ Aside0 (kq ≤ k1) ∧ Aside0 (Kd.S (Kd.slice 3 (Kd.int .i64)) 22 w' w.heap.size (fun k_ => some k_ ≠ ((.slice Ao18 t1094.length co18) : Value).ownBlock ∧ k_ ≠ (rngIn na1113_ nb1113_ k_)) (.slice Ao12 x5_1.length co12) x5_2) ∧ Aside0 (Kd.S (Kd.slice 3 (Kd.int .i64)) 22 w' w.heap.size (fun k_ => some k_ ≠ ((.slice Ao12 x5_1.length co12) : Value).ownBlock ∧ k_ ≠ (rngOut na1113_ nb1113_ k_)) (.slice Ao18 t1094.length co18) t1094) ∧ Aside0 (w'.heap[gb1089]? = some (.cells #[.int .i64 a0_0, .int .i64 a0_1, .bool a0_2, .bool a0_3] 51 (0, 0))) ∧ Aside0 (w'.heap[gb1090]? = some (.cells #[.int .i64 a1_0, .int .i64 a1_1] 32 (0, 0))) ∧ Aside0 (nb1113_ ≤ w'.heap.size) ∧ Aside0 (Below w.heap.size w w'))
      case atStart => exact ⟨(x5_1), (0), (by first | rfl | (simp; done) | (simp [*]; done)), H', ⟨Nat.le_refl _⟩, ⟨by (try simp only [hl5_1]); (with_reducible repeat (first | apply Kd.S_alloc | apply Kd.S_drewN | apply Kd.S_drew)); exact Kd.S_mono HO_5.out (fun _ hk => ⟨hk.2, hk.1.2⟩)⟩, ⟨by (try simp only [hl5_1]); (with_reducible repeat (first | apply Kd.S_alloc | apply Kd.S_drewN | apply Kd.S_drew)); exact Kd.S_mono HO1096.out (fun _ hk => ⟨hk.2, hk.1.2⟩)⟩, ⟨by (try simp only [hl5_1]); (with_reducible repeat (first | refine blk_drewN ?_ _ | refine blk_drew ?_ | refine blk_alloc ?_ _)); exact BK1089.out⟩, ⟨by (try simp only [hl5_1]); (with_reducible repeat (first | refine blk_drewN ?_ _ | refine blk_drew ?_ | refine blk_alloc ?_ _)); exact BK1090.out⟩, ⟨(by first | exact HNB1113.out | exact Nat.le_trans HNB1113.out (by simp))⟩, ⟨by repeat (first | (with_reducible first | exact HB.out | apply below_alloc | apply pw_below_drewN | apply below_drew1 | refine below_set ?_ GE1089.out | refine below_set ?_ GE1090.out) | exact HB.out)⟩⟩
      case round =>
       clear H'
       try clear c1; try clear p2; try clear c4; try clear c4b0; try clear c4b1; try clear c5; try clear c5b0; try clear c5b1; try clear p6; try clear c8; try clear c9; try clear c11; try clear c13; try clear c13b0; try clear c13b8; try clear c15; try clear hcz16_0; try clear hcz16_1; try clear hcz9_0; try clear hcz9_1; try clear hcz9_2; try clear hcz9_3; try clear hfz16_0; try clear hfz16_1; try clear hfz9_0; try clear hfz9_1; try clear hfz9_2; try clear hfz9_3; try clear p2; try clear p6
       obtain ⟨x5_2, x25_2, rfl, HA, HK2, HO_5, HO_23, BK1089, BK1090, HNB1113, HB⟩ := hrel
       have hl5_2 := (Kd.S_reads' HO_5.out).1
       rw [hl5_2] at HO_5
       (try simp only [hl5_2])
       (try simp only [hl5_2] at BK1089)
       (try simp only [hl5_2] at BK1090)
       (try simp only [hl5_2] at HO_23)
       cases gk with
       | zero => exact absurd HA.out (by simp [impl_Around_near.l1])
       | succ k2 =>
        have H := HA.out
        clear HA
        simp only [impl_Around_near.l1] at H
        by_cases c19 : x25_2 < (t1094.length : Int)
        ·rw [if_pos c19] at H
         have c19b0 : decide (x25_2 < (t1094.length : Int)) = true := decide_eq_true c19
         have c19b8 := c19b0
         (try simp only [hl5_1, hl5_2] at c19b8)
         clear c19
         by_cases c20 : 0 ≤ x25_2
         ·rw [if_pos c20] at H
          have c20b0 : decide (0 ≤ x25_2) = true := decide_eq_true c20
          clear c20
          by_cases c21 : x25_2 < (t1094.length : Int)
          ·rw [if_pos c21] at H
           have c21b0 : decide (x25_2 < (t1094.length : Int)) = true := decide_eq_true c21
           have c21b8 := c21b0
           (try simp only [hl5_1, hl5_2] at c21b8)
           clear c21
           by_cases c22 : 0 < ((rd_L1 t1094 x25_2).length : Int)
           ·rw [if_pos c22] at H
            have c22b0 : decide (0 < ((rd_L1 t1094 x25_2).length : Int)) = true := decide_eq_true c22
            have c22b8 := c22b0
            (try simp only [hl5_1, hl5_2] at c22b8)
            have c22b1 : decide (0 < (rd_L1 t1094 x25_2).length) = true := decide_eq_true (by omega)
            have c22b9 := c22b1
            (try simp only [hl5_1, hl5_2] at c22b9)
            clear c22
            by_cases c23 : 1 < ((rd_L1 t1094 x25_2).length : Int)
            ·rw [if_pos c23] at H
             have c23b0 : decide (1 < ((rd_L1 t1094 x25_2).length : Int)) = true := decide_eq_true c23
             have c23b8 := c23b0
             (try simp only [hl5_1, hl5_2] at c23b8)
             have c23b1 : decide (1 < (rd_L1 t1094 x25_2).length) = true := decide_eq_true (by omega)
             have c23b9 := c23b1
             (try simp only [hl5_1, hl5_2] at c23b9)
             clear c23
             replace H := Option.bind_eq_some_iff.mp H
             obtain ⟨⟨t1102, t1103⟩, A240, H⟩ := H
             replace H : (if t1103 = true then (if t1102 = x19_1 then (impl_Around_near.l1 k2 x5_2 x19_1 (y1091.length : Int) x19_1 t1094 (t1094.length : Int) (wrap64 (x25_2 + 1)) a0_0 a0_1 a0_2 a0_3 a1_0 a1_1) else (if 0 ≤ x19_1 then (if x19_1 < (x5_2.length : Int) then ((slices_Contains_int_int.f k2 (rd_L1 x5_2 x19_1) t1102).bind fun t1105 => (if t1105 = true then (impl_Around_near.l1 k2 x5_2 x19_1 (y1091.length : Int) x19_1 t1094 (t1094.length : Int) (wrap64 (x25_2 + 1)) a0_0 a0_1 a0_2 a0_3 a1_0 a1_1) else (if (rd_L1 x5_2 x19_1).length < 17592186044416 then (impl_Around_near.l1 k2 (x5_2.set (x19_1 : Int).toNat ((rd_L1 x5_2 x19_1) ++ [t1102])) x19_1 (y1091.length : Int) x19_1 t1094 (t1094.length : Int) (wrap64 (x25_2 + 1)) a0_0 a0_1 a0_2 a0_3 a1_0 a1_1) else (none)))) else (none)) else (none))) else (impl_Around_near.l1 k2 x5_2 x19_1 (y1091.length : Int) x19_1 t1094 (t1094.length : Int) (wrap64 (x25_2 + 1)) a0_0 a0_1 a0_2 a0_3 a1_0 a1_1)) = some r := H
             have A24 := Aside0.mk A240
             clear A240
             by_cases c25 : t1103 = true
             ·subst c25
              have H1 : (if t1102 = x19_1 then (impl_Around_near.l1 k2 x5_2 x19_1 (y1091.length : Int) x19_1 t1094 (t1094.length : Int) (wrap64 (x25_2 + 1)) a0_0 a0_1 a0_2 a0_3 a1_0 a1_1) else (if 0 ≤ x19_1 then (if x19_1 < (x5_2.length : Int) then ((slices_Contains_int_int.f k2 (rd_L1 x5_2 x19_1) t1102).bind fun t1105 => (if t1105 = true then (impl_Around_near.l1 k2 x5_2 x19_1 (y1091.length : Int) x19_1 t1094 (t1094.length : Int) (wrap64 (x25_2 + 1)) a0_0 a0_1 a0_2 a0_3 a1_0 a1_1) else (if (rd_L1 x5_2 x19_1).length < 17592186044416 then (impl_Around_near.l1 k2 (x5_2.set (x19_1 : Int).toNat ((rd_L1 x5_2 x19_1) ++ [t1102])) x19_1 (y1091.length : Int) x19_1 t1094 (t1094.length : Int) (wrap64 (x25_2 + 1)) a0_0 a0_1 a0_2 a0_3 a1_0 a1_1) else (none)))) else (none)) else (none))) = some r := by rw [if_pos rfl] at H; exact H
              clear H
              have H := H1
              clear H1
              by_cases c26 : t1102 = x19_1
              ·rw [if_pos c26] at H
               have c26b0 : (t1102 == x19_1) = true := beq_iff_eq.mpr c26
               have c26b1 : (t1102 != x19_1) = false := bne_eq_false_iff_eq.mpr c26
               clear c26
               have H' := Aside0.mk H
               clear H
               have p1099 : 0 ≤ (x25_2 : Int) := of_decide_eq_true (by first | (with_reducible assumption) | assumption)
               have q1099 : x25_2 < (t1094.length : Int) := of_decide_eq_true (by first | (with_reducible assumption) | assumption)
               obtain ⟨ad1099, A1099_0, c1099_0, e1099, hx1099_0, hl1099_0, hi1099_0⟩ := at_L1 (Kd.S_reads' HO_23.out).2.2 x25_2 p1099 q1099
               cases e1099
               obtain ⟨ce1099, hce1099, hMe1099, hcc1099⟩ := Kd.S_get HO_23.out [] x25_2 p1099 (by first | exact q1099 | exact of_decide_eq_true (by first | (with_reducible assumption) | assumption) | (have e_ := (Kd.S_reads' HO_23.out).1; omega))
               obtain ⟨ve1099_0, rfl, ge1099_0⟩ := hMe1099
               have hv1099_0 := hcc1099 0 _ rfl
               rw [Nat.add_zero, show ((Kd.slice 3 (Kd.int .i64))).sz = 1 from rfl, Nat.mul_one] at hv1099_0
               replace hv1099_0 := Option.some.inj (hv1099_0.symm.trans hx1099_0)
               rw [hv1099_0] at ge1099_0
               have HL1099_0 := Aside0.mk (show Kd.R (Kd.int .i64) 3 _ _ _ _ (rd_L1 t1094 x25_2) from ge1099_0)
               clear hv1099_0 ge1099_0
               have HX1099_0 := Aside0.mk hx1099_0
               clear hcc1099 hce1099
               have HR1099_0 := Aside0.mk hi1099_0
               have HC1099_0 := Aside0.mk hl1099_0
               clear hi1099_0 hl1099_0
               replace p1099 := eq_true p1099
               replace q1099 := eq_true q1099
               try go_wp2
               have n0_ := Aside0.mk (Kd.S_drew HO_5.out)
               have n1_ := Aside0.mk (Kd.S_drew HO_23.out)
               have n2_ := Aside0.mk (Kd.R_drew HL1099_0.out)
               have n3_ := Aside0.mk (blk_drew BK1089.out)
               have n4_ := Aside0.mk (blk_drew BK1090.out)
               have n5_ := Aside0.mk (Kd.C_drew HR1099_0.out)
               have n6_ := Aside0.mk (below_drew1 HB.out)
               have n7_ := Aside0.mk (show nb1113_ ≤ (wr.drew).heap.size from (by first | exact HNB1113.out | exact Nat.le_trans HNB1113.out (by simp)))
               clear HO_5
               clear HO_23
               clear HL1099_0
               clear BK1089
               clear BK1090
               clear HR1099_0
               clear HB
               clear HNB1113
               have HO_5 := n0_
               have HO_23 := n1_
               have HL1099_0 := n2_
               have BK1089 := n3_
               have BK1090 := n4_
               have HR1099_0 := n5_
               have HB := n6_
               have HNB1113 := n7_
               clear n0_ n1_ n2_ n3_ n4_ n5_ n6_ n7_
               have p1100 : 0 ≤ (0 : Int) := (by omega)
               have q1100 : 0 < ((rd_L1 t1094 x25_2).length : Int) := of_decide_eq_true (by first | (with_reducible assumption) | assumption)
               obtain ⟨ad1100, e1100, hx1100_0⟩ := Kd.at_int (by repeat (first | (with_reducible exact HR1099_0.out) | (with_reducible refine Kd.C_alloc ?_ _) | (with_reducible refine Kd.C_drewN ?_ _) | (with_reducible refine Kd.C_drew ?_) | exact HR1099_0.out)) 0 p1100 q1100
               cases e1100
               have qi1100 : (0 < (rd_L1 t1094 x25_2).length) = True := eq_true (by omega)
               (try rw [show ((0 : Int)).toNat = 0 from rfl] at hx1100_0)
               (try rw [Addr.add_zero'] at hx1100_0)
               replace p1100 := eq_true p1100
               replace q1100 := eq_true q1100
               have p1101 : 0 ≤ (1 : Int) := (by omega)
               have q1101 : 1 < ((rd_L1 t1094 x25_2).length : Int) := of_decide_eq_true (by first | (with_reducible assumption) | assumption)
               obtain ⟨ad1101, e1101, hx1101_0⟩ := Kd.at_int (by repeat (first | (with_reducible exact HR1099_0.out) | (with_reducible refine Kd.C_alloc ?_ _) | (with_reducible refine Kd.C_drewN ?_ _) | (with_reducible refine Kd.C_drew ?_) | exact HR1099_0.out)) 1 p1101 q1101
               obtain rfl : ad1100 = ad1101 := (by injection e1101)
               (try simp only [show (1 : Int).toNat = 1 from rfl, Nat.reduceMul, Nat.reduceEqDiff, Go.Addr.add, ↓reduceIte] at hx1101_0)
               have qi1101 : (1 < (rd_L1 t1094 x25_2).length) = True := eq_true (by omega)
               (try rw [show ((1 : Int)).toNat = 1 from rfl] at hx1101_0)
               replace p1101 := eq_true p1101
               replace q1101 := eq_true q1101
               refine start_ (n := 14) (S := fun w' => w'.cell? ⟨gb1089, 0, none⟩ = some (.int .i64 a0_0) ∧ w'.cell? ⟨gb1089, 1, none⟩ = some (.int .i64 a0_1) ∧ w'.cell? ⟨gb1089, 2, none⟩ = some (.bool a0_2) ∧ w'.cell? ⟨gb1089, 3, none⟩ = some (.bool a0_3) ∧ w'.cell? ad1100 = some (.int .i64 (rd (rd_L1 t1094 x25_2) 0)) ∧ w'.cell? ⟨ad1100.block, ad1100.off + 1, none⟩ = some (.int .i64 (rd (rd_L1 t1094 x25_2) 1))) (ds := []) #[false, false, false, false, false, false, false, false, false, false, false, false, false, false] (by kernel_rfl) rfl rfl ⟨(blk_cell BK1089.out 0).trans rfl, (blk_cell BK1089.out 1).trans rfl, (blk_cell BK1089.out 2).trans rfl, (blk_cell BK1089.out 3).trans rfl, hx1100_0, hx1101_0⟩ (fun hHeld => ?_); refine with_tabW impl_Around_near.tab8 impl_Around_near.bits8 (fun HT_ HW_ => ?_)
               generalize wr.drew = w27 at HO_5 HO_23 HL1099_0 BK1089 BK1090 HR1099_0 HNB1113 HB hx1100_0 hx1101_0 hHeld ⊢
               refine pure_ (i := 1) (N := some 31) (v := ?_) (a' := ?_) #[false, true, false, false, false, false, false, false, false, false, false, false, false, false] rfl rfl (any_of HT_.out (by kernel_rfl)) (fun _ _ _ h => h) (Or.inl ⟨by rfl, ?_⟩) ?_ ?_
               rotate_left
               ·intro w'
                go_simp
                with_reducible rfl
               rotate_left
               ·simp only [Act.put, List.setIfInBounds_toArray, List.set_cons_zero, List.set_cons_succ, i64_w, i32_w]
                rfl
               refine pure_ (i := 2) (N := some 32) (v := ?_) (a' := ?_) #[false, true, true, false, false, false, false, false, false, false, false, false, false, false] rfl rfl (any_of HT_.out (by kernel_rfl)) (fun _ _ _ h => h) (Or.inl ⟨by rfl, ?_⟩) ?_ ?_
               rotate_left
               ·intro w'
                go_simp
                with_reducible rfl
               rotate_left
               ·simp only [Act.put, List.setIfInBounds_toArray, List.set_cons_zero, List.set_cons_succ, i64_w, i32_w]
                rfl
               refine pure_ (i := 3) (N := some 33) (v := ?_) (a' := ?_) #[false, true, true, true, false, false, false, false, false, false, false, false, false, false] rfl rfl (any_of HT_.out (by kernel_rfl)) (fun _ _ _ h => h) (Or.inl ⟨by rfl, ?_⟩) ?_ ?_
               rotate_left
               ·intro w'
                go_simp
                with_reducible rfl
               rotate_left
               ·simp only [Act.put, List.setIfInBounds_toArray, List.set_cons_zero, List.set_cons_succ, i64_w, i32_w]
                rfl
               refine pure_ (i := 5) (N := some 35) (v := ?_) (a' := ?_) #[false, true, true, true, false, true, false, false, false, false, false, false, false, false] rfl rfl (any_of HT_.out (by kernel_rfl)) (fun _ _ _ h => h) (Or.inl ⟨by rfl, ?_⟩) ?_ ?_
               rotate_left
               ·intro w'
                go_simp
                with_reducible rfl
               rotate_left
               ·simp only [Act.put, List.setIfInBounds_toArray, List.set_cons_zero, List.set_cons_succ, i64_w, i32_w]
                rfl
               refine pure_ (i := 6) (N := some 36) (v := ?_) (a' := ?_) #[false, true, true, true, false, true, true, false, false, false, false, false, false, false] rfl rfl (any_of HT_.out (by kernel_rfl)) (fun _ _ _ h => h) (Or.inl ⟨by rfl, ?_⟩) ?_ ?_
               rotate_left
               ·intro w'
                go_simp
                with_reducible rfl
               rotate_left
               ·simp only [Act.put, List.setIfInBounds_toArray, List.set_cons_zero, List.set_cons_succ, i64_w, i32_w]
                rfl
               refine take_ (i := 0) (N := some 30) (v := ?_) (a' := ?_) #[true, true, true, true, false, true, true, false, false, false, false, false, false, false] rfl rfl (take_ofW HT_.out HW_.out (by kernel_rfl)) (fun _ _ _ h => h) (Or.inl ⟨by rfl, ?_⟩) hHeld ?_ ?_
               rotate_left
               ·rintro w' ⟨s0, s1, s2, s3, s4, s5⟩
                go_simp
                with_reducible rfl
               rotate_left
               ·simp only [Act.put, List.setIfInBounds_toArray, List.set_cons_zero, List.set_cons_succ, i64_w, i32_w]
                rfl
               refine take_ (i := 4) (N := some 34) (v := ?_) (a' := ?_) #[true, true, true, true, true, true, true, false, false, false, false, false, false, false] rfl rfl (take_ofW HT_.out HW_.out (by kernel_rfl)) (fun _ _ _ h => h) (Or.inl ⟨by rfl, ?_⟩) hHeld ?_ ?_
               rotate_left
               ·rintro w' ⟨s0, s1, s2, s3, s4, s5⟩
                go_simp
                with_reducible rfl
               rotate_left
               ·simp only [Act.put, List.setIfInBounds_toArray, List.set_cons_zero, List.set_cons_succ, i64_w, i32_w]
                rfl
               refine take_ (i := 7) (N := some 37) (v := ?_) (a' := ?_) #[true, true, true, true, true, true, true, true, false, false, false, false, false, false] rfl rfl (take_ofW HT_.out HW_.out (by kernel_rfl)) (fun _ _ _ h => h) (Or.inl ⟨by rfl, ?_⟩) hHeld ?_ ?_
               rotate_left
               ·rintro w' ⟨s0, s1, s2, s3, s4, s5⟩
                go_simp
                with_reducible rfl
               rotate_left
               ·simp only [Act.put, List.setIfInBounds_toArray, List.set_cons_zero, List.set_cons_succ, i64_w, i32_w]
                rfl
               refine one_ (i := 8) (N := some 38) #[true, true, true, true, true, true, true, true, true, false, false, false, false, false] rfl rfl (one_of HT_.out (by kernel_rfl)) (by decide) (fun K hK => ?_)
               refine goes_ Try.func127 (by kernel_rfl) rfl #[.agg #[.int .i64 a0_0, .int .i64 a0_1, .bool a0_2, .bool a0_3], .int .i64 x19_1, .int .i64 (rd (rd_L1 t1094 x25_2) 0), .int .i64 (rd (rd_L1 t1094 x25_2) 1)] (by rfl) rfl rfl (by (try simp only [List.map_toArray, List.map_cons, List.map_nil]); first | done | rfl | (simp only [List.length_drop, List.length_take]; rfl)) ?_
               with_reducible refine (impl_Around_step.calls a0_0 a0_1 a0_2 a0_3 x19_1 (rd (rd_L1 t1094 x25_2) 0) (rd (rd_L1 t1094 x25_2) 1) t1102 true _ A24.out).mono ?_
               rintro e w28 ⟨rfl, hb⟩
               have HS4_ := (hb.cell (World.block_lt_of_cell? _ _ (hHeld.2.2.2.2.1))).trans (hHeld.2.2.2.2.1)
               have HS5_ := (hb.cell (World.block_lt_of_cell? _ _ (hHeld.2.2.2.2.2))).trans (hHeld.2.2.2.2.2)
               refine ⟨_, rfl, ?_⟩
               have n0_ := Aside0.mk (Kd.S_below (by (with_reducible repeat (first | apply Kd.S_alloc | apply Kd.S_drewN | apply Kd.S_drew)); exact HO_5.out) hb)
               have n1_ := Aside0.mk (Kd.S_below (by (with_reducible repeat (first | apply Kd.S_alloc | apply Kd.S_drewN | apply Kd.S_drew)); exact HO_23.out) hb)
               have n2_ := Aside0.mk (Kd.R_below (by (with_reducible repeat (first | apply Kd.R_alloc | apply Kd.R_drewN | apply Kd.R_drew)); exact HL1099_0.out) hb)
               have n3_ := Aside0.mk (blk_below (g := gb1089) (o := .cells #[.int .i64 a0_0, .int .i64 a0_1, .bool a0_2, .bool a0_3] 51 (0, 0)) (by (with_reducible repeat (first | refine blk_drewN ?_ _ | refine blk_drew ?_ | refine blk_alloc ?_ _)); exact BK1089.out) hb)
               have n4_ := Aside0.mk (blk_below (g := gb1090) (o := .cells #[.int .i64 a1_0, .int .i64 a1_1] 32 (0, 0)) (by (with_reducible repeat (first | refine blk_drewN ?_ _ | refine blk_drew ?_ | refine blk_alloc ?_ _)); exact BK1090.out) hb)
               have n5_ := Aside0.mk (Kd.C_below (by repeat (first | (with_reducible exact HR1099_0.out) | (with_reducible refine Kd.C_alloc ?_ _) | (with_reducible refine Kd.C_drewN ?_ _) | (with_reducible refine Kd.C_drew ?_) | exact HR1099_0.out)) hb)
               have n6_ := Aside0.mk (below_step (by repeat (first | (with_reducible first | exact HB.out | apply below_alloc | apply pw_below_drewN | apply below_drew1 | refine below_set ?_ GE1089.out | refine below_set ?_ GE1090.out) | exact HB.out)) hb)
               have n7_ := Aside0.mk (show nb1113_ ≤ w28.heap.size from (by first | exact Nat.le_trans HNB1113.out hb.size | exact Nat.le_trans HNB1113.out hg.size | exact Nat.le_trans HNB1113.out (Nat.le_trans (by simp) hb.size) | exact Nat.le_trans HNB1113.out (Nat.le_trans (by simp) hg.size) | (rw [hw]; simpa using HNB1113.out) | exact HNB1113.out))
               clear HO_5
               clear HO_23
               clear HL1099_0
               clear BK1089
               clear BK1090
               clear HR1099_0
               clear HB
               clear HNB1113
               have HO_5 := n0_
               have HO_23 := n1_
               have HL1099_0 := n2_
               have BK1089 := n3_
               have BK1090 := n4_
               have HR1099_0 := n5_
               have HB := n6_
               have HNB1113 := n7_
               clear n0_ n1_ n2_ n3_ n4_ n5_ n6_ n7_
               (try clear hb)
               (try clear hb2)
               (try clear hk)
               (try clear hi)
               (try clear hna_)
               (try clear hnb_)
               refine hK.out _ _ ⟨(blk_cell BK1089.out 0).trans rfl, (blk_cell BK1089.out 1).trans rfl, (blk_cell BK1089.out 2).trans rfl, (blk_cell BK1089.out 3).trans rfl, HS4_, HS5_⟩ (fun hHeld => ?_)
               clear hK K
               refine norm_ (a' := ?_) ?_ ?_
               rotate_left
               ·show Act.put _ (some 38) _ = _
                simp only [Act.put, List.setIfInBounds_toArray, List.set_cons_zero, List.set_cons_succ, i64_w, i32_w]
                rfl
               refine pure_ (i := 9) (N := some 29) (v := ?_) (a' := ?_) #[true, true, true, true, true, true, true, true, true, true, false, false, false, false] rfl rfl (any_of HT_.out (by kernel_rfl)) (fun _ _ _ h => h) (Or.inl ⟨by rfl, ?_⟩) ?_ ?_
               rotate_left
               ·intro w'
                go_simp
                with_reducible rfl
               rotate_left
               ·simp only [Act.put, List.setIfInBounds_toArray, List.set_cons_zero, List.set_cons_succ, i64_w, i32_w]
                rfl
               refine pure_ (i := 10) (N := some 39) (v := ?_) (a' := ?_) #[true, true, true, true, true, true, true, true, true, true, true, false, false, false] rfl rfl (any_of HT_.out (by kernel_rfl)) (fun _ _ _ h => h) (Or.inl ⟨by rfl, ?_⟩) ?_ ?_
               rotate_left
               ·intro w'
                go_simp
                with_reducible rfl
               rotate_left
               ·simp only [Act.put, List.setIfInBounds_toArray, List.set_cons_zero, List.set_cons_succ, i64_w, i32_w]
                rfl
               refine pure_ (i := 11) (N := some 40) (v := ?_) (a' := ?_) #[true, true, true, true, true, true, true, true, true, true, true, true, false, false] rfl rfl (any_of HT_.out (by kernel_rfl)) (fun _ _ _ h => h) (Or.inl ⟨by rfl, ?_⟩) ?_ ?_
               rotate_left
               ·intro w'
                go_simp
                with_reducible rfl
               rotate_left
               ·simp only [Act.put, List.setIfInBounds_toArray, List.set_cons_zero, List.set_cons_succ, i64_w, i32_w]
                rfl
               refine pure_ (i := 12) (N := some 9) (v := ?_) (a' := ?_) #[true, true, true, true, true, true, true, true, true, true, true, true, true, false] rfl rfl (any_of HT_.out (by kernel_rfl)) (fun _ _ _ h => h) (Or.inl ⟨by rfl, ?_⟩) ?_ ?_
               rotate_left
               ·intro w'
                go_simp
                with_reducible rfl
               rotate_left
               ·simp only [Act.put, List.setIfInBounds_toArray, List.set_cons_zero, List.set_cons_succ, i64_w, i32_w]
                rfl
               refine pure_ (i := 13) (N := some 10) (v := ?_) (a' := ?_) #[true, true, true, true, true, true, true, true, true, true, true, true, true, true] rfl rfl (any_of HT_.out (by kernel_rfl)) (fun _ _ _ h => h) (Or.inl ⟨by rfl, ?_⟩) ?_ ?_
               rotate_left
               ·intro w'
                go_simp
                with_reducible rfl
               rotate_left
               ·simp only [Act.put, List.setIfInBounds_toArray, List.set_cons_zero, List.set_cons_succ, i64_w, i32_w]
                rfl
               refine done_ (done_of HT_.out (by kernel_rfl)) ?_
               try go_wp2
               (try simp only [← hl5_2])
               go_roundg k2
               case measure => have := HK1.out; have := HK2.out; omega
               case rel => exact ⟨(x5_2), (wrap64 (x25_2 + 1)), (by first | rfl | (simp; done) | (simp [*]; done)), H', ⟨by have := HK1.out; have := HK2.out; omega⟩, ⟨by (try simp only [hl5_1]); (try simp only [hl5_2]); (with_reducible repeat (first | apply Kd.S_alloc | apply Kd.S_drewN | apply Kd.S_drew)); exact HO_5.out⟩, ⟨by (try simp only [hl5_1]); (try simp only [hl5_2]); (with_reducible repeat (first | apply Kd.S_alloc | apply Kd.S_drewN | apply Kd.S_drew)); exact HO_23.out⟩, ⟨by (try simp only [hl5_1]); (try simp only [hl5_2]); (with_reducible repeat (first | refine blk_drewN ?_ _ | refine blk_drew ?_ | refine blk_alloc ?_ _)); exact BK1089.out⟩, ⟨by (try simp only [hl5_1]); (try simp only [hl5_2]); (with_reducible repeat (first | refine blk_drewN ?_ _ | refine blk_drew ?_ | refine blk_alloc ?_ _)); exact BK1090.out⟩, ⟨(by first | exact HNB1113.out | exact Nat.le_trans HNB1113.out (by simp))⟩, ⟨by repeat (first | (with_reducible first | exact HB.out | apply below_alloc | apply pw_below_drewN | apply below_drew1 | refine below_set ?_ GE1089.out | refine below_set ?_ GE1090.out) | exact HB.out)⟩⟩
              ·rw [if_neg c26] at H
               have c26b0 : (t1102 == x19_1) = false := beq_eq_false_iff_ne.mpr c26
               have c26b1 : (t1102 != x19_1) = true := bne_iff_ne.mpr c26
               by_cases c29 : 0 ≤ x19_1
               ·rw [if_pos c29] at H
                have c29b0 : decide (0 ≤ x19_1) = true := decide_eq_true c29
                clear c29
                by_cases c30 : x19_1 < (x5_2.length : Int)
                ·rw [if_pos c30] at H
                 have c30b0 : decide (x19_1 < (x5_2.length : Int)) = true := decide_eq_true c30
                 have c30b8 := c30b0
                 (try simp only [hl5_1, hl5_2] at c30b8)
                 clear c30
                 replace H := Option.bind_eq_some_iff.mp H
                 obtain ⟨t1105, A310, H⟩ := H
                 replace H : (if t1105 = true then (impl_Around_near.l1 k2 x5_2 x19_1 (y1091.length : Int) x19_1 t1094 (t1094.length : Int) (wrap64 (x25_2 + 1)) a0_0 a0_1 a0_2 a0_3 a1_0 a1_1) else (if (rd_L1 x5_2 x19_1).length < 17592186044416 then (impl_Around_near.l1 k2 (x5_2.set (x19_1 : Int).toNat ((rd_L1 x5_2 x19_1) ++ [t1102])) x19_1 (y1091.length : Int) x19_1 t1094 (t1094.length : Int) (wrap64 (x25_2 + 1)) a0_0 a0_1 a0_2 a0_3 a1_0 a1_1) else (none))) = some r := H
                 have A31 := Aside0.mk A310
                 clear A310
                 by_cases c32 : t1105 = true
                 ·subst c32
                  have H1 : (impl_Around_near.l1 k2 x5_2 x19_1 (y1091.length : Int) x19_1 t1094 (t1094.length : Int) (wrap64 (x25_2 + 1)) a0_0 a0_1 a0_2 a0_3 a1_0 a1_1) = some r := by rw [if_pos rfl] at H; exact H
                  clear H
                  have H := H1
                  clear H1
                  have H' := Aside0.mk H
                  clear H
                  have p1099 : 0 ≤ (x25_2 : Int) := of_decide_eq_true (by first | (with_reducible assumption) | assumption)
                  have q1099 : x25_2 < (t1094.length : Int) := of_decide_eq_true (by first | (with_reducible assumption) | assumption)
                  obtain ⟨ad1099, A1099_0, c1099_0, e1099, hx1099_0, hl1099_0, hi1099_0⟩ := at_L1 (Kd.S_reads' HO_23.out).2.2 x25_2 p1099 q1099
                  cases e1099
                  obtain ⟨ce1099, hce1099, hMe1099, hcc1099⟩ := Kd.S_get HO_23.out [] x25_2 p1099 (by first | exact q1099 | exact of_decide_eq_true (by first | (with_reducible assumption) | assumption) | (have e_ := (Kd.S_reads' HO_23.out).1; omega))
                  obtain ⟨ve1099_0, rfl, ge1099_0⟩ := hMe1099
                  have hv1099_0 := hcc1099 0 _ rfl
                  rw [Nat.add_zero, show ((Kd.slice 3 (Kd.int .i64))).sz = 1 from rfl, Nat.mul_one] at hv1099_0
                  replace hv1099_0 := Option.some.inj (hv1099_0.symm.trans hx1099_0)
                  rw [hv1099_0] at ge1099_0
                  have HL1099_0 := Aside0.mk (show Kd.R (Kd.int .i64) 3 _ _ _ _ (rd_L1 t1094 x25_2) from ge1099_0)
                  clear hv1099_0 ge1099_0
                  have HX1099_0 := Aside0.mk hx1099_0
                  clear hcc1099 hce1099
                  have HR1099_0 := Aside0.mk hi1099_0
                  have HC1099_0 := Aside0.mk hl1099_0
                  clear hi1099_0 hl1099_0
                  replace p1099 := eq_true p1099
                  replace q1099 := eq_true q1099
                  try go_wp2
                  have n0_ := Aside0.mk (Kd.S_drew HO_5.out)
                  have n1_ := Aside0.mk (Kd.S_drew HO_23.out)
                  have n2_ := Aside0.mk (Kd.R_drew HL1099_0.out)
                  have n3_ := Aside0.mk (blk_drew BK1089.out)
                  have n4_ := Aside0.mk (blk_drew BK1090.out)
                  have n5_ := Aside0.mk (Kd.C_drew HR1099_0.out)
                  have n6_ := Aside0.mk (below_drew1 HB.out)
                  have n7_ := Aside0.mk (show nb1113_ ≤ (wr.drew).heap.size from (by first | exact HNB1113.out | exact Nat.le_trans HNB1113.out (by simp)))
                  clear HO_5
                  clear HO_23
                  clear HL1099_0
                  clear BK1089
                  clear BK1090
                  clear HR1099_0
                  clear HB
                  clear HNB1113
                  have HO_5 := n0_
                  have HO_23 := n1_
                  have HL1099_0 := n2_
                  have BK1089 := n3_
                  have BK1090 := n4_
                  have HR1099_0 := n5_
                  have HB := n6_
                  have HNB1113 := n7_
                  clear n0_ n1_ n2_ n3_ n4_ n5_ n6_ n7_
                  have p1100 : 0 ≤ (0 : Int) := (by omega)
                  have q1100 : 0 < ((rd_L1 t1094 x25_2).length : Int) := of_decide_eq_true (by first | (with_reducible assumption) | assumption)
                  obtain ⟨ad1100, e1100, hx1100_0⟩ := Kd.at_int (by repeat (first | (with_reducible exact HR1099_0.out) | (with_reducible refine Kd.C_alloc ?_ _) | (with_reducible refine Kd.C_drewN ?_ _) | (with_reducible refine Kd.C_drew ?_) | exact HR1099_0.out)) 0 p1100 q1100
                  cases e1100
                  have qi1100 : (0 < (rd_L1 t1094 x25_2).length) = True := eq_true (by omega)
                  (try rw [show ((0 : Int)).toNat = 0 from rfl] at hx1100_0)
                  (try rw [Addr.add_zero'] at hx1100_0)
                  replace p1100 := eq_true p1100
                  replace q1100 := eq_true q1100
                  have p1101 : 0 ≤ (1 : Int) := (by omega)
                  have q1101 : 1 < ((rd_L1 t1094 x25_2).length : Int) := of_decide_eq_true (by first | (with_reducible assumption) | assumption)
                  obtain ⟨ad1101, e1101, hx1101_0⟩ := Kd.at_int (by repeat (first | (with_reducible exact HR1099_0.out) | (with_reducible refine Kd.C_alloc ?_ _) | (with_reducible refine Kd.C_drewN ?_ _) | (with_reducible refine Kd.C_drew ?_) | exact HR1099_0.out)) 1 p1101 q1101
                  obtain rfl : ad1100 = ad1101 := (by injection e1101)
                  (try simp only [show (1 : Int).toNat = 1 from rfl, Nat.reduceMul, Nat.reduceEqDiff, Go.Addr.add, ↓reduceIte] at hx1101_0)
                  have qi1101 : (1 < (rd_L1 t1094 x25_2).length) = True := eq_true (by omega)
                  (try rw [show ((1 : Int)).toNat = 1 from rfl] at hx1101_0)
                  replace p1101 := eq_true p1101
                  replace q1101 := eq_true q1101
                  refine start_ (n := 14) (S := fun w' => w'.cell? ⟨gb1089, 0, none⟩ = some (.int .i64 a0_0) ∧ w'.cell? ⟨gb1089, 1, none⟩ = some (.int .i64 a0_1) ∧ w'.cell? ⟨gb1089, 2, none⟩ = some (.bool a0_2) ∧ w'.cell? ⟨gb1089, 3, none⟩ = some (.bool a0_3) ∧ w'.cell? ad1100 = some (.int .i64 (rd (rd_L1 t1094 x25_2) 0)) ∧ w'.cell? ⟨ad1100.block, ad1100.off + 1, none⟩ = some (.int .i64 (rd (rd_L1 t1094 x25_2) 1))) (ds := []) #[false, false, false, false, false, false, false, false, false, false, false, false, false, false] (by kernel_rfl) rfl rfl ⟨(blk_cell BK1089.out 0).trans rfl, (blk_cell BK1089.out 1).trans rfl, (blk_cell BK1089.out 2).trans rfl, (blk_cell BK1089.out 3).trans rfl, hx1100_0, hx1101_0⟩ (fun hHeld => ?_); refine with_tabW impl_Around_near.tab8 impl_Around_near.bits8 (fun HT_ HW_ => ?_)
                  generalize wr.drew = w33 at HO_5 HO_23 HL1099_0 BK1089 BK1090 HR1099_0 HNB1113 HB hx1100_0 hx1101_0 hHeld ⊢
                  refine pure_ (i := 1) (N := some 31) (v := ?_) (a' := ?_) #[false, true, false, false, false, false, false, false, false, false, false, false, false, false] rfl rfl (any_of HT_.out (by kernel_rfl)) (fun _ _ _ h => h) (Or.inl ⟨by rfl, ?_⟩) ?_ ?_
                  rotate_left
                  ·intro w'
                   go_simp
                   with_reducible rfl
                  rotate_left
                  ·simp only [Act.put, List.setIfInBounds_toArray, List.set_cons_zero, List.set_cons_succ, i64_w, i32_w]
                   rfl
                  refine pure_ (i := 2) (N := some 32) (v := ?_) (a' := ?_) #[false, true, true, false, false, false, false, false, false, false, false, false, false, false] rfl rfl (any_of HT_.out (by kernel_rfl)) (fun _ _ _ h => h) (Or.inl ⟨by rfl, ?_⟩) ?_ ?_
                  rotate_left
                  ·intro w'
                   go_simp
                   with_reducible rfl
                  rotate_left
                  ·simp only [Act.put, List.setIfInBounds_toArray, List.set_cons_zero, List.set_cons_succ, i64_w, i32_w]
                   rfl
                  refine pure_ (i := 3) (N := some 33) (v := ?_) (a' := ?_) #[false, true, true, true, false, false, false, false, false, false, false, false, false, false] rfl rfl (any_of HT_.out (by kernel_rfl)) (fun _ _ _ h => h) (Or.inl ⟨by rfl, ?_⟩) ?_ ?_
                  rotate_left
                  ·intro w'
                   go_simp
                   with_reducible rfl
                  rotate_left
                  ·simp only [Act.put, List.setIfInBounds_toArray, List.set_cons_zero, List.set_cons_succ, i64_w, i32_w]
                   rfl
                  refine pure_ (i := 5) (N := some 35) (v := ?_) (a' := ?_) #[false, true, true, true, false, true, false, false, false, false, false, false, false, false] rfl rfl (any_of HT_.out (by kernel_rfl)) (fun _ _ _ h => h) (Or.inl ⟨by rfl, ?_⟩) ?_ ?_
                  rotate_left
                  ·intro w'
                   go_simp
                   with_reducible rfl
                  rotate_left
                  ·simp only [Act.put, List.setIfInBounds_toArray, List.set_cons_zero, List.set_cons_succ, i64_w, i32_w]
                   rfl
                  refine pure_ (i := 6) (N := some 36) (v := ?_) (a' := ?_) #[false, true, true, true, false, true, true, false, false, false, false, false, false, false] rfl rfl (any_of HT_.out (by kernel_rfl)) (fun _ _ _ h => h) (Or.inl ⟨by rfl, ?_⟩) ?_ ?_
                  rotate_left
                  ·intro w'
                   go_simp
                   with_reducible rfl
                  rotate_left
                  ·simp only [Act.put, List.setIfInBounds_toArray, List.set_cons_zero, List.set_cons_succ, i64_w, i32_w]
                   rfl
                  refine take_ (i := 0) (N := some 30) (v := ?_) (a' := ?_) #[true, true, true, true, false, true, true, false, false, false, false, false, false, false] rfl rfl (take_ofW HT_.out HW_.out (by kernel_rfl)) (fun _ _ _ h => h) (Or.inl ⟨by rfl, ?_⟩) hHeld ?_ ?_
                  rotate_left
                  ·rintro w' ⟨s0, s1, s2, s3, s4, s5⟩
                   go_simp
                   with_reducible rfl
                  rotate_left
                  ·simp only [Act.put, List.setIfInBounds_toArray, List.set_cons_zero, List.set_cons_succ, i64_w, i32_w]
                   rfl
                  refine take_ (i := 4) (N := some 34) (v := ?_) (a' := ?_) #[true, true, true, true, true, true, true, false, false, false, false, false, false, false] rfl rfl (take_ofW HT_.out HW_.out (by kernel_rfl)) (fun _ _ _ h => h) (Or.inl ⟨by rfl, ?_⟩) hHeld ?_ ?_
                  rotate_left
                  ·rintro w' ⟨s0, s1, s2, s3, s4, s5⟩
                   go_simp
                   with_reducible rfl
                  rotate_left
                  ·simp only [Act.put, List.setIfInBounds_toArray, List.set_cons_zero, List.set_cons_succ, i64_w, i32_w]
                   rfl
                  refine take_ (i := 7) (N := some 37) (v := ?_) (a' := ?_) #[true, true, true, true, true, true, true, true, false, false, false, false, false, false] rfl rfl (take_ofW HT_.out HW_.out (by kernel_rfl)) (fun _ _ _ h => h) (Or.inl ⟨by rfl, ?_⟩) hHeld ?_ ?_
                  rotate_left
                  ·rintro w' ⟨s0, s1, s2, s3, s4, s5⟩
                   go_simp
                   with_reducible rfl
                  rotate_left
                  ·simp only [Act.put, List.setIfInBounds_toArray, List.set_cons_zero, List.set_cons_succ, i64_w, i32_w]
                   rfl
                  refine one_ (i := 8) (N := some 38) #[true, true, true, true, true, true, true, true, true, false, false, false, false, false] rfl rfl (one_of HT_.out (by kernel_rfl)) (by decide) (fun K hK => ?_)
                  refine goes_ Try.func127 (by kernel_rfl) rfl #[.agg #[.int .i64 a0_0, .int .i64 a0_1, .bool a0_2, .bool a0_3], .int .i64 x19_1, .int .i64 (rd (rd_L1 t1094 x25_2) 0), .int .i64 (rd (rd_L1 t1094 x25_2) 1)] (by rfl) rfl rfl (by (try simp only [List.map_toArray, List.map_cons, List.map_nil]); first | done | rfl | (simp only [List.length_drop, List.length_take]; rfl)) ?_
                  with_reducible refine (impl_Around_step.calls a0_0 a0_1 a0_2 a0_3 x19_1 (rd (rd_L1 t1094 x25_2) 0) (rd (rd_L1 t1094 x25_2) 1) t1102 true _ A24.out).mono ?_
                  rintro e w34 ⟨rfl, hb⟩
                  have HS4_ := (hb.cell (World.block_lt_of_cell? _ _ (hHeld.2.2.2.2.1))).trans (hHeld.2.2.2.2.1)
                  have HS5_ := (hb.cell (World.block_lt_of_cell? _ _ (hHeld.2.2.2.2.2))).trans (hHeld.2.2.2.2.2)
                  refine ⟨_, rfl, ?_⟩
                  have n0_ := Aside0.mk (Kd.S_below (by (with_reducible repeat (first | apply Kd.S_alloc | apply Kd.S_drewN | apply Kd.S_drew)); exact HO_5.out) hb)
                  have n1_ := Aside0.mk (Kd.S_below (by (with_reducible repeat (first | apply Kd.S_alloc | apply Kd.S_drewN | apply Kd.S_drew)); exact HO_23.out) hb)
                  have n2_ := Aside0.mk (Kd.R_below (by (with_reducible repeat (first | apply Kd.R_alloc | apply Kd.R_drewN | apply Kd.R_drew)); exact HL1099_0.out) hb)
                  have n3_ := Aside0.mk (blk_below (g := gb1089) (o := .cells #[.int .i64 a0_0, .int .i64 a0_1, .bool a0_2, .bool a0_3] 51 (0, 0)) (by (with_reducible repeat (first | refine blk_drewN ?_ _ | refine blk_drew ?_ | refine blk_alloc ?_ _)); exact BK1089.out) hb)
                  have n4_ := Aside0.mk (blk_below (g := gb1090) (o := .cells #[.int .i64 a1_0, .int .i64 a1_1] 32 (0, 0)) (by (with_reducible repeat (first | refine blk_drewN ?_ _ | refine blk_drew ?_ | refine blk_alloc ?_ _)); exact BK1090.out) hb)
                  have n5_ := Aside0.mk (Kd.C_below (by repeat (first | (with_reducible exact HR1099_0.out) | (with_reducible refine Kd.C_alloc ?_ _) | (with_reducible refine Kd.C_drewN ?_ _) | (with_reducible refine Kd.C_drew ?_) | exact HR1099_0.out)) hb)
                  have n6_ := Aside0.mk (below_step (by repeat (first | (with_reducible first | exact HB.out | apply below_alloc | apply pw_below_drewN | apply below_drew1 | refine below_set ?_ GE1089.out | refine below_set ?_ GE1090.out) | exact HB.out)) hb)
                  have n7_ := Aside0.mk (show nb1113_ ≤ w34.heap.size from (by first | exact Nat.le_trans HNB1113.out hb.size | exact Nat.le_trans HNB1113.out hg.size | exact Nat.le_trans HNB1113.out (Nat.le_trans (by simp) hb.size) | exact Nat.le_trans HNB1113.out (Nat.le_trans (by simp) hg.size) | (rw [hw]; simpa using HNB1113.out) | exact HNB1113.out))
                  clear HO_5
                  clear HO_23
                  clear HL1099_0
                  clear BK1089
                  clear BK1090
                  clear HR1099_0
                  clear HB
                  clear HNB1113
                  have HO_5 := n0_
                  have HO_23 := n1_
                  have HL1099_0 := n2_
                  have BK1089 := n3_
                  have BK1090 := n4_
                  have HR1099_0 := n5_
                  have HB := n6_
                  have HNB1113 := n7_
                  clear n0_ n1_ n2_ n3_ n4_ n5_ n6_ n7_
                  (try clear hb)
                  (try clear hb2)
                  (try clear hk)
                  (try clear hi)
                  (try clear hna_)
                  (try clear hnb_)
                  refine hK.out _ _ ⟨(blk_cell BK1089.out 0).trans rfl, (blk_cell BK1089.out 1).trans rfl, (blk_cell BK1089.out 2).trans rfl, (blk_cell BK1089.out 3).trans rfl, HS4_, HS5_⟩ (fun hHeld => ?_)
                  clear hK K
                  refine norm_ (a' := ?_) ?_ ?_
                  rotate_left
                  ·show Act.put _ (some 38) _ = _
                   simp only [Act.put, List.setIfInBounds_toArray, List.set_cons_zero, List.set_cons_succ, i64_w, i32_w]
                   rfl
                  refine pure_ (i := 9) (N := some 29) (v := ?_) (a' := ?_) #[true, true, true, true, true, true, true, true, true, true, false, false, false, false] rfl rfl (any_of HT_.out (by kernel_rfl)) (fun _ _ _ h => h) (Or.inl ⟨by rfl, ?_⟩) ?_ ?_
                  rotate_left
                  ·intro w'
                   go_simp
                   with_reducible rfl
                  rotate_left
                  ·simp only [Act.put, List.setIfInBounds_toArray, List.set_cons_zero, List.set_cons_succ, i64_w, i32_w]
                   rfl
                  refine pure_ (i := 10) (N := some 39) (v := ?_) (a' := ?_) #[true, true, true, true, true, true, true, true, true, true, true, false, false, false] rfl rfl (any_of HT_.out (by kernel_rfl)) (fun _ _ _ h => h) (Or.inl ⟨by rfl, ?_⟩) ?_ ?_
                  rotate_left
                  ·intro w'
                   go_simp
                   with_reducible rfl
                  rotate_left
                  ·simp only [Act.put, List.setIfInBounds_toArray, List.set_cons_zero, List.set_cons_succ, i64_w, i32_w]
                   rfl
                  refine pure_ (i := 11) (N := some 40) (v := ?_) (a' := ?_) #[true, true, true, true, true, true, true, true, true, true, true, true, false, false] rfl rfl (any_of HT_.out (by kernel_rfl)) (fun _ _ _ h => h) (Or.inl ⟨by rfl, ?_⟩) ?_ ?_
                  rotate_left
                  ·intro w'
                   go_simp
                   with_reducible rfl
                  rotate_left
                  ·simp only [Act.put, List.setIfInBounds_toArray, List.set_cons_zero, List.set_cons_succ, i64_w, i32_w]
                   rfl
                  refine pure_ (i := 12) (N := some 9) (v := ?_) (a' := ?_) #[true, true, true, true, true, true, true, true, true, true, true, true, true, false] rfl rfl (any_of HT_.out (by kernel_rfl)) (fun _ _ _ h => h) (Or.inl ⟨by rfl, ?_⟩) ?_ ?_
                  rotate_left
                  ·intro w'
                   go_simp
                   with_reducible rfl
                  rotate_left
                  ·simp only [Act.put, List.setIfInBounds_toArray, List.set_cons_zero, List.set_cons_succ, i64_w, i32_w]
                   rfl
                  refine pure_ (i := 13) (N := some 10) (v := ?_) (a' := ?_) #[true, true, true, true, true, true, true, true, true, true, true, true, true, true] rfl rfl (any_of HT_.out (by kernel_rfl)) (fun _ _ _ h => h) (Or.inl ⟨by rfl, ?_⟩) ?_ ?_
                  rotate_left
                  ·intro w'
                   go_simp
                   with_reducible rfl
                  rotate_left
                  ·simp only [Act.put, List.setIfInBounds_toArray, List.set_cons_zero, List.set_cons_succ, i64_w, i32_w]
                   rfl
                  refine done_ (done_of HT_.out (by kernel_rfl)) ?_
                  have p1104 : 0 ≤ (x19_1 : Int) := of_decide_eq_true (by first | (with_reducible assumption) | assumption)
                  have q1104 : x19_1 < (x5_2.length : Int) := of_decide_eq_true (by first | (with_reducible assumption) | assumption)
                  obtain ⟨ad1104, A1104_0, c1104_0, e1104, hx1104_0, hl1104_0, hi1104_0⟩ := at_L1 (Kd.S_reads' HO_5.out).2.2 x19_1 p1104 q1104
                  cases e1104
                  obtain ⟨ce1104, hce1104, hMe1104, hcc1104⟩ := Kd.S_get HO_5.out [] x19_1 p1104 (by first | exact q1104 | exact of_decide_eq_true (by first | (with_reducible assumption) | assumption) | (have e_ := (Kd.S_reads' HO_5.out).1; omega))
                  obtain ⟨ve1104_0, rfl, ge1104_0⟩ := hMe1104
                  have hv1104_0 := hcc1104 0 _ rfl
                  rw [Nat.add_zero, show ((Kd.slice 3 (Kd.int .i64))).sz = 1 from rfl, Nat.mul_one] at hv1104_0
                  replace hv1104_0 := Option.some.inj (hv1104_0.symm.trans hx1104_0)
                  rw [hv1104_0] at ge1104_0
                  have HL1104_0 := Aside0.mk (show Kd.R (Kd.int .i64) 3 _ _ _ _ (rd_L1 x5_2 x19_1) from ge1104_0)
                  clear hv1104_0 ge1104_0
                  have HX1104_0 := Aside0.mk hx1104_0
                  clear hcc1104 hce1104
                  have HR1104_0 := Aside0.mk hi1104_0
                  have HC1104_0 := Aside0.mk hl1104_0
                  clear hi1104_0 hl1104_0
                  replace p1104 := eq_true p1104
                  replace q1104 := eq_true q1104
                  try go_wp2_with (first | (go_at_call 99; (with_reducible refine (slices_Contains_int_int.calls k2 _ _ (rd_L1 x5_2 x19_1) t1102 true _ ?side1 ?side2 A31.out).mono ?_); (case side1 => repeat (first | exact (by repeat (first | (with_reducible exact HR1104_0.out) | (with_reducible refine Kd.C_alloc ?_ _) | (with_reducible refine Kd.C_drewN ?_ _) | (with_reducible refine Kd.C_drew ?_) | exact HR1104_0.out)) | (with_reducible refine Kd.C_alloc ?_ _) | (with_reducible refine Kd.C_drewN ?_ _) | (with_reducible refine Kd.C_drew ?_))); (case side2 => exact HC1104_0.out); rintro e w' ⟨rfl, ⟨nd, rfl⟩⟩))
                  (try simp only [← hl5_2])
                  go_roundg k2
                  case measure => have := HK1.out; have := HK2.out; omega
                  case rel => exact ⟨(x5_2), (wrap64 (x25_2 + 1)), (by first | rfl | (simp; done) | (simp [*]; done)), H', ⟨by have := HK1.out; have := HK2.out; omega⟩, ⟨by (try simp only [hl5_1]); (try simp only [hl5_2]); (with_reducible repeat (first | apply Kd.S_alloc | apply Kd.S_drewN | apply Kd.S_drew)); exact HO_5.out⟩, ⟨by (try simp only [hl5_1]); (try simp only [hl5_2]); (with_reducible repeat (first | apply Kd.S_alloc | apply Kd.S_drewN | apply Kd.S_drew)); exact HO_23.out⟩, ⟨by (try simp only [hl5_1]); (try simp only [hl5_2]); (with_reducible repeat (first | refine blk_drewN ?_ _ | refine blk_drew ?_ | refine blk_alloc ?_ _)); exact BK1089.out⟩, ⟨by (try simp only [hl5_1]); (try simp only [hl5_2]); (with_reducible repeat (first | refine blk_drewN ?_ _ | refine blk_drew ?_ | refine blk_alloc ?_ _)); exact BK1090.out⟩, ⟨(by first | exact HNB1113.out | exact Nat.le_trans HNB1113.out (by simp))⟩, ⟨by repeat (first | (with_reducible first | exact HB.out | apply below_alloc | apply pw_below_drewN | apply below_drew1 | refine below_set ?_ GE1089.out | refine below_set ?_ GE1090.out) | exact HB.out)⟩⟩
                 ·replace c32 := Bool.eq_false_iff.mpr c32
                  subst c32
                  have H1 : (if (rd_L1 x5_2 x19_1).length < 17592186044416 then (impl_Around_near.l1 k2 (x5_2.set (x19_1 : Int).toNat ((rd_L1 x5_2 x19_1) ++ [t1102])) x19_1 (y1091.length : Int) x19_1 t1094 (t1094.length : Int) (wrap64 (x25_2 + 1)) a0_0 a0_1 a0_2 a0_3 a1_0 a1_1) else (none)) = some r := by rw [if_neg (show ¬ (false = true) by decide)] at H; exact H
                  clear H
                  have H := H1
                  clear H1
                  by_cases c35 : (rd_L1 x5_2 x19_1).length < 17592186044416
                  ·rw [if_pos c35] at H
                   have LMc35 := Aside0.mk c35
                   clear c35
                   obtain ⟨y1107, hy1107⟩ : ∃ y_ : List Int, y_ = ((rd_L1 x5_2 x19_1) ++ [t1102]) := ⟨_, rfl⟩
                   replace H : (impl_Around_near.l1 k2 (x5_2.set (x19_1 : Int).toNat y1107) x19_1 (y1091.length : Int) x19_1 t1094 (t1094.length : Int) (wrap64 (x25_2 + 1)) a0_0 a0_1 a0_2 a0_3 a1_0 a1_1) = some r := by first | (rw [hy1107]; with_reducible exact H) | (have H2_ := (Option.bind_some _ _).symm.trans H; rw [hy1107]; with_reducible exact H2_) | (have H2_ := (Option.bind_some _ _).symm.trans H; with_reducible exact H2_) | with_reducible exact H | (rw [hy1107]; exact H) | exact H
                   have Ny1107 := Aside0.mk hy1107
                   clear hy1107
                   obtain ⟨y1110, hy1110⟩ : ∃ y_ : List (List Int), y_ = (x5_2.set (x19_1 : Int).toNat y1107) := ⟨_, rfl⟩
                   replace H : (impl_Around_near.l1 k2 y1110 x19_1 (y1091.length : Int) x19_1 t1094 (t1094.length : Int) (wrap64 (x25_2 + 1)) a0_0 a0_1 a0_2 a0_3 a1_0 a1_1) = some r := by first | (rw [hy1110]; with_reducible exact H) | (have H2_ := (Option.bind_some _ _).symm.trans H; rw [hy1110]; with_reducible exact H2_) | (have H2_ := (Option.bind_some _ _).symm.trans H; with_reducible exact H2_) | with_reducible exact H | (rw [hy1110]; exact H) | exact H
                   have Ny1110 := Aside0.mk hy1110
                   clear hy1110
                   have H' := Aside0.mk H
                   clear H
                   have p1099 : 0 ≤ (x25_2 : Int) := of_decide_eq_true (by first | (with_reducible assumption) | assumption)
                   have q1099 : x25_2 < (t1094.length : Int) := of_decide_eq_true (by first | (with_reducible assumption) | assumption)
                   obtain ⟨ad1099, A1099_0, c1099_0, e1099, hx1099_0, hl1099_0, hi1099_0⟩ := at_L1 (Kd.S_reads' HO_23.out).2.2 x25_2 p1099 q1099
                   cases e1099
                   obtain ⟨ce1099, hce1099, hMe1099, hcc1099⟩ := Kd.S_get HO_23.out [] x25_2 p1099 (by first | exact q1099 | exact of_decide_eq_true (by first | (with_reducible assumption) | assumption) | (have e_ := (Kd.S_reads' HO_23.out).1; omega))
                   obtain ⟨ve1099_0, rfl, ge1099_0⟩ := hMe1099
                   have hv1099_0 := hcc1099 0 _ rfl
                   rw [Nat.add_zero, show ((Kd.slice 3 (Kd.int .i64))).sz = 1 from rfl, Nat.mul_one] at hv1099_0
                   replace hv1099_0 := Option.some.inj (hv1099_0.symm.trans hx1099_0)
                   rw [hv1099_0] at ge1099_0
                   have HL1099_0 := Aside0.mk (show Kd.R (Kd.int .i64) 3 _ _ _ _ (rd_L1 t1094 x25_2) from ge1099_0)
                   clear hv1099_0 ge1099_0
                   have HX1099_0 := Aside0.mk hx1099_0
                   clear hcc1099 hce1099
                   have HR1099_0 := Aside0.mk hi1099_0
                   have HC1099_0 := Aside0.mk hl1099_0
                   clear hi1099_0 hl1099_0
                   replace p1099 := eq_true p1099
                   replace q1099 := eq_true q1099
                   try go_wp2
                   have n0_ := Aside0.mk (Kd.S_drew HO_5.out)
                   have n1_ := Aside0.mk (Kd.S_drew HO_23.out)
                   have n2_ := Aside0.mk (Kd.R_drew HL1099_0.out)
                   have n3_ := Aside0.mk (blk_drew BK1089.out)
                   have n4_ := Aside0.mk (blk_drew BK1090.out)
                   have n5_ := Aside0.mk (Kd.C_drew HR1099_0.out)
                   have n6_ := Aside0.mk (below_drew1 HB.out)
                   have n7_ := Aside0.mk (show nb1113_ ≤ (wr.drew).heap.size from (by first | exact HNB1113.out | exact Nat.le_trans HNB1113.out (by simp)))
                   clear HO_5
                   clear HO_23
                   clear HL1099_0
                   clear BK1089
                   clear BK1090
                   clear HR1099_0
                   clear HB
                   clear HNB1113
                   have HO_5 := n0_
                   have HO_23 := n1_
                   have HL1099_0 := n2_
                   have BK1089 := n3_
                   have BK1090 := n4_
                   have HR1099_0 := n5_
                   have HB := n6_
                   have HNB1113 := n7_
                   clear n0_ n1_ n2_ n3_ n4_ n5_ n6_ n7_
                   have p1100 : 0 ≤ (0 : Int) := (by omega)
                   have q1100 : 0 < ((rd_L1 t1094 x25_2).length : Int) := of_decide_eq_true (by first | (with_reducible assumption) | assumption)
                   obtain ⟨ad1100, e1100, hx1100_0⟩ := Kd.at_int (by repeat (first | (with_reducible exact HR1099_0.out) | (with_reducible refine Kd.C_alloc ?_ _) | (with_reducible refine Kd.C_drewN ?_ _) | (with_reducible refine Kd.C_drew ?_) | exact HR1099_0.out)) 0 p1100 q1100
                   cases e1100
                   have qi1100 : (0 < (rd_L1 t1094 x25_2).length) = True := eq_true (by omega)
                   (try rw [show ((0 : Int)).toNat = 0 from rfl] at hx1100_0)
                   (try rw [Addr.add_zero'] at hx1100_0)
                   replace p1100 := eq_true p1100
                   replace q1100 := eq_true q1100
                   have p1101 : 0 ≤ (1 : Int) := (by omega)
                   have q1101 : 1 < ((rd_L1 t1094 x25_2).length : Int) := of_decide_eq_true (by first | (with_reducible assumption) | assumption)
                   obtain ⟨ad1101, e1101, hx1101_0⟩ := Kd.at_int (by repeat (first | (with_reducible exact HR1099_0.out) | (with_reducible refine Kd.C_alloc ?_ _) | (with_reducible refine Kd.C_drewN ?_ _) | (with_reducible refine Kd.C_drew ?_) | exact HR1099_0.out)) 1 p1101 q1101
                   obtain rfl : ad1100 = ad1101 := (by injection e1101)
                   (try simp only [show (1 : Int).toNat = 1 from rfl, Nat.reduceMul, Nat.reduceEqDiff, Go.Addr.add, ↓reduceIte] at hx1101_0)
                   have qi1101 : (1 < (rd_L1 t1094 x25_2).length) = True := eq_true (by omega)
                   (try rw [show ((1 : Int)).toNat = 1 from rfl] at hx1101_0)
                   replace p1101 := eq_true p1101
                   replace q1101 := eq_true q1101
                   refine start_ (n := 14) (S := fun w' => w'.cell? ⟨gb1089, 0, none⟩ = some (.int .i64 a0_0) ∧ w'.cell? ⟨gb1089, 1, none⟩ = some (.int .i64 a0_1) ∧ w'.cell? ⟨gb1089, 2, none⟩ = some (.bool a0_2) ∧ w'.cell? ⟨gb1089, 3, none⟩ = some (.bool a0_3) ∧ w'.cell? ad1100 = some (.int .i64 (rd (rd_L1 t1094 x25_2) 0)) ∧ w'.cell? ⟨ad1100.block, ad1100.off + 1, none⟩ = some (.int .i64 (rd (rd_L1 t1094 x25_2) 1))) (ds := []) #[false, false, false, false, false, false, false, false, false, false, false, false, false, false] (by kernel_rfl) rfl rfl ⟨(blk_cell BK1089.out 0).trans rfl, (blk_cell BK1089.out 1).trans rfl, (blk_cell BK1089.out 2).trans rfl, (blk_cell BK1089.out 3).trans rfl, hx1100_0, hx1101_0⟩ (fun hHeld => ?_); refine with_tabW impl_Around_near.tab8 impl_Around_near.bits8 (fun HT_ HW_ => ?_)
                   generalize wr.drew = w37 at HO_5 HO_23 HL1099_0 BK1089 BK1090 HR1099_0 HNB1113 HB hx1100_0 hx1101_0 hHeld ⊢
                   refine pure_ (i := 1) (N := some 31) (v := ?_) (a' := ?_) #[false, true, false, false, false, false, false, false, false, false, false, false, false, false] rfl rfl (any_of HT_.out (by kernel_rfl)) (fun _ _ _ h => h) (Or.inl ⟨by rfl, ?_⟩) ?_ ?_
                   rotate_left
                   ·intro w'
                    go_simp
                    with_reducible rfl
                   rotate_left
                   ·simp only [Act.put, List.setIfInBounds_toArray, List.set_cons_zero, List.set_cons_succ, i64_w, i32_w]
                    rfl
                   refine pure_ (i := 2) (N := some 32) (v := ?_) (a' := ?_) #[false, true, true, false, false, false, false, false, false, false, false, false, false, false] rfl rfl (any_of HT_.out (by kernel_rfl)) (fun _ _ _ h => h) (Or.inl ⟨by rfl, ?_⟩) ?_ ?_
                   rotate_left
                   ·intro w'
                    go_simp
                    with_reducible rfl
                   rotate_left
                   ·simp only [Act.put, List.setIfInBounds_toArray, List.set_cons_zero, List.set_cons_succ, i64_w, i32_w]
                    rfl
                   refine pure_ (i := 3) (N := some 33) (v := ?_) (a' := ?_) #[false, true, true, true, false, false, false, false, false, false, false, false, false, false] rfl rfl (any_of HT_.out (by kernel_rfl)) (fun _ _ _ h => h) (Or.inl ⟨by rfl, ?_⟩) ?_ ?_
                   rotate_left
                   ·intro w'
                    go_simp
                    with_reducible rfl
                   rotate_left
                   ·simp only [Act.put, List.setIfInBounds_toArray, List.set_cons_zero, List.set_cons_succ, i64_w, i32_w]
                    rfl
                   refine pure_ (i := 5) (N := some 35) (v := ?_) (a' := ?_) #[false, true, true, true, false, true, false, false, false, false, false, false, false, false] rfl rfl (any_of HT_.out (by kernel_rfl)) (fun _ _ _ h => h) (Or.inl ⟨by rfl, ?_⟩) ?_ ?_
                   rotate_left
                   ·intro w'
                    go_simp
                    with_reducible rfl
                   rotate_left
                   ·simp only [Act.put, List.setIfInBounds_toArray, List.set_cons_zero, List.set_cons_succ, i64_w, i32_w]
                    rfl
                   refine pure_ (i := 6) (N := some 36) (v := ?_) (a' := ?_) #[false, true, true, true, false, true, true, false, false, false, false, false, false, false] rfl rfl (any_of HT_.out (by kernel_rfl)) (fun _ _ _ h => h) (Or.inl ⟨by rfl, ?_⟩) ?_ ?_
                   rotate_left
                   ·intro w'
                    go_simp
                    with_reducible rfl
                   rotate_left
                   ·simp only [Act.put, List.setIfInBounds_toArray, List.set_cons_zero, List.set_cons_succ, i64_w, i32_w]
                    rfl
                   refine take_ (i := 0) (N := some 30) (v := ?_) (a' := ?_) #[true, true, true, true, false, true, true, false, false, false, false, false, false, false] rfl rfl (take_ofW HT_.out HW_.out (by kernel_rfl)) (fun _ _ _ h => h) (Or.inl ⟨by rfl, ?_⟩) hHeld ?_ ?_
                   rotate_left
                   ·rintro w' ⟨s0, s1, s2, s3, s4, s5⟩
                    go_simp
                    with_reducible rfl
                   rotate_left
                   ·simp only [Act.put, List.setIfInBounds_toArray, List.set_cons_zero, List.set_cons_succ, i64_w, i32_w]
                    rfl
                   refine take_ (i := 4) (N := some 34) (v := ?_) (a' := ?_) #[true, true, true, true, true, true, true, false, false, false, false, false, false, false] rfl rfl (take_ofW HT_.out HW_.out (by kernel_rfl)) (fun _ _ _ h => h) (Or.inl ⟨by rfl, ?_⟩) hHeld ?_ ?_
                   rotate_left
                   ·rintro w' ⟨s0, s1, s2, s3, s4, s5⟩
                    go_simp
                    with_reducible rfl
                   rotate_left
                   ·simp only [Act.put, List.setIfInBounds_toArray, List.set_cons_zero, List.set_cons_succ, i64_w, i32_w]
                    rfl
                   refine take_ (i := 7) (N := some 37) (v := ?_) (a' := ?_) #[true, true, true, true, true, true, true, true, false, false, false, false, false, false] rfl rfl (take_ofW HT_.out HW_.out (by kernel_rfl)) (fun _ _ _ h => h) (Or.inl ⟨by rfl, ?_⟩) hHeld ?_ ?_
                   rotate_left
                   ·rintro w' ⟨s0, s1, s2, s3, s4, s5⟩
                    go_simp
                    with_reducible rfl
                   rotate_left
                   ·simp only [Act.put, List.setIfInBounds_toArray, List.set_cons_zero, List.set_cons_succ, i64_w, i32_w]
                    rfl
                   refine one_ (i := 8) (N := some 38) #[true, true, true, true, true, true, true, true, true, false, false, false, false, false] rfl rfl (one_of HT_.out (by kernel_rfl)) (by decide) (fun K hK => ?_)
                   refine goes_ Try.func127 (by kernel_rfl) rfl #[.agg #[.int .i64 a0_0, .int .i64 a0_1, .bool a0_2, .bool a0_3], .int .i64 x19_1, .int .i64 (rd (rd_L1 t1094 x25_2) 0), .int .i64 (rd (rd_L1 t1094 x25_2) 1)] (by rfl) rfl rfl (by (try simp only [List.map_toArray, List.map_cons, List.map_nil]); first | done | rfl | (simp only [List.length_drop, List.length_take]; rfl)) ?_
                   with_reducible refine (impl_Around_step.calls a0_0 a0_1 a0_2 a0_3 x19_1 (rd (rd_L1 t1094 x25_2) 0) (rd (rd_L1 t1094 x25_2) 1) t1102 true _ A24.out).mono ?_
                   rintro e w38 ⟨rfl, hb⟩
                   have HS4_ := (hb.cell (World.block_lt_of_cell? _ _ (hHeld.2.2.2.2.1))).trans (hHeld.2.2.2.2.1)
                   have HS5_ := (hb.cell (World.block_lt_of_cell? _ _ (hHeld.2.2.2.2.2))).trans (hHeld.2.2.2.2.2)
                   refine ⟨_, rfl, ?_⟩
                   have n0_ := Aside0.mk (Kd.S_below (by (with_reducible repeat (first | apply Kd.S_alloc | apply Kd.S_drewN | apply Kd.S_drew)); exact HO_5.out) hb)
                   have n1_ := Aside0.mk (Kd.S_below (by (with_reducible repeat (first | apply Kd.S_alloc | apply Kd.S_drewN | apply Kd.S_drew)); exact HO_23.out) hb)
                   have n2_ := Aside0.mk (Kd.R_below (by (with_reducible repeat (first | apply Kd.R_alloc | apply Kd.R_drewN | apply Kd.R_drew)); exact HL1099_0.out) hb)
                   have n3_ := Aside0.mk (blk_below (g := gb1089) (o := .cells #[.int .i64 a0_0, .int .i64 a0_1, .bool a0_2, .bool a0_3] 51 (0, 0)) (by (with_reducible repeat (first | refine blk_drewN ?_ _ | refine blk_drew ?_ | refine blk_alloc ?_ _)); exact BK1089.out) hb)
                   have n4_ := Aside0.mk (blk_below (g := gb1090) (o := .cells #[.int .i64 a1_0, .int .i64 a1_1] 32 (0, 0)) (by (with_reducible repeat (first | refine blk_drewN ?_ _ | refine blk_drew ?_ | refine blk_alloc ?_ _)); exact BK1090.out) hb)
                   have n5_ := Aside0.mk (Kd.C_below (by repeat (first | (with_reducible exact HR1099_0.out) | (with_reducible refine Kd.C_alloc ?_ _) | (with_reducible refine Kd.C_drewN ?_ _) | (with_reducible refine Kd.C_drew ?_) | exact HR1099_0.out)) hb)
                   have n6_ := Aside0.mk (below_step (by repeat (first | (with_reducible first | exact HB.out | apply below_alloc | apply pw_below_drewN | apply below_drew1 | refine below_set ?_ GE1089.out | refine below_set ?_ GE1090.out) | exact HB.out)) hb)
                   have n7_ := Aside0.mk (show nb1113_ ≤ w38.heap.size from (by first | exact Nat.le_trans HNB1113.out hb.size | exact Nat.le_trans HNB1113.out hg.size | exact Nat.le_trans HNB1113.out (Nat.le_trans (by simp) hb.size) | exact Nat.le_trans HNB1113.out (Nat.le_trans (by simp) hg.size) | (rw [hw]; simpa using HNB1113.out) | exact HNB1113.out))
                   clear HO_5
                   clear HO_23
                   clear HL1099_0
                   clear BK1089
                   clear BK1090
                   clear HR1099_0
                   clear HB
                   clear HNB1113
                   have HO_5 := n0_
                   have HO_23 := n1_
                   have HL1099_0 := n2_
                   have BK1089 := n3_
                   have BK1090 := n4_
                   have HR1099_0 := n5_
                   have HB := n6_
                   have HNB1113 := n7_
                   clear n0_ n1_ n2_ n3_ n4_ n5_ n6_ n7_
                   (try clear hb)
                   (try clear hb2)
                   (try clear hk)
                   (try clear hi)
                   (try clear hna_)
                   (try clear hnb_)
                   refine hK.out _ _ ⟨(blk_cell BK1089.out 0).trans rfl, (blk_cell BK1089.out 1).trans rfl, (blk_cell BK1089.out 2).trans rfl, (blk_cell BK1089.out 3).trans rfl, HS4_, HS5_⟩ (fun hHeld => ?_)
                   clear hK K
                   refine norm_ (a' := ?_) ?_ ?_
                   rotate_left
                   ·show Act.put _ (some 38) _ = _
                    simp only [Act.put, List.setIfInBounds_toArray, List.set_cons_zero, List.set_cons_succ, i64_w, i32_w]
                    rfl
                   refine pure_ (i := 9) (N := some 29) (v := ?_) (a' := ?_) #[true, true, true, true, true, true, true, true, true, true, false, false, false, false] rfl rfl (any_of HT_.out (by kernel_rfl)) (fun _ _ _ h => h) (Or.inl ⟨by rfl, ?_⟩) ?_ ?_
                   rotate_left
                   ·intro w'
                    go_simp
                    with_reducible rfl
                   rotate_left
                   ·simp only [Act.put, List.setIfInBounds_toArray, List.set_cons_zero, List.set_cons_succ, i64_w, i32_w]
                    rfl
                   refine pure_ (i := 10) (N := some 39) (v := ?_) (a' := ?_) #[true, true, true, true, true, true, true, true, true, true, true, false, false, false] rfl rfl (any_of HT_.out (by kernel_rfl)) (fun _ _ _ h => h) (Or.inl ⟨by rfl, ?_⟩) ?_ ?_
                   rotate_left
                   ·intro w'
                    go_simp
                    with_reducible rfl
                   rotate_left
                   ·simp only [Act.put, List.setIfInBounds_toArray, List.set_cons_zero, List.set_cons_succ, i64_w, i32_w]
                    rfl
                   refine pure_ (i := 11) (N := some 40) (v := ?_) (a' := ?_) #[true, true, true, true, true, true, true, true, true, true, true, true, false, false] rfl rfl (any_of HT_.out (by kernel_rfl)) (fun _ _ _ h => h) (Or.inl ⟨by rfl, ?_⟩) ?_ ?_
                   rotate_left
                   ·intro w'
                    go_simp
                    with_reducible rfl
                   rotate_left
                   ·simp only [Act.put, List.setIfInBounds_toArray, List.set_cons_zero, List.set_cons_succ, i64_w, i32_w]
                    rfl
                   refine pure_ (i := 12) (N := some 9) (v := ?_) (a' := ?_) #[true, true, true, true, true, true, true, true, true, true, true, true, true, false] rfl rfl (any_of HT_.out (by kernel_rfl)) (fun _ _ _ h => h) (Or.inl ⟨by rfl, ?_⟩) ?_ ?_
                   rotate_left
                   ·intro w'
                    go_simp
                    with_reducible rfl
                   rotate_left
                   ·simp only [Act.put, List.setIfInBounds_toArray, List.set_cons_zero, List.set_cons_succ, i64_w, i32_w]
                    rfl
                   refine pure_ (i := 13) (N := some 10) (v := ?_) (a' := ?_) #[true, true, true, true, true, true, true, true, true, true, true, true, true, true] rfl rfl (any_of HT_.out (by kernel_rfl)) (fun _ _ _ h => h) (Or.inl ⟨by rfl, ?_⟩) ?_ ?_
                   rotate_left
                   ·intro w'
                    go_simp
                    with_reducible rfl
                   rotate_left
                   ·simp only [Act.put, List.setIfInBounds_toArray, List.set_cons_zero, List.set_cons_succ, i64_w, i32_w]
                    rfl
                   refine done_ (done_of HT_.out (by kernel_rfl)) ?_
                   have p1104 : 0 ≤ (x19_1 : Int) := of_decide_eq_true (by first | (with_reducible assumption) | assumption)
                   have q1104 : x19_1 < (x5_2.length : Int) := of_decide_eq_true (by first | (with_reducible assumption) | assumption)
                   obtain ⟨ad1104, A1104_0, c1104_0, e1104, hx1104_0, hl1104_0, hi1104_0⟩ := at_L1 (Kd.S_reads' HO_5.out).2.2 x19_1 p1104 q1104
                   cases e1104
                   obtain ⟨ce1104, hce1104, hMe1104, hcc1104⟩ := Kd.S_get HO_5.out [] x19_1 p1104 (by first | exact q1104 | exact of_decide_eq_true (by first | (with_reducible assumption) | assumption) | (have e_ := (Kd.S_reads' HO_5.out).1; omega))
                   obtain ⟨ve1104_0, rfl, ge1104_0⟩ := hMe1104
                   have hv1104_0 := hcc1104 0 _ rfl
                   rw [Nat.add_zero, show ((Kd.slice 3 (Kd.int .i64))).sz = 1 from rfl, Nat.mul_one] at hv1104_0
                   replace hv1104_0 := Option.some.inj (hv1104_0.symm.trans hx1104_0)
                   rw [hv1104_0] at ge1104_0
                   have HL1104_0 := Aside0.mk (show Kd.R (Kd.int .i64) 3 _ _ _ _ (rd_L1 x5_2 x19_1) from ge1104_0)
                   clear hv1104_0 ge1104_0
                   have HX1104_0 := Aside0.mk hx1104_0
                   clear hcc1104 hce1104
                   have HR1104_0 := Aside0.mk hi1104_0
                   have HC1104_0 := Aside0.mk hl1104_0
                   clear hi1104_0 hl1104_0
                   replace p1104 := eq_true p1104
                   replace q1104 := eq_true q1104
                   try go_wp2_with (first | (go_at_call 99; (with_reducible refine (slices_Contains_int_int.calls k2 _ _ (rd_L1 x5_2 x19_1) t1102 false _ ?side1 ?side2 A31.out).mono ?_); (case side1 => repeat (first | exact (by repeat (first | (with_reducible exact HR1104_0.out) | (with_reducible refine Kd.C_alloc ?_ _) | (with_reducible refine Kd.C_drewN ?_ _) | (with_reducible refine Kd.C_drew ?_) | exact HR1104_0.out)) | (with_reducible refine Kd.C_alloc ?_ _) | (with_reducible refine Kd.C_drewN ?_ _) | (with_reducible refine Kd.C_drew ?_))); (case side2 => exact HC1104_0.out); rintro e w' ⟨rfl, ⟨nd, rfl⟩⟩; (try (rw [drewN_self w38]; generalize hq_ : World.drewN w38 _ = w38; (try (replace hx1104_0 := cell_at hq_ hx1104_0)); have n0_ : Aside0 (Kd.R (Kd.int .i64) 3 w38 w.heap.size (fun k_ => ((some k_ ≠ (.slice (some ad1104) x5_2.length co12 : Value).ownBlock ∧ k_ ≠ (rngOut na1113_ nb1113_ k_)) ∧ some k_ ≠ (.slice (some ad1099) t1094.length co18 : Value).ownBlock)) (.slice (some ad1100) (rd_L1 t1094 x25_2).length c1099_0) (rd_L1 t1094 x25_2)) := ⟨by rw [← hq_]; exact (by (with_reducible repeat (first | apply Kd.R_alloc | apply Kd.R_drewN | apply Kd.R_drew)); exact HL1099_0.out)⟩; have n1_ : Aside0 (Kd.R (Kd.int .i64) 3 w38 w.heap.size (fun k_ => ((some k_ ≠ (.slice (some ad1099) t1094.length co18 : Value).ownBlock ∧ k_ ≠ (rngIn na1113_ nb1113_ k_)) ∧ some k_ ≠ (.slice (some ad1104) x5_2.length co12 : Value).ownBlock)) (.slice A1104_0 (rd_L1 x5_2 x19_1).length c1104_0) (rd_L1 x5_2 x19_1)) := ⟨by rw [← hq_]; exact (by (with_reducible repeat (first | apply Kd.R_alloc | apply Kd.R_drewN | apply Kd.R_drew)); exact HL1104_0.out)⟩; have n2_ : Aside0 (Kd.S (Kd.slice 3 (Kd.int .i64)) 22 w38 w.heap.size (fun k_ => (some k_ ≠ (.slice (some ad1104) x5_2.length co12 : Value).ownBlock ∧ k_ ≠ (rngOut na1113_ nb1113_ k_))) (.slice (some ad1099) t1094.length co18) t1094) := ⟨by rw [← hq_]; exact (by (with_reducible repeat (first | apply Kd.S_alloc | apply Kd.S_drewN | apply Kd.S_drew)); exact HO_23.out)⟩; have n3_ : Aside0 (Kd.S (Kd.slice 3 (Kd.int .i64)) 22 w38 w.heap.size (fun k_ => (some k_ ≠ (.slice (some ad1099) t1094.length co18 : Value).ownBlock ∧ k_ ≠ (rngIn na1113_ nb1113_ k_))) (.slice (some ad1104) x5_2.length co12) x5_2) := ⟨by rw [← hq_]; exact (by (with_reducible repeat (first | apply Kd.S_alloc | apply Kd.S_drewN | apply Kd.S_drew)); exact HO_5.out)⟩; have n4_ : Aside0 (w38.heap[gb1089]? = some (.cells #[.int .i64 a0_0, .int .i64 a0_1, .bool a0_2, .bool a0_3] 51 (0, 0))) := ⟨by rw [← hq_]; exact (by (with_reducible repeat (first | refine blk_drewN ?_ _ | refine blk_drew ?_ | refine blk_alloc ?_ _)); exact BK1089.out)⟩; have n5_ : Aside0 (w38.heap[gb1090]? = some (.cells #[.int .i64 a1_0, .int .i64 a1_1] 32 (0, 0))) := ⟨by rw [← hq_]; exact (by (with_reducible repeat (first | refine blk_drewN ?_ _ | refine blk_drew ?_ | refine blk_alloc ?_ _)); exact BK1090.out)⟩; have n6_ : Aside0 (nb1113_ ≤ w38.heap.size) := ⟨by rw [← hq_]; exact (by first | exact HNB1113.out | exact Nat.le_trans HNB1113.out (by simp))⟩; have n7_ : Aside0 (Below w.heap.size w w38) := ⟨by rw [← hq_]; exact (by repeat (first | (with_reducible first | exact HB.out | apply below_alloc | apply pw_below_drewN | apply below_drew1 | refine below_set ?_ GE1089.out | refine below_set ?_ GE1090.out) | exact HB.out))⟩; have n8_ : Aside0 (Kd.C (Kd.int .i64) w38 (some ad1100) (rd_L1 t1094 x25_2).length (rd_L1 t1094 x25_2)) := ⟨by rw [← hq_]; exact (by repeat (first | (with_reducible exact HR1099_0.out) | (with_reducible refine Kd.C_alloc ?_ _) | (with_reducible refine Kd.C_drewN ?_ _) | (with_reducible refine Kd.C_drew ?_) | exact HR1099_0.out))⟩; have n9_ : Aside0 (Kd.C (Kd.int .i64) w38 A1104_0 (rd_L1 x5_2 x19_1).length (rd_L1 x5_2 x19_1)) := ⟨by rw [← hq_]; exact (by repeat (first | (with_reducible exact HR1104_0.out) | (with_reducible refine Kd.C_alloc ?_ _) | (with_reducible refine Kd.C_drewN ?_ _) | (with_reducible refine Kd.C_drew ?_) | exact HR1104_0.out))⟩; clear HL1099_0 HL1104_0 HO_23 HO_5 BK1089 BK1090 HNB1113 HB HR1099_0 HR1104_0 hq_; have HL1099_0 := n0_; have HL1104_0 := n1_; have HO_23 := n2_; have HO_5 := n3_; have BK1089 := n4_; have BK1090 := n5_; have HNB1113 := n6_; have HB := n7_; have HR1099_0 := n8_; have HR1104_0 := n9_; clear n0_ n1_ n2_ n3_ n4_ n5_ n6_ n7_ n8_ n9_)); have p1106 : 0 ≤ (x19_1 : Int) := of_decide_eq_true (by first | (with_reducible assumption) | assumption); have q1106 : x19_1 < (x5_2.length : Int) := of_decide_eq_true (by first | (with_reducible assumption) | assumption); obtain ⟨ad1106, A1106_0, c1106_0, e1106, hx1106_0, hl1106_0, hi1106_0⟩ := at_L1 (Kd.S_reads' HO_5.out).2.2 x19_1 p1106 q1106; obtain rfl : ad1104 = ad1106 := (by injection e1106); obtain ⟨ce1106, hce1106, hMe1106, hcc1106⟩ := Kd.S_get HO_5.out [] x19_1 p1106 (by first | exact q1106 | exact of_decide_eq_true (by first | (with_reducible assumption) | assumption) | (have e_ := (Kd.S_reads' HO_5.out).1; omega)); obtain ⟨ve1106_0, rfl, ge1106_0⟩ := hMe1106; have hv1106_0 := hcc1106 0 _ rfl; rw [Nat.add_zero, show ((Kd.slice 3 (Kd.int .i64))).sz = 1 from rfl, Nat.mul_one] at hv1106_0; replace hv1106_0 := Option.some.inj (hv1106_0.symm.trans hx1106_0); rw [hv1106_0] at ge1106_0; have HL1106_0 := Aside0.mk (show Kd.R (Kd.int .i64) 3 _ _ _ _ (rd_L1 x5_2 x19_1) from ge1106_0); clear hv1106_0 ge1106_0; have HX1106_0 := Aside0.mk hx1106_0; clear hcc1106 hce1106; have HR1106_0 := Aside0.mk hi1106_0; have HC1106_0 := Aside0.mk hl1106_0; clear hi1106_0 hl1106_0; replace p1106 := eq_true p1106; replace q1106 := eq_true q1106; (first | have ea_ := Option.some.inj (hx1104_0.symm.trans hx1106_0) | have ea_ := Option.some.inj (HX1104_0.out.symm.trans hx1106_0)); injection ea_ with ea_ en_ ec_; subst ea_; subst ec_; clear en_; obtain ⟨go39, co39, eo39, gb39, gl39, cl39, HG39⟩ := Kd.S_form HO_5.out (by have h_ : (x19_1 : Int) < ((x5_2.length : Int) : Int) := of_decide_eq_true (by first | (with_reducible assumption) | assumption); have h2_ : 0 ≤ (x19_1 : Int) := (of_decide_eq_true (by first | (with_reducible assumption) | assumption)); omega); (first | cases eo39 | (injection eo39 with ea_ en_ ec_; (first | subst ea_ | (injection ea_ with ea_; subst ea_)); subst ec_; clear en_)); have GB39 := Aside0.mk gb39; have GG39 := Aside0.mk HG39; clear gb39 gl39 HG39; (try simp only [add_plain] at *); (first | simp only [add_plain] at hx1104_0 | skip); (first | simp only [add_plain] at hx1106_0 | skip); obtain ⟨oki39, ce39, hcl39, hM39, hcc39, _, _, hH39⟩ := Kd.S_elem HO_5.out [] (x19_1 : Int) (of_decide_eq_true (by first | (with_reducible assumption) | assumption)) (by have h_ : (x19_1 : Int) < ((x5_2.length : Int) : Int) := of_decide_eq_true (by first | (with_reducible assumption) | assumption); first | exact h_ | (have e_ := (Kd.S_reads' HO_5.out).1; omega) | simpa using h_); obtain ⟨ve39_0, rfl, ge39_0⟩ := hM39; have hv39 := hcc39 0 _ rfl; have hX39 := HX1106_0.out; (try simp only [add_plain] at hX39); (try simp only [Nat.add_zero] at hv39); (try rw [show ((Kd.slice 3 (Kd.int .i64))).sz = 1 from rfl, Nat.mul_one] at hv39); replace hv39 := Option.some.inj (hv39.symm.trans hX39); subst hv39; clear hX39 hcc39 hcl39; have UU39 := Aside0.mk (show Kd.R (Kd.int .i64) 3 _ w.heap.size oki39 (.slice A1104_0 (rd_L1 x5_2 x19_1).length c1104_0) (rd_L1 x5_2 x19_1) from ge39_0); have HH39 := Aside0.mk hH39; have HN39 := Aside0.mk (Kd.S_reads' HO_5.out).1; clear hH39 ge39_0) | ((with_reducible refine gate_builtin (b := .append) (xs := #[.tmp 61, .tmp 63]) rfl ?_); at_builtin; refine Kd.R_append (Kd.int .i64) (w0 := w) w.heap.size rfl (.tmp 61) (.tmp 63) 22 3 (.int .i64 0) 8 rfl Try.underlying22 info3 rfl (by decide) (by omega) (.slice A1104_0 (rd_L1 x5_2 x19_1).length c1104_0) (rd_L1 x5_2 x19_1) t1102 [.int .i64 t1102] (fun k_ => oki39 k_ ∨ ((fun k_ => some k_ ≠ (.slice (some ad1099) t1094.length co18 : Value).ownBlock ∧ k_ ≠ (rngIn na1113_ nb1113_ k_))) k_ ∧ w38.heap.size ≤ k_) (fun _ => False) rfl rfl ?aP (fun _ hk => hk.elim) ?aF ?aO ?aB ?aS ?aL ?_; (case aP => exact rfl); (case aB => exact (by repeat (first | (with_reducible first | exact HB.out | apply below_alloc | apply pw_below_drewN | apply below_drew1 | refine below_set ?_ GE1089.out | refine below_set ?_ GE1090.out) | exact HB.out))); (case aF => exact (fun k_ hk => .inr ⟨⟨Kd.fresh' (Kd.S_lt (by (with_reducible repeat (first | apply Kd.S_alloc | apply Kd.S_drewN | apply Kd.S_drew)); exact HO_23.out)) k_ hk, rng_fresh HNB1113.out hk⟩, hk⟩)); (case aO => exact (by (with_reducible repeat (first | apply Kd.R_alloc | apply Kd.R_drewN | apply Kd.R_drew)); exact Kd.R_mono UU39.out (fun _ hk => .inl hk))); (case aS => exact (below_size (by repeat (first | (with_reducible first | exact HB.out | apply below_alloc | apply pw_below_drewN | apply below_drew1 | refine below_set ?_ GE1089.out | refine below_set ?_ GE1090.out) | exact HB.out)))); (case aL => have := LMc35.out; omega); intro v1108 w40 ho hb hg hat; rw [← Ny1107.out] at ho; have n0_ := Aside0.mk (Kd.S_grown (by (with_reducible repeat (first | apply Kd.S_alloc | apply Kd.S_drewN | apply Kd.S_drew)); exact HO_23.out) hg (by exact fun k_ hk_ e_ => rng_apart (hk_.2) ((HL1106_0.out.1 k_ e_.symm).1.2))); have n1_ := Aside0.mk (blk_grown (g := gb1089) (o := .cells #[.int .i64 a0_0, .int .i64 a0_1, .bool a0_2, .bool a0_3] 51 (0, 0)) (by (with_reducible repeat (first | refine blk_drewN ?_ _ | refine blk_drew ?_ | refine blk_alloc ?_ _)); exact BK1089.out) hg (Kd.R_ne HL1106_0.out BK1089.out (by decide))); have n2_ := Aside0.mk (blk_grown (g := gb1090) (o := .cells #[.int .i64 a1_0, .int .i64 a1_1] 32 (0, 0)) (by (with_reducible repeat (first | refine blk_drewN ?_ _ | refine blk_drew ?_ | refine blk_alloc ?_ _)); exact BK1090.out) hg (Kd.R_ne HL1106_0.out BK1090.out (by decide))); have n3_ := Aside0.mk (hb); have n4_ := Aside0.mk (Kd.H_grown (Kd.H_widen (by repeat (first | exact HH39.out | refine Kd.H_alloc ?_ _ | refine Kd.H_drewN ?_ _ | refine Kd.H_drew ?_))) hg (fun k_ e_ => .inl (UU39.out.1 k_ e_))); have n5_ := Aside0.mk (ho); have n6_ := Aside0.mk (show nb1113_ ≤ w40.heap.size from (by first | exact Nat.le_trans HNB1113.out hb.size | exact Nat.le_trans HNB1113.out hg.size | exact Nat.le_trans HNB1113.out (Nat.le_trans (by simp) hb.size) | exact Nat.le_trans HNB1113.out (Nat.le_trans (by simp) hg.size) | (rw [hw]; simpa using HNB1113.out) | exact HNB1113.out)); clear HO_23; clear BK1089; clear BK1090; clear HB; clear HH39; clear HNB1113; clear HO_5; clear UU39; clear HL1099_0; clear HL1104_0; clear HL1106_0; have HO_23 := n0_; have BK1089 := n1_; have BK1090 := n2_; have HB := n3_; have HH39 := n4_; have HO1109 := n5_; have HNB1113 := n6_; clear n0_ n1_ n2_ n3_ n4_ n5_ n6_; clear ho hb hg hat; have p36 : 0 ≤ (x19_1 : Int) := of_decide_eq_true (by first | (with_reducible assumption) | assumption); have q36 : (x19_1 : Int) < ((x5_2.length : Int) : Int) := of_decide_eq_true (by first | (with_reducible assumption) | assumption); replace p36 := eq_true p36; replace q36 := eq_true q36; obtain ⟨Ao43, co43, eo43⟩ := Kd.R_slice HO1109.out; subst eo43; obtain ⟨_, _, hraw41, _, _, hcc41, _⟩ := Kd.H_raw HH39.out (of_decide_eq_true (by first | (with_reducible assumption) | assumption)) (by have h_ : (x19_1 : Int) < ((x5_2.length : Int) : Int) := of_decide_eq_true (by first | (with_reducible assumption) | assumption); first | exact h_ | (have e_ := (HN39.out); omega) | simpa using h_); obtain ⟨_, hfr41⟩ := Kd.H_at HH39.out (of_decide_eq_true (by first | (with_reducible assumption) | assumption)) (by have h_ : (x19_1 : Int) < ((x5_2.length : Int) : Int) := of_decide_eq_true (by first | (with_reducible assumption) | assumption); first | exact h_ | (have e_ := (HN39.out); omega) | simpa using h_); have hx41_0 := hcc41 0 _ rfl; have hf41_0 := hfr41 0; (try simp only [Nat.add_zero] at hx41_0 hf41_0); (try rw [show ((Kd.slice 3 (Kd.int .i64))).sz = 1 from rfl, Nat.mul_one] at hx41_0); (try rw [show ((Kd.slice 3 (Kd.int .i64))).sz = 1 from rfl, Nat.mul_one] at hf41_0); have HP41 := Kd.S_seg0 HH39.out (of_decide_eq_true (by first | (with_reducible assumption) | assumption)) (by have h_ : (x19_1 : Int) < ((x5_2.length : Int) : Int) := of_decide_eq_true (by first | (with_reducible assumption) | assumption); first | exact h_ | (have e_ := (HN39.out); omega) | simpa using h_) (seg := [.slice Ao43 y1107.length co43]) (j := 0) (show 1 ≤ 1 from by decide) (x' := y1107) (Kd.M_row HO1109.out) (fun _ hk => hk); (try simp only [show ((Kd.slice 3 (Kd.int .i64))).sz = 1 from rfl, Nat.mul_one, Nat.add_zero] at HP41); clear hcc41 hfr41) | ((with_reducible refine gate_store (t := 22) (p := 65) rfl ?_); refine store_event (t := 22) (p := 65) (v := ?vo_w42) (w1 := (w40.setCell ⟨go39, (x19_1 : Int).toNat, none⟩ (.slice Ao43 y1107.length co43))) ?hg ?ho ?hn ?hr ?_; (case ho => rfl); (case hg => rfl); (case hn => rfl); (case hr => first | (go_simp; done) | (go_simp; rfl)); intro w42 hw; have hg : w40.grownBy w42 (some go39) := (by rw [hw]; exact HP41.2); have hp_ : Kd.S (Kd.slice 3 (Kd.int .i64)) 22 w42 w.heap.size (fun k_ => some k_ ≠ (.slice (some ad1099) t1094.length co18 : Value).ownBlock ∧ k_ ≠ (rngIn na1113_ nb1113_ k_)) (.slice (some ⟨go39, 0, none⟩) x5_2.length co12) y1110 := (by rw [hw, Ny1110.out]; exact HP41.1); clear HP41; have n0_ := Aside0.mk (Kd.S_after (v := (.slice (some ⟨go39, 0, none⟩) x5_2.length co12)) (v1 := (.slice (some ⟨go39, 0, none⟩) x5_2.length co12)) (ok := (fun k_ => k_ ≠ (rngOut na1113_ nb1113_ k_))) (by (with_reducible repeat (first | apply Kd.S_alloc | apply Kd.S_drewN | apply Kd.S_drew)); exact Kd.S_mono HO_23.out (fun _ hk => ⟨hk.2, hk.1⟩)) hg (.inl rfl)); have n1_ := Aside0.mk (blk_grown (g := gb1089) (o := .cells #[.int .i64 a0_0, .int .i64 a0_1, .bool a0_2, .bool a0_3] 51 (0, 0)) (by (with_reducible repeat (first | refine blk_drewN ?_ _ | refine blk_drew ?_ | refine blk_alloc ?_ _)); exact BK1089.out) hg (Kd.R_ne hraw41 BK1089.out (by decide))); have n2_ := Aside0.mk (blk_grown (g := gb1090) (o := .cells #[.int .i64 a1_0, .int .i64 a1_1] 32 (0, 0)) (by (with_reducible repeat (first | refine blk_drewN ?_ _ | refine blk_drew ?_ | refine blk_alloc ?_ _)); exact BK1090.out) hg (Kd.R_ne hraw41 BK1090.out (by decide))); have n3_ := Aside0.mk ((by rw [hw]; exact below_set HB.out GB39.out : Below w.heap.size w w42)); have n4_ := Aside0.mk (hp_); have n5_ := Aside0.mk (show nb1113_ ≤ w42.heap.size from (by first | exact Nat.le_trans HNB1113.out hb.size | exact Nat.le_trans HNB1113.out hg.size | exact Nat.le_trans HNB1113.out (Nat.le_trans (by simp) hb.size) | exact Nat.le_trans HNB1113.out (Nat.le_trans (by simp) hg.size) | (rw [hw]; simpa using HNB1113.out) | exact HNB1113.out)); clear HO_23; clear BK1089; clear BK1090; clear HB; clear HNB1113; clear HO1109; clear HH39; have HO_23 := n0_; have BK1089 := n1_; have BK1090 := n2_; have HB := n3_; have HO_5 := n4_; have HNB1113 := n5_; clear n0_ n1_ n2_ n3_ n4_ n5_; clear hg hw hp_ hraw41))
                   (try simp only [← hl5_2])
                   go_roundg k2
                   case measure => have := HK1.out; have := HK2.out; omega
                   case rel => exact ⟨(y1110), (wrap64 (x25_2 + 1)), (by first | rfl | (simp; done) | (simp [*]; done)), H', ⟨by have := HK1.out; have := HK2.out; omega⟩, ⟨by (try simp only [hl5_1]); (try simp only [hl5_2]); (with_reducible repeat (first | apply Kd.S_alloc | apply Kd.S_drewN | apply Kd.S_drew)); exact HO_5.out⟩, ⟨by (try simp only [hl5_1]); (try simp only [hl5_2]); (with_reducible repeat (first | apply Kd.S_alloc | apply Kd.S_drewN | apply Kd.S_drew)); exact Kd.S_mono HO_23.out (fun _ hk => ⟨hk.2, hk.1⟩)⟩, ⟨by (try simp only [hl5_1]); (try simp only [hl5_2]); (with_reducible repeat (first | refine blk_drewN ?_ _ | refine blk_drew ?_ | refine blk_alloc ?_ _)); exact BK1089.out⟩, ⟨by (try simp only [hl5_1]); (try simp only [hl5_2]); (with_reducible repeat (first | refine blk_drewN ?_ _ | refine blk_drew ?_ | refine blk_alloc ?_ _)); exact BK1090.out⟩, ⟨(by first | exact HNB1113.out | exact Nat.le_trans HNB1113.out (by simp))⟩, ⟨by repeat (first | (with_reducible first | exact HB.out | apply below_alloc | apply pw_below_drewN | apply below_drew1 | refine below_set ?_ GE1089.out | refine below_set ?_ GE1090.out) | exact HB.out)⟩⟩
                  ·rw [if_neg c35] at H
                   exact absurd H (by simp)
                ·rw [if_neg c30] at H
                 exact absurd H (by simp)
               ·rw [if_neg c29] at H
                exact absurd H (by simp)
             ·replace c25 := Bool.eq_false_iff.mpr c25
              subst c25
              have H1 : (impl_Around_near.l1 k2 x5_2 x19_1 (y1091.length : Int) x19_1 t1094 (t1094.length : Int) (wrap64 (x25_2 + 1)) a0_0 a0_1 a0_2 a0_3 a1_0 a1_1) = some r := by rw [if_neg (show ¬ (false = true) by decide)] at H; exact H
              clear H
              have H := H1
              clear H1
              have H' := Aside0.mk H
              clear H
              have p1099 : 0 ≤ (x25_2 : Int) := of_decide_eq_true (by first | (with_reducible assumption) | assumption)
              have q1099 : x25_2 < (t1094.length : Int) := of_decide_eq_true (by first | (with_reducible assumption) | assumption)
              obtain ⟨ad1099, A1099_0, c1099_0, e1099, hx1099_0, hl1099_0, hi1099_0⟩ := at_L1 (Kd.S_reads' HO_23.out).2.2 x25_2 p1099 q1099
              cases e1099
              obtain ⟨ce1099, hce1099, hMe1099, hcc1099⟩ := Kd.S_get HO_23.out [] x25_2 p1099 (by first | exact q1099 | exact of_decide_eq_true (by first | (with_reducible assumption) | assumption) | (have e_ := (Kd.S_reads' HO_23.out).1; omega))
              obtain ⟨ve1099_0, rfl, ge1099_0⟩ := hMe1099
              have hv1099_0 := hcc1099 0 _ rfl
              rw [Nat.add_zero, show ((Kd.slice 3 (Kd.int .i64))).sz = 1 from rfl, Nat.mul_one] at hv1099_0
              replace hv1099_0 := Option.some.inj (hv1099_0.symm.trans hx1099_0)
              rw [hv1099_0] at ge1099_0
              have HL1099_0 := Aside0.mk (show Kd.R (Kd.int .i64) 3 _ _ _ _ (rd_L1 t1094 x25_2) from ge1099_0)
              clear hv1099_0 ge1099_0
              have HX1099_0 := Aside0.mk hx1099_0
              clear hcc1099 hce1099
              have HR1099_0 := Aside0.mk hi1099_0
              have HC1099_0 := Aside0.mk hl1099_0
              clear hi1099_0 hl1099_0
              replace p1099 := eq_true p1099
              replace q1099 := eq_true q1099
              try go_wp2
              have n0_ := Aside0.mk (Kd.S_drew HO_5.out)
              have n1_ := Aside0.mk (Kd.S_drew HO_23.out)
              have n2_ := Aside0.mk (Kd.R_drew HL1099_0.out)
              have n3_ := Aside0.mk (blk_drew BK1089.out)
              have n4_ := Aside0.mk (blk_drew BK1090.out)
              have n5_ := Aside0.mk (Kd.C_drew HR1099_0.out)
              have n6_ := Aside0.mk (below_drew1 HB.out)
              have n7_ := Aside0.mk (show nb1113_ ≤ (wr.drew).heap.size from (by first | exact HNB1113.out | exact Nat.le_trans HNB1113.out (by simp)))
              clear HO_5
              clear HO_23
              clear HL1099_0
              clear BK1089
              clear BK1090
              clear HR1099_0
              clear HB
              clear HNB1113
              have HO_5 := n0_
              have HO_23 := n1_
              have HL1099_0 := n2_
              have BK1089 := n3_
              have BK1090 := n4_
              have HR1099_0 := n5_
              have HB := n6_
              have HNB1113 := n7_
              clear n0_ n1_ n2_ n3_ n4_ n5_ n6_ n7_
              have p1100 : 0 ≤ (0 : Int) := (by omega)
              have q1100 : 0 < ((rd_L1 t1094 x25_2).length : Int) := of_decide_eq_true (by first | (with_reducible assumption) | assumption)
              obtain ⟨ad1100, e1100, hx1100_0⟩ := Kd.at_int (by repeat (first | (with_reducible exact HR1099_0.out) | (with_reducible refine Kd.C_alloc ?_ _) | (with_reducible refine Kd.C_drewN ?_ _) | (with_reducible refine Kd.C_drew ?_) | exact HR1099_0.out)) 0 p1100 q1100
              cases e1100
              have qi1100 : (0 < (rd_L1 t1094 x25_2).length) = True := eq_true (by omega)
              (try rw [show ((0 : Int)).toNat = 0 from rfl] at hx1100_0)
              (try rw [Addr.add_zero'] at hx1100_0)
              replace p1100 := eq_true p1100
              replace q1100 := eq_true q1100
              have p1101 : 0 ≤ (1 : Int) := (by omega)
              have q1101 : 1 < ((rd_L1 t1094 x25_2).length : Int) := of_decide_eq_true (by first | (with_reducible assumption) | assumption)
              obtain ⟨ad1101, e1101, hx1101_0⟩ := Kd.at_int (by repeat (first | (with_reducible exact HR1099_0.out) | (with_reducible refine Kd.C_alloc ?_ _) | (with_reducible refine Kd.C_drewN ?_ _) | (with_reducible refine Kd.C_drew ?_) | exact HR1099_0.out)) 1 p1101 q1101
              obtain rfl : ad1100 = ad1101 := (by injection e1101)
              (try simp only [show (1 : Int).toNat = 1 from rfl, Nat.reduceMul, Nat.reduceEqDiff, Go.Addr.add, ↓reduceIte] at hx1101_0)
              have qi1101 : (1 < (rd_L1 t1094 x25_2).length) = True := eq_true (by omega)
              (try rw [show ((1 : Int)).toNat = 1 from rfl] at hx1101_0)
              replace p1101 := eq_true p1101
              replace q1101 := eq_true q1101
              refine start_ (n := 14) (S := fun w' => w'.cell? ⟨gb1089, 0, none⟩ = some (.int .i64 a0_0) ∧ w'.cell? ⟨gb1089, 1, none⟩ = some (.int .i64 a0_1) ∧ w'.cell? ⟨gb1089, 2, none⟩ = some (.bool a0_2) ∧ w'.cell? ⟨gb1089, 3, none⟩ = some (.bool a0_3) ∧ w'.cell? ad1100 = some (.int .i64 (rd (rd_L1 t1094 x25_2) 0)) ∧ w'.cell? ⟨ad1100.block, ad1100.off + 1, none⟩ = some (.int .i64 (rd (rd_L1 t1094 x25_2) 1))) (ds := []) #[false, false, false, false, false, false, false, false, false, false, false, false, false, false] (by kernel_rfl) rfl rfl ⟨(blk_cell BK1089.out 0).trans rfl, (blk_cell BK1089.out 1).trans rfl, (blk_cell BK1089.out 2).trans rfl, (blk_cell BK1089.out 3).trans rfl, hx1100_0, hx1101_0⟩ (fun hHeld => ?_); refine with_tabW impl_Around_near.tab8 impl_Around_near.bits8 (fun HT_ HW_ => ?_)
              generalize wr.drew = w44 at HO_5 HO_23 HL1099_0 BK1089 BK1090 HR1099_0 HNB1113 HB hx1100_0 hx1101_0 hHeld ⊢
              refine pure_ (i := 1) (N := some 31) (v := ?_) (a' := ?_) #[false, true, false, false, false, false, false, false, false, false, false, false, false, false] rfl rfl (any_of HT_.out (by kernel_rfl)) (fun _ _ _ h => h) (Or.inl ⟨by rfl, ?_⟩) ?_ ?_
              rotate_left
              ·intro w'
               go_simp
               with_reducible rfl
              rotate_left
              ·simp only [Act.put, List.setIfInBounds_toArray, List.set_cons_zero, List.set_cons_succ, i64_w, i32_w]
               rfl
              refine pure_ (i := 2) (N := some 32) (v := ?_) (a' := ?_) #[false, true, true, false, false, false, false, false, false, false, false, false, false, false] rfl rfl (any_of HT_.out (by kernel_rfl)) (fun _ _ _ h => h) (Or.inl ⟨by rfl, ?_⟩) ?_ ?_
              rotate_left
              ·intro w'
               go_simp
               with_reducible rfl
              rotate_left
              ·simp only [Act.put, List.setIfInBounds_toArray, List.set_cons_zero, List.set_cons_succ, i64_w, i32_w]
               rfl
              refine pure_ (i := 3) (N := some 33) (v := ?_) (a' := ?_) #[false, true, true, true, false, false, false, false, false, false, false, false, false, false] rfl rfl (any_of HT_.out (by kernel_rfl)) (fun _ _ _ h => h) (Or.inl ⟨by rfl, ?_⟩) ?_ ?_
              rotate_left
              ·intro w'
               go_simp
               with_reducible rfl
              rotate_left
              ·simp only [Act.put, List.setIfInBounds_toArray, List.set_cons_zero, List.set_cons_succ, i64_w, i32_w]
               rfl
              refine pure_ (i := 5) (N := some 35) (v := ?_) (a' := ?_) #[false, true, true, true, false, true, false, false, false, false, false, false, false, false] rfl rfl (any_of HT_.out (by kernel_rfl)) (fun _ _ _ h => h) (Or.inl ⟨by rfl, ?_⟩) ?_ ?_
              rotate_left
              ·intro w'
               go_simp
               with_reducible rfl
              rotate_left
              ·simp only [Act.put, List.setIfInBounds_toArray, List.set_cons_zero, List.set_cons_succ, i64_w, i32_w]
               rfl
              refine pure_ (i := 6) (N := some 36) (v := ?_) (a' := ?_) #[false, true, true, true, false, true, true, false, false, false, false, false, false, false] rfl rfl (any_of HT_.out (by kernel_rfl)) (fun _ _ _ h => h) (Or.inl ⟨by rfl, ?_⟩) ?_ ?_
              rotate_left
              ·intro w'
               go_simp
               with_reducible rfl
              rotate_left
              ·simp only [Act.put, List.setIfInBounds_toArray, List.set_cons_zero, List.set_cons_succ, i64_w, i32_w]
               rfl
              refine take_ (i := 0) (N := some 30) (v := ?_) (a' := ?_) #[true, true, true, true, false, true, true, false, false, false, false, false, false, false] rfl rfl (take_ofW HT_.out HW_.out (by kernel_rfl)) (fun _ _ _ h => h) (Or.inl ⟨by rfl, ?_⟩) hHeld ?_ ?_
              rotate_left
              ·rintro w' ⟨s0, s1, s2, s3, s4, s5⟩
               go_simp
               with_reducible rfl
              rotate_left
              ·simp only [Act.put, List.setIfInBounds_toArray, List.set_cons_zero, List.set_cons_succ, i64_w, i32_w]
               rfl
              refine take_ (i := 4) (N := some 34) (v := ?_) (a' := ?_) #[true, true, true, true, true, true, true, false, false, false, false, false, false, false] rfl rfl (take_ofW HT_.out HW_.out (by kernel_rfl)) (fun _ _ _ h => h) (Or.inl ⟨by rfl, ?_⟩) hHeld ?_ ?_
              rotate_left
              ·rintro w' ⟨s0, s1, s2, s3, s4, s5⟩
               go_simp
               with_reducible rfl
              rotate_left
              ·simp only [Act.put, List.setIfInBounds_toArray, List.set_cons_zero, List.set_cons_succ, i64_w, i32_w]
               rfl
              refine take_ (i := 7) (N := some 37) (v := ?_) (a' := ?_) #[true, true, true, true, true, true, true, true, false, false, false, false, false, false] rfl rfl (take_ofW HT_.out HW_.out (by kernel_rfl)) (fun _ _ _ h => h) (Or.inl ⟨by rfl, ?_⟩) hHeld ?_ ?_
              rotate_left
              ·rintro w' ⟨s0, s1, s2, s3, s4, s5⟩
               go_simp
               with_reducible rfl
              rotate_left
              ·simp only [Act.put, List.setIfInBounds_toArray, List.set_cons_zero, List.set_cons_succ, i64_w, i32_w]
               rfl
              refine one_ (i := 8) (N := some 38) #[true, true, true, true, true, true, true, true, true, false, false, false, false, false] rfl rfl (one_of HT_.out (by kernel_rfl)) (by decide) (fun K hK => ?_)
              refine goes_ Try.func127 (by kernel_rfl) rfl #[.agg #[.int .i64 a0_0, .int .i64 a0_1, .bool a0_2, .bool a0_3], .int .i64 x19_1, .int .i64 (rd (rd_L1 t1094 x25_2) 0), .int .i64 (rd (rd_L1 t1094 x25_2) 1)] (by rfl) rfl rfl (by (try simp only [List.map_toArray, List.map_cons, List.map_nil]); first | done | rfl | (simp only [List.length_drop, List.length_take]; rfl)) ?_
              with_reducible refine (impl_Around_step.calls a0_0 a0_1 a0_2 a0_3 x19_1 (rd (rd_L1 t1094 x25_2) 0) (rd (rd_L1 t1094 x25_2) 1) t1102 false _ A24.out).mono ?_
              rintro e w45 ⟨rfl, hb⟩
              have HS4_ := (hb.cell (World.block_lt_of_cell? _ _ (hHeld.2.2.2.2.1))).trans (hHeld.2.2.2.2.1)
              have HS5_ := (hb.cell (World.block_lt_of_cell? _ _ (hHeld.2.2.2.2.2))).trans (hHeld.2.2.2.2.2)
              refine ⟨_, rfl, ?_⟩
              have n0_ := Aside0.mk (Kd.S_below (by (with_reducible repeat (first | apply Kd.S_alloc | apply Kd.S_drewN | apply Kd.S_drew)); exact HO_5.out) hb)
              have n1_ := Aside0.mk (Kd.S_below (by (with_reducible repeat (first | apply Kd.S_alloc | apply Kd.S_drewN | apply Kd.S_drew)); exact HO_23.out) hb)
              have n2_ := Aside0.mk (Kd.R_below (by (with_reducible repeat (first | apply Kd.R_alloc | apply Kd.R_drewN | apply Kd.R_drew)); exact HL1099_0.out) hb)
              have n3_ := Aside0.mk (blk_below (g := gb1089) (o := .cells #[.int .i64 a0_0, .int .i64 a0_1, .bool a0_2, .bool a0_3] 51 (0, 0)) (by (with_reducible repeat (first | refine blk_drewN ?_ _ | refine blk_drew ?_ | refine blk_alloc ?_ _)); exact BK1089.out) hb)
              have n4_ := Aside0.mk (blk_below (g := gb1090) (o := .cells #[.int .i64 a1_0, .int .i64 a1_1] 32 (0, 0)) (by (with_reducible repeat (first | refine blk_drewN ?_ _ | refine blk_drew ?_ | refine blk_alloc ?_ _)); exact BK1090.out) hb)
              have n5_ := Aside0.mk (Kd.C_below (by repeat (first | (with_reducible exact HR1099_0.out) | (with_reducible refine Kd.C_alloc ?_ _) | (with_reducible refine Kd.C_drewN ?_ _) | (with_reducible refine Kd.C_drew ?_) | exact HR1099_0.out)) hb)
              have n6_ := Aside0.mk (below_step (by repeat (first | (with_reducible first | exact HB.out | apply below_alloc | apply pw_below_drewN | apply below_drew1 | refine below_set ?_ GE1089.out | refine below_set ?_ GE1090.out) | exact HB.out)) hb)
              have n7_ := Aside0.mk (show nb1113_ ≤ w45.heap.size from (by first | exact Nat.le_trans HNB1113.out hb.size | exact Nat.le_trans HNB1113.out hg.size | exact Nat.le_trans HNB1113.out (Nat.le_trans (by simp) hb.size) | exact Nat.le_trans HNB1113.out (Nat.le_trans (by simp) hg.size) | (rw [hw]; simpa using HNB1113.out) | exact HNB1113.out))
              clear HO_5
              clear HO_23
              clear HL1099_0
              clear BK1089
              clear BK1090
              clear HR1099_0
              clear HB
              clear HNB1113
              have HO_5 := n0_
              have HO_23 := n1_
              have HL1099_0 := n2_
              have BK1089 := n3_
              have BK1090 := n4_
              have HR1099_0 := n5_
              have HB := n6_
              have HNB1113 := n7_
              clear n0_ n1_ n2_ n3_ n4_ n5_ n6_ n7_
              (try clear hb)
              (try clear hb2)
              (try clear hk)
              (try clear hi)
              (try clear hna_)
              (try clear hnb_)
              refine hK.out _ _ ⟨(blk_cell BK1089.out 0).trans rfl, (blk_cell BK1089.out 1).trans rfl, (blk_cell BK1089.out 2).trans rfl, (blk_cell BK1089.out 3).trans rfl, HS4_, HS5_⟩ (fun hHeld => ?_)
              clear hK K
              refine norm_ (a' := ?_) ?_ ?_
              rotate_left
              ·show Act.put _ (some 38) _ = _
               simp only [Act.put, List.setIfInBounds_toArray, List.set_cons_zero, List.set_cons_succ, i64_w, i32_w]
               rfl
              refine pure_ (i := 9) (N := some 29) (v := ?_) (a' := ?_) #[true, true, true, true, true, true, true, true, true, true, false, false, false, false] rfl rfl (any_of HT_.out (by kernel_rfl)) (fun _ _ _ h => h) (Or.inl ⟨by rfl, ?_⟩) ?_ ?_
              rotate_left
              ·intro w'
               go_simp
               with_reducible rfl
              rotate_left
              ·simp only [Act.put, List.setIfInBounds_toArray, List.set_cons_zero, List.set_cons_succ, i64_w, i32_w]
               rfl
              refine pure_ (i := 10) (N := some 39) (v := ?_) (a' := ?_) #[true, true, true, true, true, true, true, true, true, true, true, false, false, false] rfl rfl (any_of HT_.out (by kernel_rfl)) (fun _ _ _ h => h) (Or.inl ⟨by rfl, ?_⟩) ?_ ?_
              rotate_left
              ·intro w'
               go_simp
               with_reducible rfl
              rotate_left
              ·simp only [Act.put, List.setIfInBounds_toArray, List.set_cons_zero, List.set_cons_succ, i64_w, i32_w]
               rfl
              refine pure_ (i := 11) (N := some 40) (v := ?_) (a' := ?_) #[true, true, true, true, true, true, true, true, true, true, true, true, false, false] rfl rfl (any_of HT_.out (by kernel_rfl)) (fun _ _ _ h => h) (Or.inl ⟨by rfl, ?_⟩) ?_ ?_
              rotate_left
              ·intro w'
               go_simp
               with_reducible rfl
              rotate_left
              ·simp only [Act.put, List.setIfInBounds_toArray, List.set_cons_zero, List.set_cons_succ, i64_w, i32_w]
               rfl
              refine pure_ (i := 12) (N := some 9) (v := ?_) (a' := ?_) #[true, true, true, true, true, true, true, true, true, true, true, true, true, false] rfl rfl (any_of HT_.out (by kernel_rfl)) (fun _ _ _ h => h) (Or.inl ⟨by rfl, ?_⟩) ?_ ?_
              rotate_left
              ·intro w'
               go_simp
               with_reducible rfl
              rotate_left
              ·simp only [Act.put, List.setIfInBounds_toArray, List.set_cons_zero, List.set_cons_succ, i64_w, i32_w]
               rfl
              refine pure_ (i := 13) (N := some 10) (v := ?_) (a' := ?_) #[true, true, true, true, true, true, true, true, true, true, true, true, true, true] rfl rfl (any_of HT_.out (by kernel_rfl)) (fun _ _ _ h => h) (Or.inl ⟨by rfl, ?_⟩) ?_ ?_
              rotate_left
              ·intro w'
               go_simp
               with_reducible rfl
              rotate_left
              ·simp only [Act.put, List.setIfInBounds_toArray, List.set_cons_zero, List.set_cons_succ, i64_w, i32_w]
               rfl
              refine done_ (done_of HT_.out (by kernel_rfl)) ?_
              try go_wp2
              (try simp only [← hl5_2])
              go_roundg k2
              case measure => have := HK1.out; have := HK2.out; omega
              case rel => exact ⟨(x5_2), (wrap64 (x25_2 + 1)), (by first | rfl | (simp; done) | (simp [*]; done)), H', ⟨by have := HK1.out; have := HK2.out; omega⟩, ⟨by (try simp only [hl5_1]); (try simp only [hl5_2]); (with_reducible repeat (first | apply Kd.S_alloc | apply Kd.S_drewN | apply Kd.S_drew)); exact HO_5.out⟩, ⟨by (try simp only [hl5_1]); (try simp only [hl5_2]); (with_reducible repeat (first | apply Kd.S_alloc | apply Kd.S_drewN | apply Kd.S_drew)); exact HO_23.out⟩, ⟨by (try simp only [hl5_1]); (try simp only [hl5_2]); (with_reducible repeat (first | refine blk_drewN ?_ _ | refine blk_drew ?_ | refine blk_alloc ?_ _)); exact BK1089.out⟩, ⟨by (try simp only [hl5_1]); (try simp only [hl5_2]); (with_reducible repeat (first | refine blk_drewN ?_ _ | refine blk_drew ?_ | refine blk_alloc ?_ _)); exact BK1090.out⟩, ⟨(by first | exact HNB1113.out | exact Nat.le_trans HNB1113.out (by simp))⟩, ⟨by repeat (first | (with_reducible first | exact HB.out | apply below_alloc | apply pw_below_drewN | apply below_drew1 | refine below_set ?_ GE1089.out | refine below_set ?_ GE1090.out) | exact HB.out)⟩⟩
            ·rw [if_neg c23] at H
             exact absurd H (by simp)
           ·rw [if_neg c22] at H
            exact absurd H (by simp)
          ·rw [if_neg c21] at H
           exact absurd H (by simp)
         ·rw [if_neg c20] at H
          exact absurd H (by simp)
        ·rw [if_neg c19] at H
         have c19b0 : decide (x25_2 < (t1094.length : Int)) = false := decide_eq_false c19
         have c19b8 := c19b0
         (try simp only [hl5_1, hl5_2] at c19b8)
         clear c19
         by_cases c46 : 0 ≤ x19_1
         ·rw [if_pos c46] at H
          have c46b0 : decide (0 ≤ x19_1) = true := decide_eq_true c46
          clear c46
          by_cases c47 : x19_1 < (x5_2.length : Int)
          ·rw [if_pos c47] at H
           have c47b0 : decide (x19_1 < (x5_2.length : Int)) = true := decide_eq_true c47
           have c47b8 := c47b0
           (try simp only [hl5_1, hl5_2] at c47b8)
           clear c47
           by_cases c48 : (rd_L1 x5_2 x19_1).length < 4611686018427387904
           ·rw [if_pos c48] at H
            have LMc48 := Aside0.mk c48
            clear c48
            obtain ⟨y1098, hy1098⟩ : ∃ y_ : List (List Int), y_ = (x5_2.set (x19_1 : Int).toNat (sortL (rd_L1 x5_2 x19_1))) := ⟨_, rfl⟩
            replace H : (impl_Around_near.l0 k2 y1098 (y1091.length : Int) (wrap64 (x19_1 + 1)) a0_0 a0_1 a0_2 a0_3 a1_0 a1_1) = some r := by first | (rw [hy1098]; with_reducible exact H) | (have H2_ := (Option.bind_some _ _).symm.trans H; rw [hy1098]; with_reducible exact H2_) | (have H2_ := (Option.bind_some _ _).symm.trans H; with_reducible exact H2_) | with_reducible exact H | (rw [hy1098]; exact H) | exact H
            have Ny1098 := Aside0.mk hy1098
            clear hy1098
            have H' := Aside0.mk H
            clear H
            have p1097 : 0 ≤ (x19_1 : Int) := of_decide_eq_true (by first | (with_reducible assumption) | assumption)
            have q1097 : x19_1 < (x5_2.length : Int) := of_decide_eq_true (by first | (with_reducible assumption) | assumption)
            obtain ⟨ad1097, A1097_0, c1097_0, e1097, hx1097_0, hl1097_0, hi1097_0⟩ := at_L1 (Kd.S_reads' HO_5.out).2.2 x19_1 p1097 q1097
            cases e1097
            obtain ⟨ce1097, hce1097, hMe1097, hcc1097⟩ := Kd.S_get HO_5.out [] x19_1 p1097 (by first | exact q1097 | exact of_decide_eq_true (by first | (with_reducible assumption) | assumption) | (have e_ := (Kd.S_reads' HO_5.out).1; omega))
            obtain ⟨ve1097_0, rfl, ge1097_0⟩ := hMe1097
            have hv1097_0 := hcc1097 0 _ rfl
            rw [Nat.add_zero, show ((Kd.slice 3 (Kd.int .i64))).sz = 1 from rfl, Nat.mul_one] at hv1097_0
            replace hv1097_0 := Option.some.inj (hv1097_0.symm.trans hx1097_0)
            rw [hv1097_0] at ge1097_0
            have HL1097_0 := Aside0.mk (show Kd.R (Kd.int .i64) 3 _ _ _ _ (rd_L1 x5_2 x19_1) from ge1097_0)
            clear hv1097_0 ge1097_0
            have HX1097_0 := Aside0.mk hx1097_0
            clear hcc1097 hce1097
            have HR1097_0 := Aside0.mk hi1097_0
            have HC1097_0 := Aside0.mk hl1097_0
            clear hi1097_0 hl1097_0
            replace p1097 := eq_true p1097
            replace q1097 := eq_true q1097
            have hq49 : (x19_1 : Int) < (x5_2.length : Int) := (by have h_ : (x19_1 : Int) < ((x5_2.length : Int) : Int) := of_decide_eq_true (by first | (with_reducible assumption) | assumption); first | exact h_ | (have e_ := (Kd.S_reads' HO_5.out).1; omega) | simpa only [List.length_set, List.length_set] using h_)
            obtain ⟨oki49, ce49, hcl49, hM49, hcc49, hok49, hbk49⟩ := Kd.S_borrow HO_5.out [] (x19_1 : Int) (of_decide_eq_true (by first | (with_reducible assumption) | assumption)) hq49
            obtain ⟨ve49_0, rfl, ge49_0⟩ := hM49
            have hv49 := hcc49 0 _ rfl
            rw [Nat.add_zero, show ((Kd.slice 3 (Kd.int .i64))).sz = 1 from rfl, Nat.mul_one] at hv49
            replace hv49 := Option.some.inj (hv49.symm.trans HX1097_0.out)
            subst hv49
            clear hcc49 hcl49
            have HP49 := Aside0.mk (show Kd.R (Kd.int .i64) 3 _ w.heap.size oki49 _ (rd_L1 x5_2 x19_1) from ge49_0)
            have HBK49 := Aside0.mk @hbk49
            clear hbk49 ge49_0
            go_wp2_with (first | ((with_reducible refine gate_callee (f := 98) rfl ?_); refine goesL_ (some 71) rfl rfl Try.func98 (by kernel_rfl) rfl #[.slice A1097_0 (rd_L1 x5_2 x19_1).length c1097_0] rfl (by (try simp only [List.map_toArray, List.map_cons, List.map_nil]); first | done | rfl | (simp only [List.length_drop, List.length_take]; rfl)) ?_; (with_reducible refine (slices_Sort_int_int.inrow _ _ _ _ (rd_L1 x5_2 x19_1) (by first | exact HP49.out | (repeat (first | (with_reducible apply Kd.R_alloc) | (with_reducible apply Kd.R_drewN) | (with_reducible apply Kd.R_drew))); exact HP49.out) LMc48.out).mono ?_); rintro e w50 ⟨rfl, hz_, hg⟩; refine ⟨_, rfl, ?_⟩; have hp_ : Kd.S (Kd.slice 3 (Kd.int .i64)) 22 w50 w.heap.size (fun k_ => some k_ ≠ (.slice Ao18 t1094.length co18 : Value).ownBlock ∧ k_ ≠ (rngIn na1113_ nb1113_ k_)) (.slice (some ad1097) x5_2.length co12) y1098 := (by rw [Ny1098.out]; exact HBK49.out hg (fun k_ e_ => HP49.out.1 k_ e_) (Kd.M_row hz_)); have n0_ := Aside0.mk (hp_); have n1_ := Aside0.mk (Kd.S_grown (by (with_reducible repeat (first | apply Kd.S_alloc | apply Kd.S_drewN | apply Kd.S_drew)); exact HO_23.out) hg (by exact fun k_ hk_ e_ => rng_apart (hk_.2) ((HL1097_0.out.1 k_ e_.symm).1.2))); have n2_ := Aside0.mk (blk_grown (g := gb1089) (o := .cells #[.int .i64 a0_0, .int .i64 a0_1, .bool a0_2, .bool a0_3] 51 (0, 0)) (by (with_reducible repeat (first | refine blk_drewN ?_ _ | refine blk_drew ?_ | refine blk_alloc ?_ _)); exact BK1089.out) hg (Kd.R_ne HL1097_0.out BK1089.out (by decide))); have n3_ := Aside0.mk (blk_grown (g := gb1090) (o := .cells #[.int .i64 a1_0, .int .i64 a1_1] 32 (0, 0)) (by (with_reducible repeat (first | refine blk_drewN ?_ _ | refine blk_drew ?_ | refine blk_alloc ?_ _)); exact BK1090.out) hg (Kd.R_ne HL1097_0.out BK1090.out (by decide))); have n4_ := Aside0.mk (pw_below_grown (by repeat (first | (with_reducible first | exact HB.out | apply below_alloc | apply pw_below_drewN | apply below_drew1 | refine below_set ?_ GE1089.out | refine below_set ?_ GE1090.out) | exact HB.out)) _ (below_size (by repeat (first | (with_reducible first | exact HB.out | apply below_alloc | apply pw_below_drewN | apply below_drew1 | refine below_set ?_ GE1089.out | refine below_set ?_ GE1090.out) | exact HB.out))) hg (Kd.R_base HP49.out)); have n5_ := Aside0.mk (show nb1113_ ≤ w50.heap.size from (by first | exact Nat.le_trans HNB1113.out hb.size | exact Nat.le_trans HNB1113.out hg.size | exact Nat.le_trans HNB1113.out (Nat.le_trans (by simp) hb.size) | exact Nat.le_trans HNB1113.out (Nat.le_trans (by simp) hg.size) | (rw [hw]; simpa using HNB1113.out) | exact HNB1113.out)); clear HO_5; clear HO_23; clear BK1089; clear BK1090; clear HB; clear HNB1113; clear HL1097_0; have HO_5 := n0_; have HO_23 := n1_; have BK1089 := n2_; have BK1090 := n3_; have HB := n4_; have HNB1113 := n5_; clear n0_ n1_ n2_ n3_ n4_ n5_; clear hg hz_ hp_ HP49 HBK49))
            (try simp only [← hl5_1, ← hl5_2])
            go_roundg k2
            case measure => have := HK1.out; have := HK2.out; omega
            case rel => exact ⟨(y1098), (wrap64 (x19_1 + 1)), (by first | rfl | (simp; done) | (simp [*]; done)), H', ⟨by have := HK1.out; have := HK2.out; omega⟩, ⟨by (try simp only [hl5_1]); (try simp only [hl5_2]); (with_reducible repeat (first | apply Kd.S_alloc | apply Kd.S_drewN | apply Kd.S_drew)); exact Kd.S_mono HO_5.out (fun _ hk => trivial)⟩, ⟨by (try simp only [hl5_1]); (try simp only [hl5_2]); (with_reducible repeat (first | refine blk_drewN ?_ _ | refine blk_drew ?_ | refine blk_alloc ?_ _)); exact BK1089.out⟩, ⟨by (try simp only [hl5_1]); (try simp only [hl5_2]); (with_reducible repeat (first | refine blk_drewN ?_ _ | refine blk_drew ?_ | refine blk_alloc ?_ _)); exact BK1090.out⟩, ⟨by repeat (first | (with_reducible first | exact HB.out | apply below_alloc | apply pw_below_drewN | apply below_drew1 | refine below_set ?_ GE1089.out | refine below_set ?_ GE1090.out) | exact HB.out)⟩⟩
           ·rw [if_neg c48] at H
            exact absurd H (by simp)
          ·rw [if_neg c47] at H
           exact absurd H (by simp)
         ·rw [if_neg c46] at H
          exact absurd H (by simp)
     ·rw [if_neg c13] at H
      have c13b0 : decide (x19_1 < (y1091.length : Int)) = false := decide_eq_false c13
      have c13b8 := c13b0
      (try simp only [hl5_1] at c13b8)
      clear c13
      obtain rfl := Option.some.inj H
      go_wp2
      go_ret
      exact ⟨_, by first | rfl | (simp [errW_none, errW_some] <;> rfl) | (simp only [← hji3]; first | rfl | (simp [errW_none, errW_some] <;> rfl)) | (simp [*, errW_none, errW_some] <;> rfl), by (with_reducible repeat (first | apply Kd.S_alloc | apply Kd.S_drewN | apply Kd.S_drew)); exact HO_5.out, by repeat (first | (with_reducible first | exact HB.out | apply below_alloc | apply pw_below_drewN | apply below_drew1 | refine below_set ?_ GE1089.out | refine below_set ?_ GE1090.out) | exact HB.out)⟩
  ·rw [if_neg c5] at H
   exact absurd H (by simp)
 ·rw [if_neg c4] at H
  exact absurd H (by simp)

end Go.Proofs.Ytekajjhjjnfdpaa.Q

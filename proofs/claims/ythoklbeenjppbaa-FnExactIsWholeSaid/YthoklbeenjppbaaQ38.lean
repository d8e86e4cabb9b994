/- Written by a program of this session: functions of the translation as plain Lean functions, each with a proof that the call does what the plain function says; the conditions stand in each theorem. -/
import Derived.Test.YthoklbeenjppbaaQ0
import Derived.Test.YthoklbeenjppbaaQ1
import Derived.Test.YthoklbeenjppbaaQ4
import Derived.Test.YthoklbeenjppbaaQ8
import Derived.Test.YthoklbeenjppbaaQ13
import Derived.Test.YthoklbeenjppbaaQ14
namespace Go.Proofs.Ythoklbeenjppbaa.Q
open Go.RowKit Go.Proofs.YthoklbeenjppbaaW.PrintWords Go.Proofs.YthoklbeenjppbaaW.PrintLast Go.Proofs.YthoklbeenjppbaaW.PrintMore
attribute [local go_sem] max2_int min2_int max_two min_two max_three min_three max_four min_four   -- for this text's walks alone
set_option linter.unusedVariables false
set_option linter.unusedSimpArgs false

theorem zam1 {p : Prop} (h : p := by repeat (first | (with_reducible first | exact HB.out | apply below_alloc | apply pw_below_drewN | apply below_drew1 | refine below_set ?_ GE955.out | refine below_set ?_ GE956.out) | exact HB.out)) : p := h
theorem zam2 {p : Prop} (h : p := by repeat (first | (with_reducible first | exact HB.out | apply below_alloc | apply pw_below_drewN | apply below_drew1 | refine below_set ?_ GE0.out) | exact HB.out)) : p := h
theorem zam3 {p : Prop} (h : p := by repeat (first | (with_reducible first | exact HB.out | apply below_alloc | apply pw_below_drewN | apply below_drew1) | exact HB.out)) : p := h
theorem zam4 {p : Prop} (h : p := by repeat (first | (with_reducible first | exact HB.out | apply below_alloc | apply pw_below_drewN | apply below_drew1 | refine below_set ?_ GE998.out | refine below_set ?_ GE999.out) | exact HB.out)) : p := h
theorem zam5 {p : Prop} (h : p := by first | (with_reducible assumption) | assumption) : p := h
theorem zam6 {p : Prop} (h : p := by repeat (first | exact (Kd.C_below HR0_2.out HB.out) | (with_reducible refine Kd.C_alloc ?_ _) | (with_reducible refine Kd.C_drewN ?_ _) | (with_reducible refine Kd.C_drew ?_))) : p := h
theorem zam7 {p : Prop} (h : p := by (with_reducible repeat (first | refine blk_drewN ?_ _ | refine blk_drew ?_ | refine blk_alloc ?_ _)); exact BK955.out) : p := h
theorem zam8 {p : Prop} (h : p := by (with_reducible repeat (first | refine blk_drewN ?_ _ | refine blk_drew ?_ | refine blk_alloc ?_ _)); exact BK998.out) : p := h
theorem zam9 {p : Prop} (h : p := by (try simp only [List.map_toArray, List.map_cons, List.map_nil]); first | done | rfl | (simp only [List.length_drop, List.length_take]; rfl)) : p := h
theorem zam10 {p : Prop} (h : p := by repeat (first | (with_reducible first | exact HB.out | apply below_alloc | apply pw_below_drewN | apply below_drew1 | refine below_set ?_ GE976.out | refine below_set ?_ GE977.out) | exact HB.out)) : p := h
theorem zam11 {p : Prop} (h : p := by (with_reducible repeat (first | refine blk_drewN ?_ _ | refine blk_drew ?_ | refine blk_alloc ?_ _)); exact BK976.out) : p := h
theorem zam12 {p : Prop} (h : p := by (with_reducible repeat (first | refine blk_drewN ?_ _ | refine blk_drew ?_ | refine blk_alloc ?_ _)); exact BK956.out) : p := h
theorem zam13 {p : Prop} (h : p := by (with_reducible repeat (first | refine blk_drewN ?_ _ | refine blk_drew ?_ | refine blk_alloc ?_ _)); exact BK0.out) : p := h
theorem zam14 {p : Prop} (h : p := by repeat (first | (with_reducible first | exact HB.out | apply below_alloc | apply pw_below_drewN | apply below_drew1 | refine below_set ?_ GE998.out) | exact HB.out)) : p := h
theorem zam15 {p : Prop} (h : p := by repeat (first | (with_reducible first | exact HB.out | apply below_alloc | apply pw_below_drewN | apply below_drew1 | refine below_set ?_ GE976.out) | exact HB.out)) : p := h
theorem zam16 {p : Prop} (h : p := by (with_reducible repeat (first | apply Kd.R_alloc | apply Kd.R_drewN | apply Kd.R_drew)); exact HO_19.out) : p := h
theorem zam17 {p : Prop} (h : p := by (with_reducible repeat (first | apply Kd.S_alloc | apply Kd.S_drewN | apply Kd.S_drew)); exact HO_6.out) : p := h
theorem zam18 {p : Prop} (h : p := by (with_reducible repeat (first | apply Kd.S_alloc | apply Kd.S_drewN | apply Kd.S_drew)); exact HO_3.out) : p := h
theorem zam19 {p : Prop} (h : p := by first | rfl | (simp; done) | (simp [*]; done)) : p := h
theorem zam20 {p : Prop} (h : p := by (with_reducible repeat (first | refine blk_drewN ?_ _ | refine blk_drew ?_ | refine blk_alloc ?_ _)); exact BK999.out) : p := h
theorem zam21 {p : Prop} (h : p := by repeat (first | (with_reducible first | exact HB.out | apply below_alloc | apply pw_below_drewN | apply below_drew1 | refine below_set ?_ GE998.out | refine below_set ?_ GE999.out | refine below_set ?_ GE1006.out) | exact HB.out)) : p := h
theorem zam22 {p : Prop} (h : p := by (with_reducible repeat (first | apply Kd.R_alloc | apply Kd.R_drewN | apply Kd.R_drew)); exact HO_5.out) : p := h
theorem zam23 {p : Prop} (h : p := by (with_reducible repeat (first | apply Kd.R_alloc | apply Kd.R_drewN | apply Kd.R_drew)); exact HO_4.out) : p := h
theorem zam24 {p : Prop} (h : p := by first | rfl | (simp [errW_none, errW_some] <;> rfl) | (simp [*, errW_none, errW_some] <;> rfl)) : p := h
theorem zam25 {p : Prop} (h : p := by repeat (first | (with_reducible first | exact HB.out | apply below_alloc | apply pw_below_drewN | apply below_drew1 | refine below_set ?_ GE955.out) | exact HB.out)) : p := h
theorem zam26 {p : Prop} (h : p := by (with_reducible repeat (first | apply Kd.R_alloc | apply Kd.R_drewN | apply Kd.R_drew)); exact HO_32.out) : p := h
theorem zam27 {p : Prop} (h : p := by (with_reducible repeat (first | apply Kd.R_alloc | apply Kd.R_drewN | apply Kd.R_drew)); exact HO_31.out) : p := h
theorem zam28 {p : Prop} (h : p := by (try simp only [hl5_2]); (with_reducible repeat (first | refine blk_drewN ?_ _ | refine blk_drew ?_ | refine blk_alloc ?_ _)); exact BK956.out) : p := h
theorem zam29 {p : Prop} (h : p := by (try simp only [hl5_2]); (with_reducible repeat (first | refine blk_drewN ?_ _ | refine blk_drew ?_ | refine blk_alloc ?_ _)); exact BK955.out) : p := h
theorem zam30 {p : Prop} (h : p := by (try simp only [hl4_2]); (with_reducible repeat (first | refine blk_drewN ?_ _ | refine blk_drew ?_ | refine blk_alloc ?_ _)); exact BK0.out) : p := h
theorem zam31 {p : Prop} (h : p := by (try simp only [hl5_2]); (with_reducible repeat (first | apply Kd.R_alloc | apply Kd.R_drewN | apply Kd.R_drew)); exact HO_5.out) : p := h
theorem zam32 {p : Prop} (h : p := by (try simp only [hl4_2]); (with_reducible repeat (first | apply Kd.R_alloc | apply Kd.R_drewN | apply Kd.R_drew)); exact HO_4.out) : p := h
theorem zam33 {p : Prop} (h : p := by (with_reducible repeat (first | refine blk_drewN ?_ _ | refine blk_drew ?_ | refine blk_alloc ?_ _)); exact BK977.out) : p := h
theorem zam34 {p : Prop} (h : p := by (with_reducible repeat (first | apply Kd.R_alloc | apply Kd.R_drewN | apply Kd.R_drew)); exact HO_7.out) : p := h
theorem zam35 {p : Prop} (h : p := by have := HK1.out; have := HK2.out; omega) : p := h
theorem zam36 {p : Prop} (h : p := by first | exact Kd.S_nil _ _ _ _ _ | exact Kd.N_nil _ _ _ _ _ | exact Kd.V_nil _ _ _ _ _ | exact Kd.Q_nil _ _ _ _ _ | exact Kd.R_nil _ _ _ _ _) : p := h
theorem zam37 {p : Prop} (h : p := by first | exact Kd.R_nil _ _ _ _ _ | exact Kd.N_nil _ _ _ _ _ | exact Kd.V_nil _ _ _ _ _ | exact Kd.Q_nil _ _ _ _ _ | exact Kd.S_nil _ _ _ _ _) : p := h
theorem zam38 {p : Prop} (h : p := by (with_reducible repeat (first | refine blk_drewN ?_ _ | refine blk_drew ?_ | refine blk_alloc ?_ _)); exact BK1006.out) : p := h
theorem zam39 {p : Prop} (h : p := by rw [hg]; exact (below_size zam3)) : p := h
theorem zam40 {p : Prop} (h : p := by rw [hg]; exact Nat.ne_of_lt (blk_lt (g := gb976) (o := .cells #[.int .i64 a0_0, .int .i64 a0_1, .slice A0_2 l0_2.length c0_2] 30 (0, 0)) zam11)) : p := h
theorem zam41 {p : Prop} (h : p := by rw [hg]; exact Nat.ne_of_gt (blk_lt (g := gb976) (o := .cells #[.int .i64 a0_0, .int .i64 a0_1, .slice A0_2 l0_2.length c0_2] 30 (0, 0)) zam11)) : p := h
theorem zam42 {p : Prop} (h : p := by rw [hg]; exact Nat.ne_of_lt (blk_lt (g := gb998) (o := .cells #[.int .i64 a0_0, .int .i64 a0_1, .slice A0_2 l0_2.length c0_2] 30 (0, 0)) zam8)) : p := h
theorem zam43 {p : Prop} (h : p := by rw [hg]; exact Nat.ne_of_gt (blk_lt (g := gb998) (o := .cells #[.int .i64 a0_0, .int .i64 a0_1, .slice A0_2 l0_2.length c0_2] 30 (0, 0)) zam8)) : p := h
/-! ### spec_faParts: function 76 -/
mutual
def spec_faParts.l0 : Nat → List Bool → List (List Int) → List Int → Int → Int → Int → Int → List Int → Int → Int → Option ((List (List Int)))
 | 0, _, _, _, _, _, _, _, _, _, _ => none
 | k + 1, x5, x6, x19, x20, x21, x956000, x956001, x956002, x957000, x957001 => if x21 < x20 then (if 0 ≤ x21 then (if x21 < (x19.length : Int) then (if 0 ≤ (rd x19 x21) then (if (rd x19 x21) < (x5.length : Int) then (if rdOf false x5 (rd x19 x21) = true then (spec_faParts.l0 k x5 x6 x19 x20 (wrap64 (x21 + 1)) x956000 x956001 x956002 x957000 x957001) else ((spec_faFrom.f k x956000 x956001 x956002 x957000 x957001 (rd x19 x21)).bind fun t965 => (spec_faParts.l1 k x5 x6 ([] : List Int) x19 x20 x21 t965 (t965.length : Int) 0 x956000 x956001 x956002 x957000 x957001))) else (none)) else (none)) else (none)) else (none)) else (some x6)
def spec_faParts.l1 : Nat → List Bool → List (List Int) → List Int → List Int → Int → Int → List Int → Int → Int → Int → Int → List Int → Int → Int → Option ((List (List Int)))
 | 0, _, _, _, _, _, _, _, _, _, _, _, _, _, _ => none
 | k + 1, x5, x6, x9, x19, x20, x21, x32, x33, x34, x956000, x956001, x956002, x957000, x957001 => if x34 < x33 then (if 0 ≤ x34 then (if x34 < (x32.length : Int) then (if (rd x32 x34) ≥ 0 then (if x9.length < 17592186044416 then (if x34 < (x5.length : Int) then (spec_faParts.l1 k (x5.set (x34 : Int).toNat true) x6 (x9 ++ [x34]) x19 x20 x21 x32 x33 (wrap64 (x34 + 1)) x956000 x956001 x956002 x957000 x957001) else (none)) else (none)) else (spec_faParts.l1 k x5 x6 x9 x19 x20 x21 x32 x33 (wrap64 (x34 + 1)) x956000 x956001 x956002 x957000 x957001)) else (none)) else (none)) else (if x6.length < 5864062014805 then (spec_faParts.l0 k x5 (x6 ++ [x9]) x19 x20 (wrap64 (x21 + 1)) x956000 x956001 x956002 x957000 x957001) else (none))
end
def spec_faParts.f (k : Nat) (a0_0 : Int) (a0_1 : Int) (l0_2 : List Int) (a1_0 : Int) (a1_1 : Int) : Option ((List (List Int))) := if 0 ≤ (wrap64 (a0_0 * a0_1)) then (if (wrap64 (a0_0 * a0_1) : Int).toNat ≤ 281474976710656 then ((spec_boCells.f k a0_0 a0_1 l0_2).bind fun t960 => (spec_faParts.l0 k (List.replicate (wrap64 (a0_0 * a0_1) : Int).toNat false) ([] : List (List Int)) t960 (t960.length : Int) 0 a0_0 a0_1 l0_2 a1_0 a1_1)) else (none)) else (none)
set_option maxHeartbeats 8000000 in
set_option maxRecDepth 100000 in
theorem spec_faParts.calls (k : Nat) (a0_0 : Int) (a0_1 : Int) (A0_2 : Option Addr) (c0_2 : Nat) (l0_2 : List Int) (a1_0 : Int) (a1_1 : Int) (r : List (List Int)) (w : World) (hr0_2 : Kd.C (Kd.int .i64) w A0_2 l0_2.length l0_2) (hc0_2 : l0_2.length ≤ c0_2) (h : spec_faParts.f k a0_0 a0_1 l0_2 a1_0 a1_1 = some r) :
  Calls Try.prog 76 #[.agg #[.int .i64 a0_0, .int .i64 a0_1, .slice A0_2 l0_2.length c0_2], .agg #[.int .i64 a1_0, .int .i64 a1_1]] w fun e w' => ∃ v0_ : Value, e = .returned (v0_) ∧ Kd.S (Kd.slice 3 (Kd.int .i64)) 22 w' w.heap.size (fun _ => True) v0_ r ∧ Below w.heap.size w w' := by
 have hu30 := Try.underlying30
 have hu32 := Try.underlying32
 have HR0_2 := Aside0.mk hr0_2
 have HC0_2 := Aside0.mk hc0_2
 clear hr0_2 hc0_2
 have HB := Aside0.mk (Below.refl w.heap.size w)
 have H : (if 0 ≤ (wrap64 (a0_0 * a0_1)) then (if (wrap64 (a0_0 * a0_1) : Int).toNat ≤ 281474976710656 then ((spec_boCells.f k a0_0 a0_1 l0_2).bind fun t960 => (spec_faParts.l0 k (List.replicate (wrap64 (a0_0 * a0_1) : Int).toNat false) ([] : List (List Int)) t960 (t960.length : Int) 0 a0_0 a0_1 l0_2 a1_0 a1_1)) else (none)) else (none)) = some r := h
 clear h
 obtain ⟨ji3, hji3⟩ : ∃ j_ : Int, (wrap64 (a0_0 * a0_1)) = j_ := ⟨_, rfl⟩
 replace H : (if 0 ≤ (ji3) then (if (ji3 : Int).toNat ≤ 281474976710656 then ((spec_boCells.f k a0_0 a0_1 l0_2).bind fun t960 => (spec_faParts.l0 k (List.replicate (ji3 : Int).toNat false) ([] : List (List Int)) t960 (t960.length : Int) 0 a0_0 a0_1 l0_2 a1_0 a1_1)) else (none)) else (none)) = some r := by first | (rw [hji3] at H; exact H) | (simp only [hji3] at H ⊢; exact H)
 have hji3w : (IntKind.i64.wrap (a0_0 * a0_1)) = ji3 := (i64_w _).trans hji3
 by_cases c4 : 0 ≤ (ji3)
 rotate_left
 ·rw [if_neg c4] at H
  exact absurd H (by simp)
 rw [if_pos c4] at H
 have c4b0 := eq_true c4
 have c4b1 : decide (0 ≤ (ji3)) = true := decide_eq_true c4
 clear c4
 by_cases c5 : (ji3 : Int).toNat ≤ 281474976710656
 rotate_left
 ·rw [if_neg c5] at H
  exact absurd H (by simp)
 rw [if_pos c5] at H
 have c5b0 := eq_true c5
 have c5b1 : decide ((ji3 : Int).toNat ≤ 281474976710656) = true := decide_eq_true c5
 clear c5
 obtain ⟨y957, hy957⟩ : ∃ y_ : List Bool, y_ = (List.replicate (ji3 : Int).toNat false) := ⟨_, rfl⟩
 replace H : ((spec_boCells.f k a0_0 a0_1 l0_2).bind fun t960 => (spec_faParts.l0 k y957 ([] : List (List Int)) t960 (t960.length : Int) 0 a0_0 a0_1 l0_2 a1_0 a1_1)) = some r := by first | (rw [hy957]; with_reducible exact H) | (have H2_ := (Option.bind_some _ _).symm.trans H; rw [hy957]; with_reducible exact H2_) | (have H2_ := (Option.bind_some _ _).symm.trans H; with_reducible exact H2_) | with_reducible exact H | (rw [hy957]; exact H) | exact H
 have Ny957 := Aside0.mk hy957
 clear hy957
 replace H := Option.bind_eq_some_iff.mp H
 obtain ⟨t960, A60, H⟩ := H
 replace H : (spec_faParts.l0 k y957 ([] : List (List Int)) t960 (t960.length : Int) 0 a0_0 a0_1 l0_2 a1_0 a1_1) = some r := H
 have A6 := Aside0.mk A60
 clear A60
 have H' := Aside0.mk H
 clear H
 go_enter Try.func76, Try.ntmps76
 go_wp2_with (first | ((with_reducible refine gate_dst (N := 2) rfl ?_); refine box_event ?hg (N := 2) ?hd (cs := #[.int .i64 a0_0, .int .i64 a0_1, .slice A0_2 l0_2.length c0_2]) (t := 30) ?hr ?_; (case hd => rfl); (case hg => rfl); (case hr => first | (go_simp; done) | (go_simp; rfl)); intro gb955 hg w7 hbox hb; have n0_ := Aside0.mk (below_step zam3 hb); have n1_ := Aside0.mk (hbox); have n2_ := Aside0.mk ((zam39 : w.heap.size ≤ gb955)); have n3_ := Aside0.mk ((zam39 : w.heap.size ≤ gb955)); clear HB; have HB := n0_; have BK955 := n1_; have GW955 := n2_; have GE955 := n3_; clear n0_ n1_ n2_ n3_; clear hb hbox hg) | ((with_reducible refine gate_dst (N := 3) rfl ?_); refine box_event ?hg (N := 3) ?hd (cs := #[.int .i64 a1_0, .int .i64 a1_1]) (t := 32) ?hr ?_; (case hd => rfl); (case hg => rfl); (case hr => first | (go_simp; done) | (go_simp; rfl)); intro gb956 hg w8 hbox hb; have n0_ := Aside0.mk (blk_below (g := gb955) (o := .cells #[.int .i64 a0_0, .int .i64 a0_1, .slice A0_2 l0_2.length c0_2] 30 (0, 0)) zam7 hb); have n1_ := Aside0.mk (below_step zam25 hb); have n2_ := Aside0.mk (hbox); have n3_ := Aside0.mk ((by rw [hg]; exact (below_size zam25) : w.heap.size ≤ gb956)); have n4_ := Aside0.mk ((by rw [hg]; exact (below_size zam25) : w.heap.size ≤ gb956)); have n5_ := Aside0.mk ((by rw [hg]; exact Nat.ne_of_lt (blk_lt (g := gb955) (o := .cells #[.int .i64 a0_0, .int .i64 a0_1, .slice A0_2 l0_2.length c0_2] 30 (0, 0)) zam7) : gb955 ≠ gb956)); have n6_ := Aside0.mk ((by rw [hg]; exact Nat.ne_of_gt (blk_lt (g := gb955) (o := .cells #[.int .i64 a0_0, .int .i64 a0_1, .slice A0_2 l0_2.length c0_2] 30 (0, 0)) zam7) : gb956 ≠ gb955)); clear BK955; clear HB; have BK955 := n0_; have HB := n1_; have BK956 := n2_; have GW956 := n3_; have GE956 := n4_; have NB955_956 := n5_; have NB956_955 := n6_; clear n0_ n1_ n2_ n3_ n4_ n5_ n6_; clear hb hbox hg; have hnb9 := NB955_956.out; have hnc9 := NB956_955.out; have hcz10_0 : w8.cell? ⟨gb955, 0, none⟩ = some (.int .i64 a0_0) := (blk_cell BK955.out 0).trans rfl; have hcz10_1 : w8.cell? ⟨gb955, 1, none⟩ = some (.int .i64 a0_1) := (blk_cell BK955.out 1).trans rfl; have hcz10_2 : w8.cell? ⟨gb955, 2, none⟩ = some (.slice A0_2 l0_2.length c0_2) := (blk_cell BK955.out 2).trans rfl; have hfz10_0 := blk_frozen BK955.out 0; have hfz10_1 := blk_frozen BK955.out 1; have hfz10_2 := blk_frozen BK955.out 2) | ((with_reducible refine gate_dst (N := 17) rfl ?_); refine Kd.R_make Kd.bool _ 4 rfl (N := 17) rfl 86 _ _ rfl ji3 rfl rfl Try.underlying86 (.bool false) 1 info4 rfl (by decide) (by omega) false (ok := fun _ => True) (okp := fun _ => True) rfl (fun _ hk => hk) trivial (of_decide_eq_true zam5) (Nat.le_trans (Nat.mul_le_mul_right _ (of_decide_eq_true zam5 : ji3.toNat ≤ 281474976710656)) (by omega)) (Below.refl _ _) (Nat.le_refl _) ?_; intro v958 w11 ho12 hb hg_ hnew_; clear hg_ hnew_; (first | rw [← Ny957.out] at ho12 | (simp only [Int.reduceToNat] at ho12; rw [← Ny957.out] at ho12)); have n0_ := Aside0.mk (Kd.R_lower ho12 (below_size zam1)); have n1_ := Aside0.mk (blk_below (g := gb955) (o := .cells #[.int .i64 a0_0, .int .i64 a0_1, .slice A0_2 l0_2.length c0_2] 30 (0, 0)) zam7 hb); have n2_ := Aside0.mk (blk_below (g := gb956) (o := .cells #[.int .i64 a1_0, .int .i64 a1_1] 32 (0, 0)) zam12 hb); have n3_ := Aside0.mk (below_step zam1 hb); clear BK955; clear BK956; clear HB; have HO959 := n0_; have BK955 := n1_; have BK956 := n2_; have HB := n3_; clear n0_ n1_ n2_ n3_; clear hb ho12; have hcz13_0 : w11.cell? ⟨gb955, 0, none⟩ = some (.int .i64 a0_0) := (blk_cell BK955.out 0).trans rfl; have hcz13_1 : w11.cell? ⟨gb955, 1, none⟩ = some (.int .i64 a0_1) := (blk_cell BK955.out 1).trans rfl; have hcz13_2 : w11.cell? ⟨gb955, 2, none⟩ = some (.slice A0_2 l0_2.length c0_2) := (blk_cell BK955.out 2).trans rfl; have hfz13_0 := blk_frozen BK955.out 0; have hfz13_1 := blk_frozen BK955.out 1; have hfz13_2 := blk_frozen BK955.out 2) | ((with_reducible refine gate_callee (f := 84) rfl ?_); refine goesL_ (some 19) rfl rfl Try.func84 (by kernel_rfl) rfl #[.agg #[.int .i64 a0_0, .int .i64 a0_1, .slice A0_2 l0_2.length c0_2]] rfl zam9 ?_; (with_reducible refine (spec_boCells.calls k a0_0 a0_1 _ _ l0_2 t960 _ ?side1 ?side2 A6.out).mono ?_); (case side1 => exact zam6); (case side2 => exact HC0_2.out); rintro e w14 ⟨v961, rfl, ho0, hb⟩; refine ⟨_, rfl, ?_⟩; have n0_ := Aside0.mk (Kd.R_below (by (with_reducible repeat (first | apply Kd.R_alloc | apply Kd.R_drewN | apply Kd.R_drew)); exact HO959.out) hb); have n1_ := Aside0.mk (Kd.R_lower ho0 (below_size zam1)); have n2_ := Aside0.mk (blk_below (g := gb955) (o := .cells #[.int .i64 a0_0, .int .i64 a0_1, .slice A0_2 l0_2.length c0_2] 30 (0, 0)) zam7 hb); have n3_ := Aside0.mk (blk_below (g := gb956) (o := .cells #[.int .i64 a1_0, .int .i64 a1_1] 32 (0, 0)) zam12 hb); have n4_ := Aside0.mk (below_step zam1 hb); clear HO959; clear BK955; clear BK956; clear HB; have HO959 := n0_; have HO962 := n1_; have BK955 := n2_; have BK956 := n3_; have HB := n4_; clear n0_ n1_ n2_ n3_ n4_; (try clear hb); (try clear hb2); (try clear hk); (try clear hi); (try clear ho0); (try clear hna_); (try clear hnb_); obtain ⟨Ao15, co15, eo15⟩ := Kd.R_slice HO962.out; subst eo15))
 go_loopg [6, 21] k (fun kq v6 v21 w' => ∃ (x5_1 : List Bool) (x6_1 : List (List Int)) (x21_1 : Int), v21 = .int .i64 x21_1 ∧ Aside0 (spec_faParts.l0 kq x5_1 x6_1 t960 (t960.length : Int) x21_1 a0_0 a0_1 l0_2 a1_0 a1_1 = some r) ∧ Aside0 (kq ≤ k) ∧ Aside0 (Kd.R Kd.bool 4 w' w.heap.size (fun _ => True) v958 x5_1) ∧ Aside0 (Kd.S (Kd.slice 3 (Kd.int .i64)) 22 w' w.heap.size (fun k_ => some k_ ≠ ((.slice Ao15 t960.length co15) : Value).ownBlock) v6 x6_1) ∧ Aside0 (Kd.R (Kd.int .i64) 3 w' w.heap.size (fun _ => True) (.slice Ao15 t960.length co15) t960) ∧ Aside0 (w'.heap[gb955]? = some (.cells #[.int .i64 a0_0, .int .i64 a0_1, (.slice A0_2 l0_2.length c0_2)] 30 (0, 0))) ∧ Aside0 (w'.heap[gb956]? = some (.cells #[.int .i64 a1_0, .int .i64 a1_1] 32 (0, 0))) ∧ Aside0 (Below w.heap.size w w'))
 case atStart => exact ⟨(y957), (([] : List (List Int))), (0), zam19, H', ⟨Nat.le_refl _⟩, ⟨by (with_reducible repeat (first | apply Kd.R_alloc | apply Kd.R_drewN | apply Kd.R_drew)); exact HO959.out⟩, ⟨zam36⟩, ⟨by (with_reducible repeat (first | apply Kd.R_alloc | apply Kd.R_drewN | apply Kd.R_drew)); exact HO962.out⟩, ⟨zam7⟩, ⟨zam12⟩, ⟨zam1⟩⟩
 case round =>
  clear H'
  try clear p2; try clear c4; try clear c4b0; try clear c4b1; try clear c5; try clear c5b0; try clear c5b1; try clear p6; try clear c7; try clear c8; try clear c9; try clear hcz10_0; try clear hcz10_1; try clear hcz10_2; try clear hcz13_0; try clear hcz13_1; try clear hcz13_2; try clear hfz10_0; try clear hfz10_1; try clear hfz10_2; try clear hfz13_0; try clear hfz13_1; try clear hfz13_2
  obtain ⟨x5_1, x6_1, x21_1, rfl, HA, HK1, HO_5, HO_6, HO_19, BK955, BK956, HB⟩ := hrel
  cases gk with
  | zero => exact absurd HA.out (by simp [spec_faParts.l0])
  | succ k1 =>
   have H := HA.out
   clear HA
   simp only [spec_faParts.l0] at H
   by_cases c16 : x21_1 < (t960.length : Int)
   rotate_left
   ·rw [if_neg c16] at H
    have c16b0 : decide (x21_1 < (t960.length : Int)) = false := decide_eq_false c16
    clear c16
    obtain rfl := Option.some.inj H
    go_wp2
    go_ret
    exact ⟨_, by first | rfl | (simp [errW_none, errW_some] <;> rfl) | (simp only [← hji3]; first | rfl | (simp [errW_none, errW_some] <;> rfl)) | (simp [*, errW_none, errW_some] <;> rfl), by (with_reducible repeat (first | apply Kd.S_alloc | apply Kd.S_drewN | apply Kd.S_drew)); exact Kd.S_mono HO_6.out (fun _ hk => trivial), zam1⟩
   rw [if_pos c16] at H
   have c16b0 : decide (x21_1 < (t960.length : Int)) = true := decide_eq_true c16
   clear c16
   by_cases c17 : 0 ≤ x21_1
   rotate_left
   ·rw [if_neg c17] at H
    exact absurd H (by simp)
   rw [if_pos c17] at H
   have c17b0 : decide (0 ≤ x21_1) = true := decide_eq_true c17
   clear c17
   by_cases c18 : x21_1 < (t960.length : Int)
   rotate_left
   ·rw [if_neg c18] at H
    exact absurd H (by simp)
   rw [if_pos c18] at H
   have c18b0 : decide (x21_1 < (t960.length : Int)) = true := decide_eq_true c18
   clear c18
   by_cases c19 : 0 ≤ (rd t960 x21_1)
   rotate_left
   ·rw [if_neg c19] at H
    exact absurd H (by simp)
   rw [if_pos c19] at H
   have c19b0 : decide (0 ≤ (rd t960 x21_1)) = true := decide_eq_true c19
   clear c19
   by_cases c20 : (rd t960 x21_1) < (x5_1.length : Int)
   rotate_left
   ·rw [if_neg c20] at H
    exact absurd H (by simp)
   rw [if_pos c20] at H
   have c20b0 : decide ((rd t960 x21_1) < (x5_1.length : Int)) = true := decide_eq_true c20
   clear c20
   obtain ⟨bq21, hbq21⟩ : ∃ b_ : Bool, b_ = (rdOf false x5_1 (rd t960 x21_1)) := ⟨_, rfl⟩
   replace H : (if bq21 = true then (spec_faParts.l0 k1 x5_1 x6_1 t960 (t960.length : Int) (wrap64 (x21_1 + 1)) a0_0 a0_1 l0_2 a1_0 a1_1) else ((spec_faFrom.f k1 a0_0 a0_1 l0_2 a1_0 a1_1 (rd t960 x21_1)).bind fun t965 => (spec_faParts.l1 k1 x5_1 x6_1 ([] : List Int) t960 (t960.length : Int) x21_1 t965 (t965.length : Int) 0 a0_0 a0_1 l0_2 a1_0 a1_1))) = some r := by rw [← hbq21] at H; exact H
   have Nbq21 := Aside0.mk hbq21
   clear hbq21
   by_cases c22 : bq21 = true
   ·subst c22
    have H1 : (spec_faParts.l0 k1 x5_1 x6_1 t960 (t960.length : Int) (wrap64 (x21_1 + 1)) a0_0 a0_1 l0_2 a1_0 a1_1) = some r := by rw [if_pos rfl] at H; exact H
    clear H
    have H := H1
    clear H1
    have H' := Aside0.mk H
    clear H
    have p963 : 0 ≤ (x21_1 : Int) := of_decide_eq_true zam5
    have q963 : x21_1 < (t960.length : Int) := of_decide_eq_true zam5
    obtain ⟨ad963, e963, hx963_0⟩ := Kd.at_int (Kd.R_reads' HO_19.out).2.2 x21_1 p963 q963
    cases e963
    replace p963 := eq_true p963
    replace q963 := eq_true q963
    obtain ⟨Ao23, co23, eo23⟩ := Kd.R_slice HO_5.out
    subst eo23
    have p964 : 0 ≤ ((rd t960 x21_1) : Int) := of_decide_eq_true zam5
    have q964 : (rd t960 x21_1) < (x5_1.length : Int) := of_decide_eq_true zam5
    obtain ⟨ad964, e964, hx964_0⟩ := Kd.at_bool (Kd.R_reads' HO_5.out).2.2 (rd t960 x21_1) p964 q964
    (try rw [← Nbq21.out] at hx964_0)
    cases e964
    replace p964 := eq_true p964
    replace q964 := eq_true q964
    go_wp2
    go_roundg k1
    case measure => have := HK1.out; omega
    case rel => exact ⟨(x5_1), (x6_1), (wrap64 (x21_1 + 1)), zam19, H', ⟨by have := HK1.out; omega⟩, ⟨zam22⟩, ⟨zam17⟩, ⟨zam16⟩, ⟨zam7⟩, ⟨zam12⟩, ⟨zam1⟩⟩
   replace c22 := Bool.eq_false_iff.mpr c22
   subst c22
   have H1 : ((spec_faFrom.f k1 a0_0 a0_1 l0_2 a1_0 a1_1 (rd t960 x21_1)).bind fun t965 => (spec_faParts.l1 k1 x5_1 x6_1 ([] : List Int) t960 (t960.length : Int) x21_1 t965 (t965.length : Int) 0 a0_0 a0_1 l0_2 a1_0 a1_1)) = some r := by rw [if_neg (show ¬ (false = true) by decide)] at H; exact H
   clear H
   have H := H1
   clear H1
   replace H := Option.bind_eq_some_iff.mp H
   obtain ⟨t965, A240, H⟩ := H
   replace H : (spec_faParts.l1 k1 x5_1 x6_1 ([] : List Int) t960 (t960.length : Int) x21_1 t965 (t965.length : Int) 0 a0_0 a0_1 l0_2 a1_0 a1_1) = some r := H
   have A24 := Aside0.mk A240
   clear A240
   have H' := Aside0.mk H
   clear H
   have p963 : 0 ≤ (x21_1 : Int) := of_decide_eq_true zam5
   have q963 : x21_1 < (t960.length : Int) := of_decide_eq_true zam5
   obtain ⟨ad963, e963, hx963_0⟩ := Kd.at_int (Kd.R_reads' HO_19.out).2.2 x21_1 p963 q963
   cases e963
   replace p963 := eq_true p963
   replace q963 := eq_true q963
   obtain ⟨Ao25, co25, eo25⟩ := Kd.R_slice HO_5.out
   subst eo25
   have p964 : 0 ≤ ((rd t960 x21_1) : Int) := of_decide_eq_true zam5
   have q964 : (rd t960 x21_1) < (x5_1.length : Int) := of_decide_eq_true zam5
   obtain ⟨ad964, e964, hx964_0⟩ := Kd.at_bool (Kd.R_reads' HO_5.out).2.2 (rd t960 x21_1) p964 q964
   (try rw [← Nbq21.out] at hx964_0)
   cases e964
   replace p964 := eq_true p964
   replace q964 := eq_true q964
   have hnb26 := NB955_956.out
   have hnc26 := NB956_955.out
   have hcz27_0 : wr.cell? ⟨gb955, 0, none⟩ = some (.int .i64 a0_0) := (blk_cell BK955.out 0).trans rfl
   have hcz27_1 : wr.cell? ⟨gb955, 1, none⟩ = some (.int .i64 a0_1) := (blk_cell BK955.out 1).trans rfl
   have hcz27_2 : wr.cell? ⟨gb955, 2, none⟩ = some (.slice A0_2 l0_2.length c0_2) := (blk_cell BK955.out 2).trans rfl
   have hfz27_0 := blk_frozen BK955.out 0
   have hfz27_1 := blk_frozen BK955.out 1
   have hfz27_2 := blk_frozen BK955.out 2
   have hcz28_0 : wr.cell? ⟨gb956, 0, none⟩ = some (.int .i64 a1_0) := (blk_cell BK956.out 0).trans rfl
   have hcz28_1 : wr.cell? ⟨gb956, 1, none⟩ = some (.int .i64 a1_1) := (blk_cell BK956.out 1).trans rfl
   have hfz28_0 := blk_frozen BK956.out 0
   have hfz28_1 := blk_frozen BK956.out 1
   go_wp2_with (first | ((with_reducible refine gate_callee (f := 54) rfl ?_); refine goesL_ (some 32) rfl rfl Try.func54 (by kernel_rfl) rfl #[.agg #[.int .i64 a0_0, .int .i64 a0_1, .slice A0_2 l0_2.length c0_2], .agg #[.int .i64 a1_0, .int .i64 a1_1], .int .i64 (rd t960 x21_1)] rfl zam9 ?_; (with_reducible refine (spec_faFrom.calls k1 a0_0 a0_1 _ _ l0_2 a1_0 a1_1 (rd t960 x21_1) t965 _ ?side1 ?side2 A24.out).mono ?_); (case side1 => exact zam6); (case side2 => exact HC0_2.out); rintro e w29 ⟨v966, rfl, ho0, hb⟩; refine ⟨_, rfl, ?_⟩; have n0_ := Aside0.mk (Kd.R_below zam22 hb); have n1_ := Aside0.mk (Kd.S_elder' zam17 (Kd.R_base ho0) hb); have n2_ := Aside0.mk (Kd.R_elder' zam16 (Kd.R_base ho0) hb); have n3_ := Aside0.mk (Kd.R_lower (Kd.R_new' ho0 (Kd.R_lt zam16)) (below_size zam1)); have n4_ := Aside0.mk (blk_below (g := gb955) (o := .cells #[.int .i64 a0_0, .int .i64 a0_1, .slice A0_2 l0_2.length c0_2] 30 (0, 0)) zam7 hb); have n5_ := Aside0.mk (blk_below (g := gb956) (o := .cells #[.int .i64 a1_0, .int .i64 a1_1] 32 (0, 0)) zam12 hb); have n6_ := Aside0.mk (below_step zam1 hb); clear HO_5; clear HO_6; clear HO_19; clear BK955; clear BK956; clear HB; have HO_5 := n0_; have HO_6 := n1_; have HO_19 := n2_; have HO967 := n3_; have BK955 := n4_; have BK956 := n5_; have HB := n6_; clear n0_ n1_ n2_ n3_ n4_ n5_ n6_; (try clear hb); (try clear hb2); (try clear hk); (try clear hi); (try clear ho0); (try clear hna_); (try clear hnb_); obtain ⟨Ao30, co30, eo30⟩ := Kd.R_slice HO967.out; subst eo30))
   go_loopg [9, 34] k1 (fun kq v9 v34 w' => ∃ (x5_2 : List Bool) (x9_2 : List Int) (x34_2 : Int), v34 = .int .i64 x34_2 ∧ Aside0 (spec_faParts.l1 kq x5_2 x6_1 x9_2 t960 (t960.length : Int) x21_1 t965 (t965.length : Int) x34_2 a0_0 a0_1 l0_2 a1_0 a1_1 = some r) ∧ Aside0 (kq ≤ k1) ∧ Aside0 (Kd.R Kd.bool 4 w' w.heap.size (fun _ => True) (.slice (some ad964) x5_1.length co25) x5_2) ∧ Aside0 (Kd.S (Kd.slice 3 (Kd.int .i64)) 22 w' w.heap.size (fun k_ => some k_ ≠ (v9 : Value).ownBlock ∧ some k_ ≠ ((.slice (some ad963) t960.length co15) : Value).ownBlock ∧ some k_ ≠ ((.slice Ao30 t965.length co30) : Value).ownBlock) u6 x6_1) ∧ Aside0 (Kd.R (Kd.int .i64) 3 w' w.heap.size (fun k_ => some k_ ≠ ((.slice (some ad963) t960.length co15) : Value).ownBlock ∧ some k_ ≠ ((.slice Ao30 t965.length co30) : Value).ownBlock) v9 x9_2) ∧ Aside0 (Kd.R (Kd.int .i64) 3 w' w.heap.size (fun k_ => some k_ ≠ (v9 : Value).ownBlock ∧ some k_ ≠ ((.slice Ao30 t965.length co30) : Value).ownBlock) (.slice (some ad963) t960.length co15) t960) ∧ Aside0 (Kd.R (Kd.int .i64) 3 w' w.heap.size (fun k_ => some k_ ≠ (v9 : Value).ownBlock ∧ some k_ ≠ ((.slice (some ad963) t960.length co15) : Value).ownBlock) (.slice Ao30 t965.length co30) t965) ∧ Aside0 (w'.heap[gb955]? = some (.cells #[.int .i64 a0_0, .int .i64 a0_1, (.slice A0_2 l0_2.length c0_2)] 30 (0, 0))) ∧ Aside0 (w'.heap[gb956]? = some (.cells #[.int .i64 a1_0, .int .i64 a1_1] 32 (0, 0))) ∧ Aside0 (Below w.heap.size w w'))
   case atStart => exact ⟨(x5_1), (([] : List Int)), (0), zam19, H', ⟨Nat.le_refl _⟩, ⟨zam22⟩, ⟨by (with_reducible repeat (first | apply Kd.S_alloc | apply Kd.S_drewN | apply Kd.S_drew)); exact Kd.S_mono HO_6.out (fun _ hk => ⟨(by simp [Value.ownBlock]), ⟨hk.1, hk.2⟩⟩)⟩, ⟨zam37⟩, ⟨by (with_reducible repeat (first | apply Kd.R_alloc | apply Kd.R_drewN | apply Kd.R_drew)); exact Kd.R_mono HO_19.out (fun _ hk => ⟨(by simp [Value.ownBlock]), hk.2⟩)⟩, ⟨by (with_reducible repeat (first | apply Kd.R_alloc | apply Kd.R_drewN | apply Kd.R_drew)); exact Kd.R_mono HO967.out (fun _ hk => ⟨(by simp [Value.ownBlock]), hk.2⟩)⟩, ⟨zam7⟩, ⟨zam12⟩, ⟨zam1⟩⟩
   case round =>
    clear H'
    try clear c1; try clear c2; try clear p2; try clear q2; try clear c4; try clear c4b0; try clear c4b1; try clear c5; try clear c5b0; try clear c5b1; try clear p6; try clear c7; try clear c8; try clear c9; try clear p9; try clear q9; try clear hx9; try clear c16; try clear c16b0; try clear c17; try clear c17b0; try clear c18; try clear c18b0; try clear c19; try clear c19b0; try clear c20; try clear c20b0; try clear q21; try clear c22; try clear c26; try clear hcz10_0; try clear hcz10_1; try clear hcz10_2; try clear hcz13_0; try clear hcz13_1; try clear hcz13_2; try clear hcz27_0; try clear hcz27_1
    try clear hcz27_2; try clear hcz28_0; try clear hcz28_1; try clear hfz10_0; try clear hfz10_1; try clear hfz10_2; try clear hfz13_0; try clear hfz13_1; try clear hfz13_2; try clear hfz27_0; try clear hfz27_1; try clear hfz27_2; try clear hfz28_0; try clear hfz28_1; try clear hx963_0; try clear hx964_0; try clear p2; try clear p6; try clear p963; try clear p964; try clear q963; try clear q964
    obtain ⟨x5_2, x9_2, x34_2, rfl, HA, HK2, HO_5, HO_6, HO_9, HO_19, HO_32, BK955, BK956, HB⟩ := hrel
    have hl5_2 := (Kd.R_reads' HO_5.out).1
    rw [hl5_2] at HO_5
    (try simp only [hl5_2])
    (try simp only [hl5_2] at BK955)
    (try simp only [hl5_2] at BK956)
    (try simp only [hl5_2] at HO_6)
    (try simp only [hl5_2] at HO_9)
    (try simp only [hl5_2] at HO_19)
    (try simp only [hl5_2] at HO_32)
    cases gk with
    | zero => exact absurd HA.out (by simp [spec_faParts.l1])
    | succ k2 =>
     have H := HA.out
     clear HA
     simp only [spec_faParts.l1] at H
     by_cases c31 : x34_2 < (t965.length : Int)
     rotate_left
     ·rw [if_neg c31] at H
      have c31b0 : decide (x34_2 < (t965.length : Int)) = false := decide_eq_false c31
      have c31b8 := c31b0
      (try simp only [hl5_2] at c31b8)
      clear c31
      by_cases c41 : x6_1.length < 5864062014805
      rotate_left
      ·rw [if_neg c41] at H
       exact absurd H (by simp)
      rw [if_pos c41] at H
      have LMc41 := Aside0.mk c41
      clear c41
      obtain ⟨y973, hy973⟩ : ∃ y_ : List (List Int), y_ = (x6_1 ++ [x9_2]) := ⟨_, rfl⟩
      replace H : (spec_faParts.l0 k2 x5_2 y973 t960 (t960.length : Int) (wrap64 (x21_1 + 1)) a0_0 a0_1 l0_2 a1_0 a1_1) = some r := by first | (rw [hy973]; with_reducible exact H) | (have H2_ := (Option.bind_some _ _).symm.trans H; rw [hy973]; with_reducible exact H2_) | (have H2_ := (Option.bind_some _ _).symm.trans H; with_reducible exact H2_) | with_reducible exact H | (rw [hy973]; exact H) | exact H
      have Ny973 := Aside0.mk hy973
      clear hy973
      have H' := Aside0.mk H
      clear H
      obtain ⟨Ao43, co43, eo43⟩ := Kd.R_slice HO_9.out
      subst eo43
      go_wp2_with (first | ((with_reducible refine gate_builtin (b := .append) (xs := #[.tmp 49, .tmp 51]) rfl ?_); at_builtin; refine Kd.S_append (Kd.slice 3 (Kd.int .i64)) (w0 := w) w.heap.size rfl (.tmp 49) (.tmp 51) 58 22 (.slice none 0 0) 24 rfl Try.underlying58 info22 rfl (by decide) (by omega) u6 x6_1 x9_2 [.slice Ao43 x9_2.length co43] (fun k_ => some k_ ≠ (.slice (some ad963) t960.length co15 : Value).ownBlock ∧ some k_ ≠ (.slice Ao30 t965.length co30 : Value).ownBlock) (fun k_ => some k_ = (.slice Ao43 x9_2.length co43 : Value).ownBlock) rfl rfl ?aP (fun k_ hk_ => ((Kd.R_mono (ok' := fun k_ => ((fun k_ => some k_ ≠ (.slice (some ad963) t960.length co15 : Value).ownBlock ∧ some k_ ≠ (.slice Ao30 t965.length co30 : Value).ownBlock)) k_ ∧ some k_ ≠ (u6 : Value).ownBlock) (Kd.R_apart' (HO_9.out) (Kd.S_typed HO_6.out) (by decide)) (fun k_ hk => ⟨⟨hk.1.1, hk.1.2⟩, hk.2⟩))).1 k_ hk_.symm) ?aF ?aO ?aB ?aS ?aL ?_; (case aP => exact Kd.M_row (Kd.R_mono (Kd.R_tight rfl (Kd.R_mono (ok' := fun k_ => ((fun k_ => some k_ ≠ (.slice (some ad963) t960.length co15 : Value).ownBlock ∧ some k_ ≠ (.slice Ao30 t965.length co30 : Value).ownBlock)) k_ ∧ some k_ ≠ (u6 : Value).ownBlock) (Kd.R_apart' (HO_9.out) (Kd.S_typed HO_6.out) (by decide)) (fun k_ hk => ⟨⟨hk.1.1, hk.1.2⟩, hk.2⟩))) (fun _ h_ => h_))); (case aB => exact zam1); (case aF => exact (fun k_ hk => ⟨Kd.fresh' (Kd.R_lt zam16) k_ hk, Kd.fresh' (Kd.R_lt zam26) k_ hk⟩)); (case aO => exact (by (with_reducible repeat (first | apply Kd.S_alloc | apply Kd.S_drewN | apply Kd.S_drew)); exact Kd.S_mono HO_6.out (fun k_ hk => ⟨⟨hk.2.1, hk.2.2⟩, fun e_ => hk.1 e_⟩))); (case aS => exact (below_size zam1)); (case aL => have := LMc41.out; omega); intro v974 w42 ho hb hg hat; rw [← Ny973.out] at ho; have n0_ := Aside0.mk (Kd.R_over' zam22 (Kd.S_typed zam17) (by decide) hg); have n1_ := Aside0.mk (Kd.R_over' zam16 (Kd.S_typed zam17) (by decide) hg); have n2_ := Aside0.mk (Kd.R_over' zam26 (Kd.S_typed zam17) (by decide) hg); have n3_ := Aside0.mk (blk_grown (g := gb955) (o := .cells #[.int .i64 a0_0, .int .i64 a0_1, .slice A0_2 l0_2.length c0_2] 30 (0, 0)) zam7 hg (Kd.S_ne HO_6.out BK955.out (by decide))); have n4_ := Aside0.mk (blk_grown (g := gb956) (o := .cells #[.int .i64 a1_0, .int .i64 a1_1] 32 (0, 0)) zam12 hg (Kd.S_ne HO_6.out BK956.out (by decide))); have n5_ := Aside0.mk (hb); have n6_ := Aside0.mk (ho); clear HO_5; clear HO_19; clear HO_32; clear BK955; clear BK956; clear HB; clear HO_6; clear HO_9; have HO_5 := n0_; have HO_19 := n1_; have HO_32 := n2_; have BK955 := n3_; have BK956 := n4_; have HB := n5_; have HO975 := n6_; clear n0_ n1_ n2_ n3_ n4_ n5_ n6_; clear ho hb hg hat))
      (try simp only [← hl5_2])
      go_roundg k2
      case measure => have := HK1.out; have := HK2.out; omega
      case rel => exact ⟨(x5_2), (y973), (wrap64 (x21_1 + 1)), zam19, H', ⟨zam35⟩, ⟨zam31⟩, ⟨by (try simp only [hl5_2]); (with_reducible repeat (first | apply Kd.S_alloc | apply Kd.S_drewN | apply Kd.S_drew)); exact Kd.S_mono HO975.out (fun _ hk => hk.1)⟩, ⟨by (try simp only [hl5_2]); (with_reducible repeat (first | apply Kd.R_alloc | apply Kd.R_drewN | apply Kd.R_drew)); exact Kd.R_mono HO_19.out (fun _ hk => trivial)⟩, ⟨zam29⟩, ⟨zam28⟩, ⟨zam1⟩⟩
     rw [if_pos c31] at H
     have c31b0 : decide (x34_2 < (t965.length : Int)) = true := decide_eq_true c31
     have c31b8 := c31b0
     (try simp only [hl5_2] at c31b8)
     clear c31
     by_cases c32 : 0 ≤ x34_2
     rotate_left
     ·rw [if_neg c32] at H
      exact absurd H (by simp)
     rw [if_pos c32] at H
     have c32b0 : decide (0 ≤ x34_2) = true := decide_eq_true c32
     clear c32
     by_cases c33 : x34_2 < (t965.length : Int)
     rotate_left
     ·rw [if_neg c33] at H
      exact absurd H (by simp)
     rw [if_pos c33] at H
     have c33b0 : decide (x34_2 < (t965.length : Int)) = true := decide_eq_true c33
     have c33b8 := c33b0
     (try simp only [hl5_2] at c33b8)
     clear c33
     by_cases c34 : (rd t965 x34_2) ≥ 0
     rotate_left
     ·rw [if_neg c34] at H
      have c34b0 : decide (0 ≤ (rd t965 x34_2)) = false := decide_eq_false c34
      clear c34
      have H' := Aside0.mk H
      clear H
      have p968 : 0 ≤ (x34_2 : Int) := of_decide_eq_true zam5
      have q968 : x34_2 < (t965.length : Int) := of_decide_eq_true zam5
      obtain ⟨ad968, e968, hx968_0⟩ := Kd.at_int (Kd.R_reads' HO_32.out).2.2 x34_2 p968 q968
      cases e968
      replace p968 := eq_true p968
      replace q968 := eq_true q968
      go_wp2
      (try simp only [← hl5_2])
      go_roundg k2
      case measure => have := HK1.out; have := HK2.out; omega
      case rel => exact ⟨(x5_2), (x9_2), (wrap64 (x34_2 + 1)), zam19, H', ⟨zam35⟩, ⟨zam31⟩, ⟨by (try simp only [hl5_2]); (with_reducible repeat (first | apply Kd.S_alloc | apply Kd.S_drewN | apply Kd.S_drew)); exact HO_6.out⟩, ⟨by (try simp only [hl5_2]); (with_reducible repeat (first | apply Kd.R_alloc | apply Kd.R_drewN | apply Kd.R_drew)); exact HO_9.out⟩, ⟨by (try simp only [hl5_2]); (with_reducible repeat (first | apply Kd.R_alloc | apply Kd.R_drewN | apply Kd.R_drew)); exact HO_19.out⟩, ⟨by (try simp only [hl5_2]); (with_reducible repeat (first | apply Kd.R_alloc | apply Kd.R_drewN | apply Kd.R_drew)); exact HO_32.out⟩, ⟨zam29⟩, ⟨zam28⟩, ⟨zam1⟩⟩
     rw [if_pos c34] at H
     have c34b0 : decide (0 ≤ (rd t965 x34_2)) = true := decide_eq_true c34
     clear c34
     by_cases c35 : x9_2.length < 17592186044416
     rotate_left
     ·rw [if_neg c35] at H
      exact absurd H (by simp)
     rw [if_pos c35] at H
     have LMc35 := Aside0.mk c35
     clear c35
     obtain ⟨y969, hy969⟩ : ∃ y_ : List Int, y_ = (x9_2 ++ [x34_2]) := ⟨_, rfl⟩
     replace H : (if x34_2 < (x5_2.length : Int) then (spec_faParts.l1 k2 (x5_2.set (x34_2 : Int).toNat true) x6_1 y969 t960 (t960.length : Int) x21_1 t965 (t965.length : Int) (wrap64 (x34_2 + 1)) a0_0 a0_1 l0_2 a1_0 a1_1) else (none)) = some r := by first | (rw [hy969]; with_reducible exact H) | (have H2_ := (Option.bind_some _ _).symm.trans H; rw [hy969]; with_reducible exact H2_) | (have H2_ := (Option.bind_some _ _).symm.trans H; with_reducible exact H2_) | with_reducible exact H | (rw [hy969]; exact H) | exact H
     have Ny969 := Aside0.mk hy969
     clear hy969
     by_cases c36 : x34_2 < (x5_2.length : Int)
     rotate_left
     ·rw [if_neg c36] at H
      exact absurd H (by simp)
     rw [if_pos c36] at H
     have c36b0 : decide (x34_2 < (x5_2.length : Int)) = true := decide_eq_true c36
     have c36b8 := c36b0
     (try simp only [hl5_2] at c36b8)
     clear c36
     obtain ⟨y972, hy972⟩ : ∃ y_ : List Bool, y_ = (x5_2.set (x34_2 : Int).toNat true) := ⟨_, rfl⟩
     replace H : (spec_faParts.l1 k2 y972 x6_1 y969 t960 (t960.length : Int) x21_1 t965 (t965.length : Int) (wrap64 (x34_2 + 1)) a0_0 a0_1 l0_2 a1_0 a1_1) = some r := by first | (rw [hy972]; with_reducible exact H) | (have H2_ := (Option.bind_some _ _).symm.trans H; rw [hy972]; with_reducible exact H2_) | (have H2_ := (Option.bind_some _ _).symm.trans H; with_reducible exact H2_) | with_reducible exact H | (rw [hy972]; exact H) | exact H
     have Ny972 := Aside0.mk hy972
     clear hy972
     have H' := Aside0.mk H
     clear H
     have p968 : 0 ≤ (x34_2 : Int) := of_decide_eq_true zam5
     have q968 : x34_2 < (t965.length : Int) := of_decide_eq_true zam5
     obtain ⟨ad968, e968, hx968_0⟩ := Kd.at_int (Kd.R_reads' HO_32.out).2.2 x34_2 p968 q968
     cases e968
     replace p968 := eq_true p968
     replace q968 := eq_true q968
     go_wp2_with (first | ((with_reducible refine gate_builtin (b := .append) (xs := #[.tmp 41, .tmp 43]) rfl ?_); at_builtin; refine Kd.R_append (Kd.int .i64) (w0 := w) w.heap.size rfl (.tmp 41) (.tmp 43) 22 3 (.int .i64 0) 8 rfl Try.underlying22 info3 rfl (by decide) (by omega) u9 x9_2 x34_2 [.int .i64 x34_2] (fun k_ => some k_ ≠ (.slice (some ad963) t960.length co15 : Value).ownBlock ∧ some k_ ≠ (.slice (some ad968) t965.length co30 : Value).ownBlock) (fun _ => False) rfl rfl ?aP (fun _ hk => hk.elim) ?aF ?aO ?aB ?aS ?aL ?_; (case aP => exact rfl); (case aB => exact zam1); (case aF => exact (fun k_ hk => ⟨Kd.fresh' (Kd.R_lt zam16) k_ hk, Kd.fresh' (Kd.R_lt zam26) k_ hk⟩)); (case aO => exact (by (with_reducible repeat (first | apply Kd.R_alloc | apply Kd.R_drewN | apply Kd.R_drew)); exact HO_9.out)); (case aS => exact (below_size zam1)); (case aL => have := LMc35.out; omega); intro v970 w38 ho hb hg hat; rw [← Ny969.out] at ho; have n0_ := Aside0.mk (Kd.R_over' zam22 (Kd.R_typed (by (with_reducible repeat (first | apply Kd.R_alloc | apply Kd.R_drewN | apply Kd.R_drew)); exact HO_9.out)) (by decide) hg); have n1_ := Aside0.mk (Kd.S_after (ok := (fun k_ => some k_ ≠ (.slice (some ad963) t960.length co15 : Value).ownBlock ∧ some k_ ≠ (.slice (some ad968) t965.length co30 : Value).ownBlock)) (by (with_reducible repeat (first | apply Kd.S_alloc | apply Kd.S_drewN | apply Kd.S_drew)); exact Kd.S_mono HO_6.out (fun _ hk => ⟨⟨hk.2.1, hk.2.2⟩, hk.1⟩)) hg hat); have n2_ := Aside0.mk (Kd.R_after (ok := (fun k_ => some k_ ≠ (.slice (some ad968) t965.length co30 : Value).ownBlock)) (by (with_reducible repeat (first | apply Kd.R_alloc | apply Kd.R_drewN | apply Kd.R_drew)); exact Kd.R_mono HO_19.out (fun _ hk => ⟨hk.2, hk.1⟩)) hg hat); have n3_ := Aside0.mk (Kd.R_after (ok := (fun k_ => some k_ ≠ (.slice (some ad963) t960.length co15 : Value).ownBlock)) (by (with_reducible repeat (first | apply Kd.R_alloc | apply Kd.R_drewN | apply Kd.R_drew)); exact Kd.R_mono HO_32.out (fun _ hk => ⟨hk.2, hk.1⟩)) hg hat); have n4_ := Aside0.mk (blk_grown (g := gb955) (o := .cells #[.int .i64 a0_0, .int .i64 a0_1, .slice A0_2 l0_2.length c0_2] 30 (0, 0)) zam7 hg (Kd.R_ne HO_9.out BK955.out (by decide))); have n5_ := Aside0.mk (blk_grown (g := gb956) (o := .cells #[.int .i64 a1_0, .int .i64 a1_1] 32 (0, 0)) zam12 hg (Kd.R_ne HO_9.out BK956.out (by decide))); have n6_ := Aside0.mk (hb); have n7_ := Aside0.mk (ho); clear HO_5; clear HO_6; clear HO_19; clear HO_32; clear BK955; clear BK956; clear HB; clear HO_9; have HO_5 := n0_; have HO_6 := n1_; have HO_19 := n2_; have HO_32 := n3_; have BK955 := n4_; have BK956 := n5_; have HB := n6_; have HO971 := n7_; clear n0_ n1_ n2_ n3_ n4_ n5_ n6_ n7_; clear ho hb hg hat; have p37 : 0 ≤ (x34_2 : Int) := of_decide_eq_true zam5; have q37 : (x34_2 : Int) < ((x5_2.length : Int) : Int) := of_decide_eq_true zam5; obtain ⟨go37, co37, eo37, gb37, gl37, cl37, HG37⟩ := Kd.R_form HO_5.out (by omega); (first | cases eo37 | (injection eo37 with ea_ en_ ec_; (first | subst ea_ | (injection ea_ with ea_; subst ea_)); subst ec_; clear en_)); have GB37 := Aside0.mk gb37; have GG37 := Aside0.mk HG37; clear gb37 gl37 HG37; (try simp only [add_plain] at *); (first | simp only [add_plain] at hx964_0 | skip); obtain ⟨hx37_0, hf37_0⟩ := Kd.R_celln false HO_5.out (x34_2 : Int) p37 q37; replace p37 := eq_true p37; replace q37 := eq_true q37; obtain ⟨hy39_, hz39_⟩ := Kd.R_celln false HO_5.out (x34_2 : Int) (of_decide_eq_true zam5) (of_decide_eq_true zam5); have HP39 := Kd.R_putg HO_5.out (x34_2 : Int) true) | ((with_reducible refine gate_store (t := 4) (p := 47) rfl ?_); refine store_event (t := 4) (p := 47) (v := ?vo_w40) (w1 := (w38.setCell ⟨go37, (x34_2 : Int).toNat, none⟩ (.bool true))) ?hg ?ho ?hn ?hr ?_; (case ho => rfl); (case hg => rfl); (case hn => rfl); (case hr => first | (go_simp; done) | (go_simp; rfl)); intro w40 hw; have hg : w38.grownBy w40 (some go37) := (by rw [hw]; exact HP39.2); have hp_ : Kd.R Kd.bool 4 w40 w.heap.size (fun _ => True) (.slice (some ⟨go37, 0, none⟩) x5_2.length co25) y972 := (by rw [hw, Ny972.out]; exact HP39.1); clear HP39; have n0_ := Aside0.mk (hp_); have n1_ := Aside0.mk (Kd.S_over' (v := (.slice (some ⟨go37, 0, none⟩) x5_2.length co25)) zam17 (Kd.R_typed HO_5.out) (by decide) hg); have n2_ := Aside0.mk (Kd.R_over' (v := (.slice (some ⟨go37, 0, none⟩) x5_2.length co25)) zam16 (Kd.R_typed HO_5.out) (by decide) hg); have n3_ := Aside0.mk (Kd.R_over' (v := (.slice (some ⟨go37, 0, none⟩) x5_2.length co25)) zam26 (Kd.R_typed HO_5.out) (by decide) hg); have n4_ := Aside0.mk (blk_grown (g := gb955) (o := .cells #[.int .i64 a0_0, .int .i64 a0_1, .slice A0_2 l0_2.length c0_2] 30 (0, 0)) zam7 hg (Kd.R_ne HO_5.out BK955.out (by decide))); have n5_ := Aside0.mk (blk_grown (g := gb956) (o := .cells #[.int .i64 a1_0, .int .i64 a1_1] 32 (0, 0)) zam12 hg (Kd.R_ne HO_5.out BK956.out (by decide))); have n6_ := Aside0.mk (Kd.R_over' (v := (.slice (some ⟨go37, 0, none⟩) x5_2.length co25)) (by (with_reducible repeat (first | apply Kd.R_alloc | apply Kd.R_drewN | apply Kd.R_drew)); exact HO971.out) (Kd.R_typed HO_5.out) (by decide) hg); have n7_ := Aside0.mk ((by rw [hw]; exact below_set (HB.out) GB37.out : Below w.heap.size w w40)); clear HO_5; clear HO_6; clear HO_19; clear HO_32; clear BK955; clear BK956; clear HO971; clear HB; have HO_5 := n0_; have HO_6 := n1_; have HO_19 := n2_; have HO_32 := n3_; have BK955 := n4_; have BK956 := n5_; have HO971 := n6_; have HB := n7_; clear n0_ n1_ n2_ n3_ n4_ n5_ n6_ n7_; clear hg hw hp_))
     (try simp only [← hl5_2])
     go_roundg k2
     case measure => have := HK1.out; have := HK2.out; omega
     case rel => exact ⟨(y972), (y969), (wrap64 (x34_2 + 1)), zam19, H', ⟨zam35⟩, ⟨zam31⟩, ⟨by (try simp only [hl5_2]); (with_reducible repeat (first | apply Kd.S_alloc | apply Kd.S_drewN | apply Kd.S_drew)); exact Kd.S_mono HO_6.out (fun _ hk => ⟨hk.2, ⟨hk.1.1, hk.1.2⟩⟩)⟩, ⟨by (try simp only [hl5_2]); (with_reducible repeat (first | apply Kd.R_alloc | apply Kd.R_drewN | apply Kd.R_drew)); exact HO971.out⟩, ⟨by (try simp only [hl5_2]); (with_reducible repeat (first | apply Kd.R_alloc | apply Kd.R_drewN | apply Kd.R_drew)); exact Kd.R_mono HO_19.out (fun _ hk => ⟨hk.2, hk.1⟩)⟩, ⟨by (try simp only [hl5_2]); (with_reducible repeat (first | apply Kd.R_alloc | apply Kd.R_drewN | apply Kd.R_drew)); exact Kd.R_mono HO_32.out (fun _ hk => ⟨hk.2, hk.1⟩)⟩, ⟨zam29⟩, ⟨zam28⟩, ⟨zam1⟩⟩

/-! ### spec_IsWhole: function 40 -/
def spec_IsWhole.f (k : Nat) (a0_0 : Int) (a0_1 : Int) (l0_2 : List Int) (a1_0 : Int) (a1_1 : Int) : Option (Bool × Bool) := (spec_boTwo.f k a0_0 a0_1 l0_2 a1_0 a1_1).bind fun t978 => (if t978 = true then ((spec_faParts.f k a0_0 a0_1 l0_2 a1_0 a1_1).bind fun t979 => (some (((t979.length : Int) == 1), true))) else (some (false, false)))
set_option maxHeartbeats 8000000 in
set_option maxRecDepth 100000 in
theorem spec_IsWhole.calls (k : Nat) (a0_0 : Int) (a0_1 : Int) (A0_2 : Option Addr) (c0_2 : Nat) (l0_2 : List Int) (a1_0 : Int) (a1_1 : Int) (r1 : Bool) (r2 : Bool) (w : World) (hr0_2 : Kd.C (Kd.int .i64) w A0_2 l0_2.length l0_2) (hc0_2 : l0_2.length ≤ c0_2) (h : spec_IsWhole.f k a0_0 a0_1 l0_2 a1_0 a1_1 = some (r1, r2)) :
  Calls Try.prog 40 #[.agg #[.int .i64 a0_0, .int .i64 a0_1, .slice A0_2 l0_2.length c0_2], .agg #[.int .i64 a1_0, .int .i64 a1_1]] w fun e w' => e = .returned (.tuple #[.bool r1, .bool r2]) ∧ Below w.heap.size w w' := by
 have hu30 := Try.underlying30
 have hu32 := Try.underlying32
 have HR0_2 := Aside0.mk hr0_2
 have HC0_2 := Aside0.mk hc0_2
 clear hr0_2 hc0_2
 have HB := Aside0.mk (Below.refl w.heap.size w)
 have H : ((spec_boTwo.f k a0_0 a0_1 l0_2 a1_0 a1_1).bind fun t978 => (if t978 = true then ((spec_faParts.f k a0_0 a0_1 l0_2 a1_0 a1_1).bind fun t979 => (some (((t979.length : Int) == 1), true))) else (some (false, false)))) = some (r1, r2) := h
 clear h
 replace H := Option.bind_eq_some_iff.mp H
 obtain ⟨t978, A30, H⟩ := H
 replace H : (if t978 = true then ((spec_faParts.f k a0_0 a0_1 l0_2 a1_0 a1_1).bind fun t979 => (some (((t979.length : Int) == 1), true))) else (some (false, false))) = some (r1, r2) := H
 have A3 := Aside0.mk A30
 clear A30
 by_cases c4 : t978 = true
 rotate_left
 ·replace c4 := Bool.eq_false_iff.mpr c4
  subst c4
  have H1 : (some (false, false)) = some (r1, r2) := by rw [if_neg (show ¬ (false = true) by decide)] at H; exact H
  clear H
  have H := H1
  clear H1
  simp only [Option.some.injEq, Prod.mk.injEq] at H
  obtain ⟨rfl, rfl⟩ := H
  go_enter Try.func40, Try.ntmps40
  go_wp2_with (first | ((with_reducible refine gate_dst (N := 2) rfl ?_); refine box_event ?hg (N := 2) ?hd (cs := #[.int .i64 a0_0, .int .i64 a0_1, .slice A0_2 l0_2.length c0_2]) (t := 30) ?hr ?_; (case hd => rfl); (case hg => rfl); (case hr => first | (go_simp; done) | (go_simp; rfl)); intro gb976 hg w16 hbox hb; have n0_ := Aside0.mk (below_step zam3 hb); have n1_ := Aside0.mk (hbox); have n2_ := Aside0.mk ((zam39 : w.heap.size ≤ gb976)); have n3_ := Aside0.mk ((zam39 : w.heap.size ≤ gb976)); clear HB; have HB := n0_; have BK976 := n1_; have GW976 := n2_; have GE976 := n3_; clear n0_ n1_ n2_ n3_; clear hb hbox hg) | ((with_reducible refine gate_dst (N := 3) rfl ?_); refine box_event ?hg (N := 3) ?hd (cs := #[.int .i64 a1_0, .int .i64 a1_1]) (t := 32) ?hr ?_; (case hd => rfl); (case hg => rfl); (case hr => first | (go_simp; done) | (go_simp; rfl)); intro gb977 hg w17 hbox hb; have n0_ := Aside0.mk (blk_below (g := gb976) (o := .cells #[.int .i64 a0_0, .int .i64 a0_1, .slice A0_2 l0_2.length c0_2] 30 (0, 0)) zam11 hb); have n1_ := Aside0.mk (below_step zam15 hb); have n2_ := Aside0.mk (hbox); have n3_ := Aside0.mk ((by rw [hg]; exact (below_size zam15) : w.heap.size ≤ gb977)); have n4_ := Aside0.mk ((by rw [hg]; exact (below_size zam15) : w.heap.size ≤ gb977)); have n5_ := Aside0.mk ((zam40 : gb976 ≠ gb977)); have n6_ := Aside0.mk ((zam41 : gb977 ≠ gb976)); clear BK976; clear HB; have BK976 := n0_; have HB := n1_; have BK977 := n2_; have GW977 := n3_; have GE977 := n4_; have NB976_977 := n5_; have NB977_976 := n6_; clear n0_ n1_ n2_ n3_ n4_ n5_ n6_; clear hb hbox hg; have hnb18 := NB976_977.out; have hnc18 := NB977_976.out; have hcz19_0 : w17.cell? ⟨gb976, 0, none⟩ = some (.int .i64 a0_0) := (blk_cell BK976.out 0).trans rfl; have hcz19_1 : w17.cell? ⟨gb976, 1, none⟩ = some (.int .i64 a0_1) := (blk_cell BK976.out 1).trans rfl; have hcz19_2 : w17.cell? ⟨gb976, 2, none⟩ = some (.slice A0_2 l0_2.length c0_2) := (blk_cell BK976.out 2).trans rfl; have hfz19_0 := blk_frozen BK976.out 0; have hfz19_1 := blk_frozen BK976.out 1; have hfz19_2 := blk_frozen BK976.out 2; have hcz20_0 : w17.cell? ⟨gb977, 0, none⟩ = some (.int .i64 a1_0) := (blk_cell BK977.out 0).trans rfl; have hcz20_1 : w17.cell? ⟨gb977, 1, none⟩ = some (.int .i64 a1_1) := (blk_cell BK977.out 1).trans rfl; have hfz20_0 := blk_frozen BK977.out 0; have hfz20_1 := blk_frozen BK977.out 1) | ((with_reducible refine gate_callee (f := 57) rfl ?_); refine goesL_ (some 8) rfl rfl Try.func57 (by kernel_rfl) rfl #[.agg #[.int .i64 a0_0, .int .i64 a0_1, .slice A0_2 l0_2.length c0_2], .agg #[.int .i64 a1_0, .int .i64 a1_1]] rfl zam9 ?_; (with_reducible refine (spec_boTwo.calls k a0_0 a0_1 _ _ l0_2 a1_0 a1_1 false _ ?side1 ?side2 A3.out).mono ?_); (case side1 => exact zam6); (case side2 => exact HC0_2.out); rintro e w21 ⟨rfl, hb⟩; refine ⟨_, rfl, ?_⟩; have n0_ := Aside0.mk (blk_below (g := gb976) (o := .cells #[.int .i64 a0_0, .int .i64 a0_1, .slice A0_2 l0_2.length c0_2] 30 (0, 0)) zam11 hb); have n1_ := Aside0.mk (blk_below (g := gb977) (o := .cells #[.int .i64 a1_0, .int .i64 a1_1] 32 (0, 0)) zam33 hb); have n2_ := Aside0.mk (below_step zam10 hb); clear BK976; clear BK977; clear HB; have BK976 := n0_; have BK977 := n1_; have HB := n2_; clear n0_ n1_ n2_; (try clear hb); (try clear hb2); (try clear hk); (try clear hi); (try clear hna_); (try clear hnb_)))
  go_ret2
  exact ⟨zam24, zam10⟩
 subst c4
 have H1 : ((spec_faParts.f k a0_0 a0_1 l0_2 a1_0 a1_1).bind fun t979 => (some (((t979.length : Int) == 1), true))) = some (r1, r2) := by rw [if_pos rfl] at H; exact H
 clear H
 have H := H1
 clear H1
 replace H := Option.bind_eq_some_iff.mp H
 obtain ⟨t979, A50, H⟩ := H
 replace H : (some (((t979.length : Int) == 1), true)) = some (r1, r2) := H
 have A5 := Aside0.mk A50
 clear A50
 simp only [Option.some.injEq, Prod.mk.injEq] at H
 obtain ⟨rfl, rfl⟩ := H
 go_enter Try.func40, Try.ntmps40
 go_wp2_with (first | ((with_reducible refine gate_dst (N := 2) rfl ?_); refine box_event ?hg (N := 2) ?hd (cs := #[.int .i64 a0_0, .int .i64 a0_1, .slice A0_2 l0_2.length c0_2]) (t := 30) ?hr ?_; (case hd => rfl); (case hg => rfl); (case hr => first | (go_simp; done) | (go_simp; rfl)); intro gb976 hg w6 hbox hb; have n0_ := Aside0.mk (below_step zam3 hb); have n1_ := Aside0.mk (hbox); have n2_ := Aside0.mk ((zam39 : w.heap.size ≤ gb976)); have n3_ := Aside0.mk ((zam39 : w.heap.size ≤ gb976)); clear HB; have HB := n0_; have BK976 := n1_; have GW976 := n2_; have GE976 := n3_; clear n0_ n1_ n2_ n3_; clear hb hbox hg) | ((with_reducible refine gate_dst (N := 3) rfl ?_); refine box_event ?hg (N := 3) ?hd (cs := #[.int .i64 a1_0, .int .i64 a1_1]) (t := 32) ?hr ?_; (case hd => rfl); (case hg => rfl); (case hr => first | (go_simp; done) | (go_simp; rfl)); intro gb977 hg w7 hbox hb; have n0_ := Aside0.mk (blk_below (g := gb976) (o := .cells #[.int .i64 a0_0, .int .i64 a0_1, .slice A0_2 l0_2.length c0_2] 30 (0, 0)) zam11 hb); have n1_ := Aside0.mk (below_step zam15 hb); have n2_ := Aside0.mk (hbox); have n3_ := Aside0.mk ((by rw [hg]; exact (below_size zam15) : w.heap.size ≤ gb977)); have n4_ := Aside0.mk ((by rw [hg]; exact (below_size zam15) : w.heap.size ≤ gb977)); have n5_ := Aside0.mk ((zam40 : gb976 ≠ gb977)); have n6_ := Aside0.mk ((zam41 : gb977 ≠ gb976)); clear BK976; clear HB; have BK976 := n0_; have HB := n1_; have BK977 := n2_; have GW977 := n3_; have GE977 := n4_; have NB976_977 := n5_; have NB977_976 := n6_; clear n0_ n1_ n2_ n3_ n4_ n5_ n6_; clear hb hbox hg; have hnb8 := NB976_977.out; have hnc8 := NB977_976.out; have hcz9_0 : w7.cell? ⟨gb976, 0, none⟩ = some (.int .i64 a0_0) := (blk_cell BK976.out 0).trans rfl; have hcz9_1 : w7.cell? ⟨gb976, 1, none⟩ = some (.int .i64 a0_1) := (blk_cell BK976.out 1).trans rfl; have hcz9_2 : w7.cell? ⟨gb976, 2, none⟩ = some (.slice A0_2 l0_2.length c0_2) := (blk_cell BK976.out 2).trans rfl; have hfz9_0 := blk_frozen BK976.out 0; have hfz9_1 := blk_frozen BK976.out 1; have hfz9_2 := blk_frozen BK976.out 2; have hcz10_0 : w7.cell? ⟨gb977, 0, none⟩ = some (.int .i64 a1_0) := (blk_cell BK977.out 0).trans rfl; have hcz10_1 : w7.cell? ⟨gb977, 1, none⟩ = some (.int .i64 a1_1) := (blk_cell BK977.out 1).trans rfl; have hfz10_0 := blk_frozen BK977.out 0; have hfz10_1 := blk_frozen BK977.out 1) | ((with_reducible refine gate_callee (f := 57) rfl ?_); refine goesL_ (some 8) rfl rfl Try.func57 (by kernel_rfl) rfl #[.agg #[.int .i64 a0_0, .int .i64 a0_1, .slice A0_2 l0_2.length c0_2], .agg #[.int .i64 a1_0, .int .i64 a1_1]] rfl zam9 ?_; (with_reducible refine (spec_boTwo.calls k a0_0 a0_1 _ _ l0_2 a1_0 a1_1 true _ ?side1 ?side2 A3.out).mono ?_); (case side1 => exact zam6); (case side2 => exact HC0_2.out); rintro e w11 ⟨rfl, hb⟩; refine ⟨_, rfl, ?_⟩; have n0_ := Aside0.mk (blk_below (g := gb976) (o := .cells #[.int .i64 a0_0, .int .i64 a0_1, .slice A0_2 l0_2.length c0_2] 30 (0, 0)) zam11 hb); have n1_ := Aside0.mk (blk_below (g := gb977) (o := .cells #[.int .i64 a1_0, .int .i64 a1_1] 32 (0, 0)) zam33 hb); have n2_ := Aside0.mk (below_step zam10 hb); clear BK976; clear BK977; clear HB; have BK976 := n0_; have BK977 := n1_; have HB := n2_; clear n0_ n1_ n2_; (try clear hb); (try clear hb2); (try clear hk); (try clear hi); (try clear hna_); (try clear hnb_); have hcz12_0 : w11.cell? ⟨gb976, 0, none⟩ = some (.int .i64 a0_0) := (blk_cell BK976.out 0).trans rfl; have hcz12_1 : w11.cell? ⟨gb976, 1, none⟩ = some (.int .i64 a0_1) := (blk_cell BK976.out 1).trans rfl; have hcz12_2 : w11.cell? ⟨gb976, 2, none⟩ = some (.slice A0_2 l0_2.length c0_2) := (blk_cell BK976.out 2).trans rfl; have hfz12_0 := blk_frozen BK976.out 0; have hfz12_1 := blk_frozen BK976.out 1; have hfz12_2 := blk_frozen BK976.out 2; have hcz13_0 : w11.cell? ⟨gb977, 0, none⟩ = some (.int .i64 a1_0) := (blk_cell BK977.out 0).trans rfl; have hcz13_1 : w11.cell? ⟨gb977, 1, none⟩ = some (.int .i64 a1_1) := (blk_cell BK977.out 1).trans rfl; have hfz13_0 := blk_frozen BK977.out 0; have hfz13_1 := blk_frozen BK977.out 1) | ((with_reducible refine gate_callee (f := 76) rfl ?_); refine goesL_ (some 12) rfl rfl Try.func76 (by kernel_rfl) rfl #[.agg #[.int .i64 a0_0, .int .i64 a0_1, .slice A0_2 l0_2.length c0_2], .agg #[.int .i64 a1_0, .int .i64 a1_1]] rfl zam9 ?_; (with_reducible refine (spec_faParts.calls k a0_0 a0_1 _ _ l0_2 a1_0 a1_1 t979 _ ?side1 ?side2 A5.out).mono ?_); (case side1 => exact zam6); (case side2 => exact HC0_2.out); rintro e w14 ⟨v980, rfl, ho0, hb⟩; refine ⟨_, rfl, ?_⟩; have n0_ := Aside0.mk (Kd.S_lower ho0 (below_size zam10)); have n1_ := Aside0.mk (blk_below (g := gb976) (o := .cells #[.int .i64 a0_0, .int .i64 a0_1, .slice A0_2 l0_2.length c0_2] 30 (0, 0)) zam11 hb); have n2_ := Aside0.mk (blk_below (g := gb977) (o := .cells #[.int .i64 a1_0, .int .i64 a1_1] 32 (0, 0)) zam33 hb); have n3_ := Aside0.mk (below_step zam10 hb); clear BK976; clear BK977; clear HB; have HO981 := n0_; have BK976 := n1_; have BK977 := n2_; have HB := n3_; clear n0_ n1_ n2_ n3_; (try clear hb); (try clear hb2); (try clear hk); (try clear hi); (try clear ho0); (try clear hna_); (try clear hnb_); obtain ⟨Ao15, co15, eo15⟩ := Kd.S_slice HO981.out; subst eo15))
 go_ret2
 exact ⟨zam24, zam10⟩

/-! ### impl_graph_parts: function 77 -/
mutual
def impl_graph_parts.l0 : Nat → List (List Int) → List Bool → List Int → Int → Int → Int → Int → List Int → Int → Int → List Int → List (List Int) → Option ((List (List Int)))
 | 0, _, _, _, _, _, _, _, _, _, _, _, _ => none
 | k + 1, x3, x4, x19, x20, x21, x1000, x1001, x1002, x1003, x1004, x1005, x1006 => if x21 < x20 then (if 0 ≤ x21 then (if x21 < (x19.length : Int) then (if 0 ≤ (rd x19 x21) then (if (rd x19 x21) < (x4.length : Int) then (if rdOf false x4 (rd x19 x21) = true then (impl_graph_parts.l0 k x3 x4 x19 x20 (wrap64 (x21 + 1)) x1000 x1001 x1002 x1003 x1004 x1005 x1006) else ((impl_graph_far.f k x1000 x1001 x1002 x1003 x1004 x1005 x1006 (rd x19 x21)).bind fun t987 => (impl_graph_parts.l1 k x3 x4 ([] : List Int) x19 x20 x21 t987 (t987.length : Int) 0 x1000 x1001 x1002 x1003 x1004 x1005 x1006))) else (none)) else (none)) else (none)) else (none)) else (some x3)
def impl_graph_parts.l1 : Nat → List (List Int) → List Bool → List Int → List Int → Int → Int → List Int → Int → Int → Int → Int → List Int → Int → Int → List Int → List (List Int) → Option ((List (List Int)))
 | 0, _, _, _, _, _, _, _, _, _, _, _, _, _, _, _, _ => none
 | k + 1, x3, x4, x7, x19, x20, x21, x31, x32, x33, x1000, x1001, x1002, x1003, x1004, x1005, x1006 => if x33 < x32 then (if 0 ≤ x33 then (if x33 < (x31.length : Int) then (if (rd x31 x33) ≥ 0 then (if x33 < (x4.length : Int) then (if x7.length < 17592186044416 then (impl_graph_parts.l1 k x3 (x4.set (x33 : Int).toNat true) (x7 ++ [x33]) x19 x20 x21 x31 x32 (wrap64 (x33 + 1)) x1000 x1001 x1002 x1003 x1004 x1005 x1006) else (none)) else (none)) else (impl_graph_parts.l1 k x3 x4 x7 x19 x20 x21 x31 x32 (wrap64 (x33 + 1)) x1000 x1001 x1002 x1003 x1004 x1005 x1006)) else (none)) else (none)) else (if x3.length < 5864062014805 then (impl_graph_parts.l0 k (x3 ++ [x7]) x4 x19 x20 (wrap64 (x21 + 1)) x1000 x1001 x1002 x1003 x1004 x1005 x1006) else (none))
end
def impl_graph_parts.f (k : Nat) (a0_0 : Int) (a0_1 : Int) (l0_2 : List Int) (a0_3 : Int) (a0_4 : Int) (l0_5 : List Int) (l0_6 : List (List Int)) : Option ((List (List Int))) := if 0 ≤ (l0_6.length : Int) then (if ((l0_6.length : Int) : Int).toNat ≤ 281474976710656 then (impl_graph_parts.l0 k ([] : List (List Int)) (List.replicate ((l0_6.length : Int) : Int).toNat false) l0_5 (l0_5.length : Int) 0 a0_0 a0_1 l0_2 a0_3 a0_4 l0_5 l0_6) else (none)) else (none)
set_option maxHeartbeats 8000000 in
set_option maxRecDepth 100000 in
theorem impl_graph_parts.calls (k : Nat) (gb0 : Nat) (a0_0 : Int) (a0_1 : Int) (A0_2 : Option Addr) (c0_2 : Nat) (l0_2 : List Int) (a0_3 : Int) (a0_4 : Int) (A0_5 : Option Addr) (c0_5 : Nat) (l0_5 : List Int) (A0_6 : Option Addr) (c0_6 : Nat) (l0_6 : List (List Int)) (r : List (List Int)) (w : World) (hg0 : w.heap[gb0]? = some (.cells #[.int .i64 a0_0, .int .i64 a0_1, .slice A0_2 l0_2.length c0_2, .int .i64 a0_3, .int .i64 a0_4, .slice A0_5 l0_5.length c0_5, .slice A0_6 l0_6.length c0_6] 60 (0, 0))) (hr0_2 : Kd.C (Kd.int .i64) w A0_2 l0_2.length l0_2) (hc0_2 : l0_2.length ≤ c0_2) (hr0_5 : Kd.C (Kd.int .i64) w A0_5 l0_5.length l0_5) (hc0_5 : l0_5.length ≤ c0_5) (hr0_6 : Kd.C (Kd.slice 3 (Kd.int .i64)) w A0_6 l0_6.length l0_6) (hc0_6 : l0_6.length ≤ c0_6) (h : impl_graph_parts.f k a0_0 a0_1 l0_2 a0_3 a0_4 l0_5 l0_6 = some r) :
  Calls Try.prog 77 #[.pointer (some ⟨gb0, 0, none⟩)] w fun e w' => ∃ v0_ : Value, e = .returned (v0_) ∧ Kd.S (Kd.slice 3 (Kd.int .i64)) 22 w' w.heap.size (fun _ => True) v0_ r ∧ Below w.heap.size w w' := by
 have HR0_2 := Aside0.mk hr0_2
 have HC0_2 := Aside0.mk hc0_2
 clear hr0_2 hc0_2
 have HR0_5 := Aside0.mk hr0_5
 have HC0_5 := Aside0.mk hc0_5
 clear hr0_5 hc0_5
 have HR0_6 := Aside0.mk hr0_6
 have HC0_6 := Aside0.mk hc0_6
 clear hr0_6 hc0_6
 have BK0 := Aside0.mk hg0
 clear hg0
 have HB := Aside0.mk (Below.refl w.heap.size w)
 have H : (if 0 ≤ (l0_6.length : Int) then (if ((l0_6.length : Int) : Int).toNat ≤ 281474976710656 then (impl_graph_parts.l0 k ([] : List (List Int)) (List.replicate ((l0_6.length : Int) : Int).toNat false) l0_5 (l0_5.length : Int) 0 a0_0 a0_1 l0_2 a0_3 a0_4 l0_5 l0_6) else (none)) else (none)) = some r := h
 clear h
 by_cases c2 : 0 ≤ (l0_6.length : Int)
 rotate_left
 ·rw [if_neg c2] at H
  exact absurd H (by simp)
 rw [if_pos c2] at H
 have c2b0 := eq_true c2
 have c2b1 : decide (0 ≤ (l0_6.length : Int)) = true := decide_eq_true c2
 clear c2
 by_cases c3 : ((l0_6.length : Int) : Int).toNat ≤ 281474976710656
 rotate_left
 ·rw [if_neg c3] at H
  exact absurd H (by simp)
 rw [if_pos c3] at H
 have c3b0 := eq_true c3
 have c3b1 : decide (((l0_6.length : Int) : Int).toNat ≤ 281474976710656) = true := decide_eq_true c3
 clear c3
 obtain ⟨y982, hy982⟩ : ∃ y_ : List Bool, y_ = (List.replicate ((l0_6.length : Int) : Int).toNat false) := ⟨_, rfl⟩
 replace H : (impl_graph_parts.l0 k ([] : List (List Int)) y982 l0_5 (l0_5.length : Int) 0 a0_0 a0_1 l0_2 a0_3 a0_4 l0_5 l0_6) = some r := by first | (rw [hy982]; with_reducible exact H) | (have H2_ := (Option.bind_some _ _).symm.trans H; rw [hy982]; with_reducible exact H2_) | (have H2_ := (Option.bind_some _ _).symm.trans H; with_reducible exact H2_) | with_reducible exact H | (rw [hy982]; exact H) | exact H
 have Ny982 := Aside0.mk hy982
 clear hy982
 have H' := Aside0.mk H
 clear H
 have hcz4_0 : w.cell? ⟨gb0, 0, none⟩ = some (.int .i64 a0_0) := (blk_cell BK0.out 0).trans rfl
 have hcz4_1 : w.cell? ⟨gb0, 1, none⟩ = some (.int .i64 a0_1) := (blk_cell BK0.out 1).trans rfl
 have hcz4_2 : w.cell? ⟨gb0, 2, none⟩ = some (.slice A0_2 l0_2.length c0_2) := (blk_cell BK0.out 2).trans rfl
 have hcz4_3 : w.cell? ⟨gb0, 3, none⟩ = some (.int .i64 a0_3) := (blk_cell BK0.out 3).trans rfl
 have hcz4_4 : w.cell? ⟨gb0, 4, none⟩ = some (.int .i64 a0_4) := (blk_cell BK0.out 4).trans rfl
 have hcz4_5 : w.cell? ⟨gb0, 5, none⟩ = some (.slice A0_5 l0_5.length c0_5) := (blk_cell BK0.out 5).trans rfl
 have hcz4_6 : w.cell? ⟨gb0, 6, none⟩ = some (.slice A0_6 l0_6.length c0_6) := (blk_cell BK0.out 6).trans rfl
 have hfz4_0 := blk_frozen BK0.out 0
 have hfz4_1 := blk_frozen BK0.out 1
 have hfz4_2 := blk_frozen BK0.out 2
 have hfz4_3 := blk_frozen BK0.out 3
 have hfz4_4 := blk_frozen BK0.out 4
 have hfz4_5 := blk_frozen BK0.out 5
 have hfz4_6 := blk_frozen BK0.out 6
 go_enter Try.func77, Try.ntmps77
 go_wp2_with (first | ((with_reducible refine gate_dst (N := 15) rfl ?_); refine Kd.R_make Kd.bool _ 4 rfl (N := 15) rfl 86 _ _ rfl (l0_6.length : Int) rfl rfl Try.underlying86 (.bool false) 1 info4 rfl (by decide) (by omega) false (ok := fun _ => True) (okp := fun _ => True) rfl (fun _ hk => hk) trivial (of_decide_eq_true zam5) (Nat.le_trans (Nat.mul_le_mul_right _ (of_decide_eq_true zam5 : (l0_6.length : Int).toNat ≤ 281474976710656)) (by omega)) (Below.refl _ _) (Nat.le_refl _) ?_; intro v983 w5 ho6 hb hg_ hnew_; clear hg_ hnew_; (first | rw [← Ny982.out] at ho6 | (simp only [Int.reduceToNat] at ho6; rw [← Ny982.out] at ho6)); have n0_ := Aside0.mk (Kd.R_lower ho6 (below_size zam2)); have n1_ := Aside0.mk (blk_below (g := gb0) (o := .cells #[.int .i64 a0_0, .int .i64 a0_1, .slice A0_2 l0_2.length c0_2, .int .i64 a0_3, .int .i64 a0_4, .slice A0_5 l0_5.length c0_5, .slice A0_6 l0_6.length c0_6] 60 (0, 0)) zam13 hb); have n2_ := Aside0.mk (below_step zam2 hb); clear BK0; clear HB; have HO984 := n0_; have BK0 := n1_; have HB := n2_; clear n0_ n1_ n2_; clear hb ho6; have hcz7_0 : w5.cell? ⟨gb0, 0, none⟩ = some (.int .i64 a0_0) := (blk_cell BK0.out 0).trans rfl; have hcz7_1 : w5.cell? ⟨gb0, 1, none⟩ = some (.int .i64 a0_1) := (blk_cell BK0.out 1).trans rfl; have hcz7_2 : w5.cell? ⟨gb0, 2, none⟩ = some (.slice A0_2 l0_2.length c0_2) := (blk_cell BK0.out 2).trans rfl; have hcz7_3 : w5.cell? ⟨gb0, 3, none⟩ = some (.int .i64 a0_3) := (blk_cell BK0.out 3).trans rfl; have hcz7_4 : w5.cell? ⟨gb0, 4, none⟩ = some (.int .i64 a0_4) := (blk_cell BK0.out 4).trans rfl; have hcz7_5 : w5.cell? ⟨gb0, 5, none⟩ = some (.slice A0_5 l0_5.length c0_5) := (blk_cell BK0.out 5).trans rfl; have hcz7_6 : w5.cell? ⟨gb0, 6, none⟩ = some (.slice A0_6 l0_6.length c0_6) := (blk_cell BK0.out 6).trans rfl; have hfz7_0 := blk_frozen BK0.out 0; have hfz7_1 := blk_frozen BK0.out 1; have hfz7_2 := blk_frozen BK0.out 2; have hfz7_3 := blk_frozen BK0.out 3; have hfz7_4 := blk_frozen BK0.out 4; have hfz7_5 := blk_frozen BK0.out 5; have hfz7_6 := blk_frozen BK0.out 6))
 go_loopg [3, 21] k (fun kq v3 v21 w' => ∃ (x3_1 : List (List Int)) (x4_1 : List Bool) (x21_1 : Int), v21 = .int .i64 x21_1 ∧ Aside0 (impl_graph_parts.l0 kq x3_1 x4_1 l0_5 (l0_5.length : Int) x21_1 a0_0 a0_1 l0_2 a0_3 a0_4 l0_5 l0_6 = some r) ∧ Aside0 (kq ≤ k) ∧ Aside0 (Kd.S (Kd.slice 3 (Kd.int .i64)) 22 w' w.heap.size (fun _ => True) v3 x3_1) ∧ Aside0 (Kd.R Kd.bool 4 w' w.heap.size (fun _ => True) v983 x4_1) ∧ Aside0 (w'.heap[gb0]? = some (.cells #[.int .i64 a0_0, .int .i64 a0_1, (.slice A0_2 l0_2.length c0_2), .int .i64 a0_3, .int .i64 a0_4, (.slice A0_5 l0_5.length c0_5), (.slice A0_6 l0_6.length c0_6)] 60 (0, 0))) ∧ Aside0 (Below w.heap.size w w'))
 case atStart => exact ⟨(([] : List (List Int))), (y982), (0), zam19, H', ⟨Nat.le_refl _⟩, ⟨zam36⟩, ⟨by (with_reducible repeat (first | apply Kd.R_alloc | apply Kd.R_drewN | apply Kd.R_drew)); exact HO984.out⟩, ⟨zam13⟩, ⟨zam2⟩⟩
 case round =>
  clear H'
  try clear c2; try clear c2b0; try clear c2b1; try clear p2; try clear c3; try clear c3b0; try clear c3b1; try clear c7; try clear hcz4_0; try clear hcz4_1; try clear hcz4_2; try clear hcz4_3; try clear hcz4_4; try clear hcz4_5; try clear hcz4_6; try clear hcz7_0; try clear hcz7_1; try clear hcz7_2; try clear hcz7_3; try clear hcz7_4; try clear hcz7_5; try clear hcz7_6; try clear hfz4_0; try clear hfz4_1; try clear hfz4_2; try clear hfz4_3; try clear hfz4_4; try clear hfz4_5; try clear hfz4_6; try clear hfz7_0; try clear hfz7_1; try clear hfz7_2; try clear hfz7_3; try clear hfz7_4; try clear hfz7_5
  try clear hfz7_6
  obtain ⟨x3_1, x4_1, x21_1, rfl, HA, HK1, HO_3, HO_4, BK0, HB⟩ := hrel
  cases gk with
  | zero => exact absurd HA.out (by simp [impl_graph_parts.l0])
  | succ k1 =>
   have H := HA.out
   clear HA
   simp only [impl_graph_parts.l0] at H
   by_cases c8 : x21_1 < (l0_5.length : Int)
   rotate_left
   ·rw [if_neg c8] at H
    have c8b0 : decide (x21_1 < (l0_5.length : Int)) = false := decide_eq_false c8
    clear c8
    obtain rfl := Option.some.inj H
    go_wp2
    go_ret
    exact ⟨_, zam24, zam18, zam2⟩
   rw [if_pos c8] at H
   have c8b0 : decide (x21_1 < (l0_5.length : Int)) = true := decide_eq_true c8
   clear c8
   by_cases c9 : 0 ≤ x21_1
   rotate_left
   ·rw [if_neg c9] at H
    exact absurd H (by simp)
   rw [if_pos c9] at H
   have c9b0 : decide (0 ≤ x21_1) = true := decide_eq_true c9
   clear c9
   by_cases c10 : x21_1 < (l0_5.length : Int)
   rotate_left
   ·rw [if_neg c10] at H
    exact absurd H (by simp)
   rw [if_pos c10] at H
   have c10b0 : decide (x21_1 < (l0_5.length : Int)) = true := decide_eq_true c10
   clear c10
   by_cases c11 : 0 ≤ (rd l0_5 x21_1)
   rotate_left
   ·rw [if_neg c11] at H
    exact absurd H (by simp)
   rw [if_pos c11] at H
   have c11b0 : decide (0 ≤ (rd l0_5 x21_1)) = true := decide_eq_true c11
   clear c11
   by_cases c12 : (rd l0_5 x21_1) < (x4_1.length : Int)
   rotate_left
   ·rw [if_neg c12] at H
    exact absurd H (by simp)
   rw [if_pos c12] at H
   have c12b0 : decide ((rd l0_5 x21_1) < (x4_1.length : Int)) = true := decide_eq_true c12
   clear c12
   obtain ⟨bq13, hbq13⟩ : ∃ b_ : Bool, b_ = (rdOf false x4_1 (rd l0_5 x21_1)) := ⟨_, rfl⟩
   replace H : (if bq13 = true then (impl_graph_parts.l0 k1 x3_1 x4_1 l0_5 (l0_5.length : Int) (wrap64 (x21_1 + 1)) a0_0 a0_1 l0_2 a0_3 a0_4 l0_5 l0_6) else ((impl_graph_far.f k1 a0_0 a0_1 l0_2 a0_3 a0_4 l0_5 l0_6 (rd l0_5 x21_1)).bind fun t987 => (impl_graph_parts.l1 k1 x3_1 x4_1 ([] : List Int) l0_5 (l0_5.length : Int) x21_1 t987 (t987.length : Int) 0 a0_0 a0_1 l0_2 a0_3 a0_4 l0_5 l0_6))) = some r := by rw [← hbq13] at H; exact H
   have Nbq13 := Aside0.mk hbq13
   clear hbq13
   by_cases c14 : bq13 = true
   ·subst c14
    have H1 : (impl_graph_parts.l0 k1 x3_1 x4_1 l0_5 (l0_5.length : Int) (wrap64 (x21_1 + 1)) a0_0 a0_1 l0_2 a0_3 a0_4 l0_5 l0_6) = some r := by rw [if_pos rfl] at H; exact H
    clear H
    have H := H1
    clear H1
    have H' := Aside0.mk H
    clear H
    have p985 : 0 ≤ (x21_1 : Int) := of_decide_eq_true zam5
    have q985 : x21_1 < (l0_5.length : Int) := of_decide_eq_true zam5
    obtain ⟨ad985, e985, hx985_0⟩ := Kd.at_int HR0_5.out x21_1 p985 q985
    cases e985
    (first | replace hx985_0 := (HB.out.cell (World.block_lt_of_cell? w _ hx985_0)).trans hx985_0 | skip)
    replace p985 := eq_true p985
    replace q985 := eq_true q985
    obtain ⟨Ao15, co15, eo15⟩ := Kd.R_slice HO_4.out
    subst eo15
    have p986 : 0 ≤ ((rd l0_5 x21_1) : Int) := of_decide_eq_true zam5
    have q986 : (rd l0_5 x21_1) < (x4_1.length : Int) := of_decide_eq_true zam5
    obtain ⟨ad986, e986, hx986_0⟩ := Kd.at_bool (Kd.R_reads' HO_4.out).2.2 (rd l0_5 x21_1) p986 q986
    (try rw [← Nbq13.out] at hx986_0)
    cases e986
    replace p986 := eq_true p986
    replace q986 := eq_true q986
    go_wp2
    go_roundg k1
    case measure => have := HK1.out; omega
    case rel => exact ⟨(x3_1), (x4_1), (wrap64 (x21_1 + 1)), zam19, H', ⟨by have := HK1.out; omega⟩, ⟨zam18⟩, ⟨zam23⟩, ⟨zam13⟩, ⟨zam2⟩⟩
   replace c14 := Bool.eq_false_iff.mpr c14
   subst c14
   have H1 : ((impl_graph_far.f k1 a0_0 a0_1 l0_2 a0_3 a0_4 l0_5 l0_6 (rd l0_5 x21_1)).bind fun t987 => (impl_graph_parts.l1 k1 x3_1 x4_1 ([] : List Int) l0_5 (l0_5.length : Int) x21_1 t987 (t987.length : Int) 0 a0_0 a0_1 l0_2 a0_3 a0_4 l0_5 l0_6)) = some r := by rw [if_neg (show ¬ (false = true) by decide)] at H; exact H
   clear H
   have H := H1
   clear H1
   replace H := Option.bind_eq_some_iff.mp H
   obtain ⟨t987, A160, H⟩ := H
   replace H : (impl_graph_parts.l1 k1 x3_1 x4_1 ([] : List Int) l0_5 (l0_5.length : Int) x21_1 t987 (t987.length : Int) 0 a0_0 a0_1 l0_2 a0_3 a0_4 l0_5 l0_6) = some r := H
   have A16 := Aside0.mk A160
   clear A160
   have H' := Aside0.mk H
   clear H
   have p985 : 0 ≤ (x21_1 : Int) := of_decide_eq_true zam5
   have q985 : x21_1 < (l0_5.length : Int) := of_decide_eq_true zam5
   obtain ⟨ad985, e985, hx985_0⟩ := Kd.at_int HR0_5.out x21_1 p985 q985
   cases e985
   (first | replace hx985_0 := (HB.out.cell (World.block_lt_of_cell? w _ hx985_0)).trans hx985_0 | skip)
   replace p985 := eq_true p985
   replace q985 := eq_true q985
   obtain ⟨Ao17, co17, eo17⟩ := Kd.R_slice HO_4.out
   subst eo17
   have p986 : 0 ≤ ((rd l0_5 x21_1) : Int) := of_decide_eq_true zam5
   have q986 : (rd l0_5 x21_1) < (x4_1.length : Int) := of_decide_eq_true zam5
   obtain ⟨ad986, e986, hx986_0⟩ := Kd.at_bool (Kd.R_reads' HO_4.out).2.2 (rd l0_5 x21_1) p986 q986
   (try rw [← Nbq13.out] at hx986_0)
   cases e986
   replace p986 := eq_true p986
   replace q986 := eq_true q986
   go_wp2_with (first | ((with_reducible refine gate_callee (f := 56) rfl ?_); refine goesL_ (some 31) rfl rfl Try.func56 (by kernel_rfl) rfl #[.pointer (some ⟨gb0, 0, none⟩), .int .i64 (rd l0_5 x21_1)] rfl zam9 ?_; (with_reducible refine (impl_graph_far.calls k1 gb0 a0_0 a0_1 A0_2 c0_2 l0_2 a0_3 a0_4 (some ad985) c0_5 l0_5 A0_6 c0_6 l0_6 (rd l0_5 x21_1) t987 _ ?side1 ?side2 ?side3 ?side4 ?side5 ?side6 ?side7 A16.out).mono ?_); (case side1 => exact zam13); (case side2 => exact zam6); (case side3 => exact HC0_2.out); (case side4 => repeat (first | exact (Kd.C_below HR0_5.out HB.out) | (with_reducible refine Kd.C_alloc ?_ _) | (with_reducible refine Kd.C_drewN ?_ _) | (with_reducible refine Kd.C_drew ?_))); (case side5 => exact HC0_5.out); (case side6 => repeat (first | exact (Kd.C_below HR0_6.out HB.out) | (with_reducible refine Kd.C_alloc ?_ _) | (with_reducible refine Kd.C_drewN ?_ _) | (with_reducible refine Kd.C_drew ?_))); (case side7 => exact HC0_6.out); rintro e w18 ⟨v988, rfl, ho0, hb⟩; refine ⟨_, rfl, ?_⟩; have n0_ := Aside0.mk (Kd.S_elder' zam18 (Kd.R_base ho0) hb); have n1_ := Aside0.mk (Kd.R_below zam23 hb); have n2_ := Aside0.mk (Kd.R_lower ho0 (below_size zam2)); have n3_ := Aside0.mk (blk_below (g := gb0) (o := .cells #[.int .i64 a0_0, .int .i64 a0_1, .slice A0_2 l0_2.length c0_2, .int .i64 a0_3, .int .i64 a0_4, .slice (some ad985) l0_5.length c0_5, .slice A0_6 l0_6.length c0_6] 60 (0, 0)) zam13 hb); have n4_ := Aside0.mk (below_step zam2 hb); clear HO_3; clear HO_4; clear BK0; clear HB; have HO_3 := n0_; have HO_4 := n1_; have HO989 := n2_; have BK0 := n3_; have HB := n4_; clear n0_ n1_ n2_ n3_ n4_; (try clear hb); (try clear hb2); (try clear hk); (try clear hi); (try clear ho0); (try clear hna_); (try clear hnb_); obtain ⟨Ao19, co19, eo19⟩ := Kd.R_slice HO989.out; subst eo19))
   go_loopg [7, 33] k1 (fun kq v7 v33 w' => ∃ (x4_2 : List Bool) (x7_2 : List Int) (x33_2 : Int), v33 = .int .i64 x33_2 ∧ Aside0 (impl_graph_parts.l1 kq x3_1 x4_2 x7_2 l0_5 (l0_5.length : Int) x21_1 t987 (t987.length : Int) x33_2 a0_0 a0_1 l0_2 a0_3 a0_4 l0_5 l0_6 = some r) ∧ Aside0 (kq ≤ k1) ∧ Aside0 (Kd.S (Kd.slice 3 (Kd.int .i64)) 22 w' w.heap.size (fun k_ => some k_ ≠ (v7 : Value).ownBlock ∧ some k_ ≠ ((.slice Ao19 t987.length co19) : Value).ownBlock) u3 x3_1) ∧ Aside0 (Kd.R Kd.bool 4 w' w.heap.size (fun _ => True) (.slice (some ad986) x4_1.length co17) x4_2) ∧ Aside0 (Kd.R (Kd.int .i64) 3 w' w.heap.size (fun k_ => some k_ ≠ ((.slice Ao19 t987.length co19) : Value).ownBlock) v7 x7_2) ∧ Aside0 (Kd.R (Kd.int .i64) 3 w' w.heap.size (fun k_ => some k_ ≠ (v7 : Value).ownBlock) (.slice Ao19 t987.length co19) t987) ∧ Aside0 (w'.heap[gb0]? = some (.cells #[.int .i64 a0_0, .int .i64 a0_1, (.slice A0_2 l0_2.length c0_2), .int .i64 a0_3, .int .i64 a0_4, (.slice (some ad985) l0_5.length c0_5), (.slice A0_6 l0_6.length c0_6)] 60 (0, 0))) ∧ Aside0 (Below w.heap.size w w'))
   case atStart => exact ⟨(x4_1), (([] : List Int)), (0), zam19, H', ⟨Nat.le_refl _⟩, ⟨by (with_reducible repeat (first | apply Kd.S_alloc | apply Kd.S_drewN | apply Kd.S_drew)); exact Kd.S_mono HO_3.out (fun _ hk => ⟨(by simp [Value.ownBlock]), hk.2⟩)⟩, ⟨zam23⟩, ⟨zam37⟩, ⟨by (with_reducible repeat (first | apply Kd.R_alloc | apply Kd.R_drewN | apply Kd.R_drew)); exact Kd.R_mono HO989.out (fun _ hk => (by simp [Value.ownBlock]))⟩, ⟨zam13⟩, ⟨zam2⟩⟩
   case round =>
    clear H'
    try clear c1; try clear q1; try clear c2; try clear c2b0; try clear c2b1; try clear p2; try clear c3; try clear c3b0; try clear c3b1; try clear c5; try clear p6; try clear c7; try clear c8; try clear c8b0; try clear c9; try clear c9b0; try clear p9; try clear q9; try clear hx9; try clear c10; try clear c10b0; try clear c11; try clear c11b0; try clear c12; try clear c12b0; try clear q13; try clear c14; try clear hcz4_0; try clear hcz4_1; try clear hcz4_2; try clear hcz4_3; try clear hcz4_4; try clear hcz4_5; try clear hcz4_6; try clear hcz7_0; try clear hcz7_1; try clear hcz7_2; try clear hcz7_3
    try clear hcz7_4; try clear hcz7_5; try clear hcz7_6; try clear hfz4_0; try clear hfz4_1; try clear hfz4_2; try clear hfz4_3; try clear hfz4_4; try clear hfz4_5; try clear hfz4_6; try clear hfz7_0; try clear hfz7_1; try clear hfz7_2; try clear hfz7_3; try clear hfz7_4; try clear hfz7_5; try clear hfz7_6; try clear hx985_0; try clear hx986_0; try clear p2; try clear p985; try clear p986; try clear q985; try clear q986
    obtain ⟨x4_2, x7_2, x33_2, rfl, HA, HK2, HO_3, HO_4, HO_7, HO_31, BK0, HB⟩ := hrel
    have hl4_2 := (Kd.R_reads' HO_4.out).1
    rw [hl4_2] at HO_4
    (try simp only [hl4_2])
    (try simp only [hl4_2] at BK0)
    (try simp only [hl4_2] at HO_3)
    (try simp only [hl4_2] at HO_7)
    (try simp only [hl4_2] at HO_31)
    cases gk with
    | zero => exact absurd HA.out (by simp [impl_graph_parts.l1])
    | succ k2 =>
     have H := HA.out
     clear HA
     simp only [impl_graph_parts.l1] at H
     by_cases c20 : x33_2 < (t987.length : Int)
     rotate_left
     ·rw [if_neg c20] at H
      have c20b0 : decide (x33_2 < (t987.length : Int)) = false := decide_eq_false c20
      have c20b8 := c20b0
      (try simp only [hl4_2] at c20b8)
      clear c20
      by_cases c30 : x3_1.length < 5864062014805
      rotate_left
      ·rw [if_neg c30] at H
       exact absurd H (by simp)
      rw [if_pos c30] at H
      have LMc30 := Aside0.mk c30
      clear c30
      obtain ⟨y995, hy995⟩ : ∃ y_ : List (List Int), y_ = (x3_1 ++ [x7_2]) := ⟨_, rfl⟩
      replace H : (impl_graph_parts.l0 k2 y995 x4_2 l0_5 (l0_5.length : Int) (wrap64 (x21_1 + 1)) a0_0 a0_1 l0_2 a0_3 a0_4 l0_5 l0_6) = some r := by first | (rw [hy995]; with_reducible exact H) | (have H2_ := (Option.bind_some _ _).symm.trans H; rw [hy995]; with_reducible exact H2_) | (have H2_ := (Option.bind_some _ _).symm.trans H; with_reducible exact H2_) | with_reducible exact H | (rw [hy995]; exact H) | exact H
      have Ny995 := Aside0.mk hy995
      clear hy995
      have H' := Aside0.mk H
      clear H
      obtain ⟨Ao32, co32, eo32⟩ := Kd.R_slice HO_7.out
      subst eo32
      go_wp2_with (first | ((with_reducible refine gate_builtin (b := .append) (xs := #[.tmp 48, .tmp 50]) rfl ?_); at_builtin; refine Kd.S_append (Kd.slice 3 (Kd.int .i64)) (w0 := w) w.heap.size rfl (.tmp 48) (.tmp 50) 58 22 (.slice none 0 0) 24 rfl Try.underlying58 info22 rfl (by decide) (by omega) u3 x3_1 x7_2 [.slice Ao32 x7_2.length co32] (fun k_ => some k_ ≠ (.slice Ao19 t987.length co19 : Value).ownBlock) (fun k_ => some k_ = (.slice Ao32 x7_2.length co32 : Value).ownBlock) rfl rfl ?aP (fun k_ hk_ => ((Kd.R_mono (ok' := fun k_ => ((fun k_ => some k_ ≠ (.slice Ao19 t987.length co19 : Value).ownBlock)) k_ ∧ some k_ ≠ (u3 : Value).ownBlock) (Kd.R_apart' (HO_7.out) (Kd.S_typed HO_3.out) (by decide)) (fun k_ hk => ⟨hk.1, hk.2⟩))).1 k_ hk_.symm) ?aF ?aO ?aB ?aS ?aL ?_; (case aP => exact Kd.M_row (Kd.R_mono (Kd.R_tight rfl (Kd.R_mono (ok' := fun k_ => ((fun k_ => some k_ ≠ (.slice Ao19 t987.length co19 : Value).ownBlock)) k_ ∧ some k_ ≠ (u3 : Value).ownBlock) (Kd.R_apart' (HO_7.out) (Kd.S_typed HO_3.out) (by decide)) (fun k_ hk => ⟨hk.1, hk.2⟩))) (fun _ h_ => h_))); (case aB => exact zam2); (case aF => exact (fun k_ hk => Kd.fresh' (Kd.R_lt zam27) k_ hk)); (case aO => exact (by (with_reducible repeat (first | apply Kd.S_alloc | apply Kd.S_drewN | apply Kd.S_drew)); exact Kd.S_mono HO_3.out (fun k_ hk => ⟨hk.2, fun e_ => hk.1 e_⟩))); (case aS => exact (below_size zam2)); (case aL => have := LMc30.out; omega); intro v996 w31 ho hb hg hat; rw [← Ny995.out] at ho; have n0_ := Aside0.mk (Kd.R_over' zam23 (Kd.S_typed zam18) (by decide) hg); have n1_ := Aside0.mk (Kd.R_over' zam27 (Kd.S_typed zam18) (by decide) hg); have n2_ := Aside0.mk (blk_grown (g := gb0) (o := .cells #[.int .i64 a0_0, .int .i64 a0_1, .slice A0_2 l0_2.length c0_2, .int .i64 a0_3, .int .i64 a0_4, .slice (some ad985) l0_5.length c0_5, .slice A0_6 l0_6.length c0_6] 60 (0, 0)) zam13 hg (Kd.S_ne HO_3.out BK0.out (by decide))); have n3_ := Aside0.mk (hb); have n4_ := Aside0.mk (ho); clear HO_4; clear HO_31; clear BK0; clear HB; clear HO_3; clear HO_7; have HO_4 := n0_; have HO_31 := n1_; have BK0 := n2_; have HB := n3_; have HO997 := n4_; clear n0_ n1_ n2_ n3_ n4_; clear ho hb hg hat))
      (try simp only [← hl4_2])
      go_roundg k2
      case measure => have := HK1.out; have := HK2.out; omega
      case rel => exact ⟨(y995), (x4_2), (wrap64 (x21_1 + 1)), zam19, H', ⟨zam35⟩, ⟨by (try simp only [hl4_2]); (with_reducible repeat (first | apply Kd.S_alloc | apply Kd.S_drewN | apply Kd.S_drew)); exact Kd.S_mono HO997.out (fun _ hk => trivial)⟩, ⟨zam32⟩, ⟨zam30⟩, ⟨zam2⟩⟩
     rw [if_pos c20] at H
     have c20b0 : decide (x33_2 < (t987.length : Int)) = true := decide_eq_true c20
     have c20b8 := c20b0
     (try simp only [hl4_2] at c20b8)
     clear c20
     by_cases c21 : 0 ≤ x33_2
     rotate_left
     ·rw [if_neg c21] at H
      exact absurd H (by simp)
     rw [if_pos c21] at H
     have c21b0 : decide (0 ≤ x33_2) = true := decide_eq_true c21
     clear c21
     by_cases c22 : x33_2 < (t987.length : Int)
     rotate_left
     ·rw [if_neg c22] at H
      exact absurd H (by simp)
     rw [if_pos c22] at H
     have c22b0 : decide (x33_2 < (t987.length : Int)) = true := decide_eq_true c22
     have c22b8 := c22b0
     (try simp only [hl4_2] at c22b8)
     clear c22
     by_cases c23 : (rd t987 x33_2) ≥ 0
     rotate_left
     ·rw [if_neg c23] at H
      have c23b0 : decide (0 ≤ (rd t987 x33_2)) = false := decide_eq_false c23
      clear c23
      have H' := Aside0.mk H
      clear H
      have p990 : 0 ≤ (x33_2 : Int) := of_decide_eq_true zam5
      have q990 : x33_2 < (t987.length : Int) := of_decide_eq_true zam5
      obtain ⟨ad990, e990, hx990_0⟩ := Kd.at_int (Kd.R_reads' HO_31.out).2.2 x33_2 p990 q990
      cases e990
      replace p990 := eq_true p990
      replace q990 := eq_true q990
      go_wp2
      (try simp only [← hl4_2])
      go_roundg k2
      case measure => have := HK1.out; have := HK2.out; omega
      case rel => exact ⟨(x4_2), (x7_2), (wrap64 (x33_2 + 1)), zam19, H', ⟨zam35⟩, ⟨by (try simp only [hl4_2]); (with_reducible repeat (first | apply Kd.S_alloc | apply Kd.S_drewN | apply Kd.S_drew)); exact HO_3.out⟩, ⟨zam32⟩, ⟨by (try simp only [hl4_2]); (with_reducible repeat (first | apply Kd.R_alloc | apply Kd.R_drewN | apply Kd.R_drew)); exact HO_7.out⟩, ⟨by (try simp only [hl4_2]); (with_reducible repeat (first | apply Kd.R_alloc | apply Kd.R_drewN | apply Kd.R_drew)); exact HO_31.out⟩, ⟨zam30⟩, ⟨zam2⟩⟩
     rw [if_pos c23] at H
     have c23b0 : decide (0 ≤ (rd t987 x33_2)) = true := decide_eq_true c23
     clear c23
     by_cases c24 : x33_2 < (x4_2.length : Int)
     rotate_left
     ·rw [if_neg c24] at H
      exact absurd H (by simp)
     rw [if_pos c24] at H
     have c24b0 : decide (x33_2 < (x4_2.length : Int)) = true := decide_eq_true c24
     have c24b8 := c24b0
     (try simp only [hl4_2] at c24b8)
     clear c24
     obtain ⟨y991, hy991⟩ : ∃ y_ : List Bool, y_ = (x4_2.set (x33_2 : Int).toNat true) := ⟨_, rfl⟩
     replace H : (if x7_2.length < 17592186044416 then (impl_graph_parts.l1 k2 x3_1 y991 (x7_2 ++ [x33_2]) l0_5 (l0_5.length : Int) x21_1 t987 (t987.length : Int) (wrap64 (x33_2 + 1)) a0_0 a0_1 l0_2 a0_3 a0_4 l0_5 l0_6) else (none)) = some r := by first | (rw [hy991]; with_reducible exact H) | (have H2_ := (Option.bind_some _ _).symm.trans H; rw [hy991]; with_reducible exact H2_) | (have H2_ := (Option.bind_some _ _).symm.trans H; with_reducible exact H2_) | with_reducible exact H | (rw [hy991]; exact H) | exact H
     have Ny991 := Aside0.mk hy991
     clear hy991
     by_cases c26 : x7_2.length < 17592186044416
     rotate_left
     ·rw [if_neg c26] at H
      exact absurd H (by simp)
     rw [if_pos c26] at H
     have LMc26 := Aside0.mk c26
     clear c26
     obtain ⟨y992, hy992⟩ : ∃ y_ : List Int, y_ = (x7_2 ++ [x33_2]) := ⟨_, rfl⟩
     replace H : (impl_graph_parts.l1 k2 x3_1 y991 y992 l0_5 (l0_5.length : Int) x21_1 t987 (t987.length : Int) (wrap64 (x33_2 + 1)) a0_0 a0_1 l0_2 a0_3 a0_4 l0_5 l0_6) = some r := by first | (rw [hy992]; with_reducible exact H) | (have H2_ := (Option.bind_some _ _).symm.trans H; rw [hy992]; with_reducible exact H2_) | (have H2_ := (Option.bind_some _ _).symm.trans H; with_reducible exact H2_) | with_reducible exact H | (rw [hy992]; exact H) | exact H
     have Ny992 := Aside0.mk hy992
     clear hy992
     have H' := Aside0.mk H
     clear H
     have p990 : 0 ≤ (x33_2 : Int) := of_decide_eq_true zam5
     have q990 : x33_2 < (t987.length : Int) := of_decide_eq_true zam5
     obtain ⟨ad990, e990, hx990_0⟩ := Kd.at_int (Kd.R_reads' HO_31.out).2.2 x33_2 p990 q990
     cases e990
     replace p990 := eq_true p990
     replace q990 := eq_true q990
     have p25 : 0 ≤ (x33_2 : Int) := of_decide_eq_true zam5
     have q25 : (x33_2 : Int) < ((x4_2.length : Int) : Int) := of_decide_eq_true zam5
     obtain ⟨go25, co25, eo25, gb25, gl25, cl25, HG25⟩ := Kd.R_form HO_4.out (by omega)
     (first | cases eo25 | (injection eo25 with ea_ en_ ec_; (first | subst ea_ | (injection ea_ with ea_; subst ea_)); subst ec_; clear en_))
     have GB25 := Aside0.mk gb25
     have GG25 := Aside0.mk HG25
     clear gb25 gl25 HG25
     (try simp only [add_plain] at *)
     (first | simp only [add_plain] at hx986_0 | skip)
     obtain ⟨hx25_0, hf25_0⟩ := Kd.R_celln false HO_4.out (x33_2 : Int) p25 q25
     replace p25 := eq_true p25
     replace q25 := eq_true q25
     have HP27 := Kd.R_putg HO_4.out (x33_2 : Int) true
     go_wp2_with (first | ((with_reducible refine gate_store (t := 4) (p := 42) rfl ?_); refine store_event (t := 4) (p := 42) (v := ?vo_w28) (w1 := (wr.setCell ⟨go25, (x33_2 : Int).toNat, none⟩ (.bool true))) ?hg ?ho ?hn ?hr ?_; (case ho => rfl); (case hg => rfl); (case hn => rfl); (case hr => first | (go_simp; done) | (go_simp; rfl)); intro w28 hw; have hg : wr.grownBy w28 (some go25) := (by rw [hw]; exact HP27.2); have hp_ : Kd.R Kd.bool 4 w28 w.heap.size (fun _ => True) (.slice (some ⟨go25, 0, none⟩) x4_2.length co17) y991 := (by rw [hw, Ny991.out]; exact HP27.1); clear HP27; have n0_ := Aside0.mk (Kd.S_over' (v := (.slice (some ⟨go25, 0, none⟩) x4_2.length co17)) zam18 (Kd.R_typed HO_4.out) (by decide) hg); have n1_ := Aside0.mk (hp_); have n2_ := Aside0.mk (Kd.R_over' (v := (.slice (some ⟨go25, 0, none⟩) x4_2.length co17)) zam34 (Kd.R_typed HO_4.out) (by decide) hg); have n3_ := Aside0.mk (Kd.R_over' (v := (.slice (some ⟨go25, 0, none⟩) x4_2.length co17)) zam27 (Kd.R_typed HO_4.out) (by decide) hg); have n4_ := Aside0.mk (blk_grown (g := gb0) (o := .cells #[.int .i64 a0_0, .int .i64 a0_1, .slice A0_2 l0_2.length c0_2, .int .i64 a0_3, .int .i64 a0_4, .slice (some ad985) l0_5.length c0_5, .slice A0_6 l0_6.length c0_6] 60 (0, 0)) zam13 hg (Kd.R_ne HO_4.out BK0.out (by decide))); have n5_ := Aside0.mk ((by rw [hw]; exact below_set (HB.out) GB25.out : Below w.heap.size w w28)); clear HO_3; clear HO_4; clear HO_7; clear HO_31; clear BK0; clear HB; have HO_3 := n0_; have HO_4 := n1_; have HO_7 := n2_; have HO_31 := n3_; have BK0 := n4_; have HB := n5_; clear n0_ n1_ n2_ n3_ n4_ n5_; clear hg hw hp_) | ((with_reducible refine gate_builtin (b := .append) (xs := #[.tmp 43, .tmp 45]) rfl ?_); at_builtin; refine Kd.R_append (Kd.int .i64) (w0 := w) w.heap.size rfl (.tmp 43) (.tmp 45) 22 3 (.int .i64 0) 8 rfl Try.underlying22 info3 rfl (by decide) (by omega) u7 x7_2 x33_2 [.int .i64 x33_2] (fun k_ => some k_ ≠ (.slice (some ad990) t987.length co19 : Value).ownBlock) (fun _ => False) rfl rfl ?aP (fun _ hk => hk.elim) ?aF ?aO ?aB ?aS ?aL ?_; (case aP => exact rfl); (case aB => exact zam2); (case aF => exact (fun k_ hk => Kd.fresh' (Kd.R_lt zam27) k_ hk)); (case aO => exact zam34); (case aS => exact (below_size zam2)); (case aL => have := LMc26.out; omega); intro v993 w29 ho hb hg hat; rw [← Ny992.out] at ho; have n0_ := Aside0.mk (Kd.S_after (ok := (fun k_ => some k_ ≠ (.slice (some ad990) t987.length co19 : Value).ownBlock)) (by (with_reducible repeat (first | apply Kd.S_alloc | apply Kd.S_drewN | apply Kd.S_drew)); exact Kd.S_mono HO_3.out (fun _ hk => ⟨hk.2, hk.1⟩)) hg hat); have n1_ := Aside0.mk (Kd.R_over' zam23 (Kd.R_typed zam34) (by decide) hg); have n2_ := Aside0.mk (Kd.R_after (ok := (fun _ => True)) (by (with_reducible repeat (first | apply Kd.R_alloc | apply Kd.R_drewN | apply Kd.R_drew)); exact Kd.R_mono HO_31.out (fun _ hk => ⟨trivial, hk⟩)) hg hat); have n3_ := Aside0.mk (blk_grown (g := gb0) (o := .cells #[.int .i64 a0_0, .int .i64 a0_1, .slice A0_2 l0_2.length c0_2, .int .i64 a0_3, .int .i64 a0_4, .slice (some ad985) l0_5.length c0_5, .slice A0_6 l0_6.length c0_6] 60 (0, 0)) zam13 hg (Kd.R_ne HO_7.out BK0.out (by decide))); have n4_ := Aside0.mk (hb); have n5_ := Aside0.mk (ho); clear HO_3; clear HO_4; clear HO_31; clear BK0; clear HB; clear HO_7; have HO_3 := n0_; have HO_4 := n1_; have HO_31 := n2_; have BK0 := n3_; have HB := n4_; have HO994 := n5_; clear n0_ n1_ n2_ n3_ n4_ n5_; clear ho hb hg hat))
     (try simp only [← hl4_2])
     go_roundg k2
     case measure => have := HK1.out; have := HK2.out; omega
     case rel => exact ⟨(y991), (y992), (wrap64 (x33_2 + 1)), zam19, H', ⟨zam35⟩, ⟨by (try simp only [hl4_2]); (with_reducible repeat (first | apply Kd.S_alloc | apply Kd.S_drewN | apply Kd.S_drew)); exact Kd.S_mono HO_3.out (fun _ hk => ⟨hk.2, hk.1⟩)⟩, ⟨zam32⟩, ⟨by (try simp only [hl4_2]); (with_reducible repeat (first | apply Kd.R_alloc | apply Kd.R_drewN | apply Kd.R_drew)); exact HO994.out⟩, ⟨by (try simp only [hl4_2]); (with_reducible repeat (first | apply Kd.R_alloc | apply Kd.R_drewN | apply Kd.R_drew)); exact Kd.R_mono HO_31.out (fun _ hk => hk.2)⟩, ⟨zam30⟩, ⟨zam2⟩⟩

/-! ### impl_IsWhole: function 41 -/
def impl_IsWhole.f (k : Nat) (a0_0 : Int) (a0_1 : Int) (l0_2 : List Int) (a1_0 : Int) (a1_1 : Int) : Option (Bool × Bool) := (impl_graphOf.f k a0_0 a0_1 l0_2 a1_0 a1_1).bind fun bt1000 => (if bt1000.2.2 = true then ((impl_graph_parts.f k a0_0 a0_1 l0_2 a1_0 a1_1 bt1000.1 bt1000.2.1).bind fun t1009 => (some (((t1009.length : Int) == 1), true))) else (some (false, false)))
set_option maxHeartbeats 8000000 in
set_option maxRecDepth 100000 in
theorem impl_IsWhole.calls (k : Nat) (a0_0 : Int) (a0_1 : Int) (A0_2 : Option Addr) (c0_2 : Nat) (l0_2 : List Int) (a1_0 : Int) (a1_1 : Int) (r1 : Bool) (r2 : Bool) (w : World) (hr0_2 : Kd.C (Kd.int .i64) w A0_2 l0_2.length l0_2) (hc0_2 : l0_2.length ≤ c0_2) (h : impl_IsWhole.f k a0_0 a0_1 l0_2 a1_0 a1_1 = some (r1, r2)) :
  Calls Try.prog 41 #[.agg #[.int .i64 a0_0, .int .i64 a0_1, .slice A0_2 l0_2.length c0_2], .agg #[.int .i64 a1_0, .int .i64 a1_1]] w fun e w' => e = .returned (.tuple #[.bool r1, .bool r2]) ∧ Below w.heap.size w w' := by
 have hu30 := Try.underlying30
 have hu32 := Try.underlying32
 have HR0_2 := Aside0.mk hr0_2
 have HC0_2 := Aside0.mk hc0_2
 clear hr0_2 hc0_2
 have HB := Aside0.mk (Below.refl w.heap.size w)
 have H : ((impl_graphOf.f k a0_0 a0_1 l0_2 a1_0 a1_1).bind fun bt1000 => (if bt1000.2.2 = true then ((impl_graph_parts.f k a0_0 a0_1 l0_2 a1_0 a1_1 bt1000.1 bt1000.2.1).bind fun t1009 => (some (((t1009.length : Int) == 1), true))) else (some (false, false)))) = some (r1, r2) := h
 clear h
 replace H := Option.bind_eq_some_iff.mp H
 obtain ⟨⟨t1000, t1003, t1008⟩, A30, H⟩ := H
 replace H : (if t1008 = true then ((impl_graph_parts.f k a0_0 a0_1 l0_2 a1_0 a1_1 t1000 t1003).bind fun t1009 => (some (((t1009.length : Int) == 1), true))) else (some (false, false))) = some (r1, r2) := H
 have A3 := Aside0.mk A30
 clear A30
 by_cases c4 : t1008 = true
 rotate_left
 ·replace c4 := Bool.eq_false_iff.mpr c4
  subst c4
  have H1 : (some (false, false)) = some (r1, r2) := by rw [if_neg (show ¬ (false = true) by decide)] at H; exact H
  clear H
  have H := H1
  clear H1
  simp only [Option.some.injEq, Prod.mk.injEq] at H
  obtain ⟨rfl, rfl⟩ := H
  go_enter Try.func41, Try.ntmps41
  go_wp2_with (first | ((with_reducible refine gate_dst (N := 2) rfl ?_); refine box_event ?hg (N := 2) ?hd (cs := #[.int .i64 a0_0, .int .i64 a0_1, .slice A0_2 l0_2.length c0_2]) (t := 30) ?hr ?_; (case hd => rfl); (case hg => rfl); (case hr => first | (go_simp; done) | (go_simp; rfl)); intro gb998 hg w16 hbox hb; have n0_ := Aside0.mk (below_step zam3 hb); have n1_ := Aside0.mk (hbox); have n2_ := Aside0.mk ((zam39 : w.heap.size ≤ gb998)); have n3_ := Aside0.mk ((zam39 : w.heap.size ≤ gb998)); clear HB; have HB := n0_; have BK998 := n1_; have GW998 := n2_; have GE998 := n3_; clear n0_ n1_ n2_ n3_; clear hb hbox hg) | ((with_reducible refine gate_dst (N := 3) rfl ?_); refine box_event ?hg (N := 3) ?hd (cs := #[.int .i64 a1_0, .int .i64 a1_1]) (t := 32) ?hr ?_; (case hd => rfl); (case hg => rfl); (case hr => first | (go_simp; done) | (go_simp; rfl)); intro gb999 hg w17 hbox hb; have n0_ := Aside0.mk (blk_below (g := gb998) (o := .cells #[.int .i64 a0_0, .int .i64 a0_1, .slice A0_2 l0_2.length c0_2] 30 (0, 0)) zam8 hb); have n1_ := Aside0.mk (below_step zam14 hb); have n2_ := Aside0.mk (hbox); have n3_ := Aside0.mk ((by rw [hg]; exact (below_size zam14) : w.heap.size ≤ gb999)); have n4_ := Aside0.mk ((by rw [hg]; exact (below_size zam14) : w.heap.size ≤ gb999)); have n5_ := Aside0.mk ((zam42 : gb998 ≠ gb999)); have n6_ := Aside0.mk ((zam43 : gb999 ≠ gb998)); clear BK998; clear HB; have BK998 := n0_; have HB := n1_; have BK999 := n2_; have GW999 := n3_; have GE999 := n4_; have NB998_999 := n5_; have NB999_998 := n6_; clear n0_ n1_ n2_ n3_ n4_ n5_ n6_; clear hb hbox hg; have hnb18 := NB998_999.out; have hnc18 := NB999_998.out; have hcz19_0 : w17.cell? ⟨gb998, 0, none⟩ = some (.int .i64 a0_0) := (blk_cell BK998.out 0).trans rfl; have hcz19_1 : w17.cell? ⟨gb998, 1, none⟩ = some (.int .i64 a0_1) := (blk_cell BK998.out 1).trans rfl; have hcz19_2 : w17.cell? ⟨gb998, 2, none⟩ = some (.slice A0_2 l0_2.length c0_2) := (blk_cell BK998.out 2).trans rfl; have hfz19_0 := blk_frozen BK998.out 0; have hfz19_1 := blk_frozen BK998.out 1; have hfz19_2 := blk_frozen BK998.out 2; have hcz20_0 : w17.cell? ⟨gb999, 0, none⟩ = some (.int .i64 a1_0) := (blk_cell BK999.out 0).trans rfl; have hcz20_1 : w17.cell? ⟨gb999, 1, none⟩ = some (.int .i64 a1_1) := (blk_cell BK999.out 1).trans rfl; have hfz20_0 := blk_frozen BK999.out 0; have hfz20_1 := blk_frozen BK999.out 1) | ((with_reducible refine gate_callee (f := 60) rfl ?_); refine goesL_ (some 11) rfl rfl Try.func60 (by kernel_rfl) rfl #[.agg #[.int .i64 a0_0, .int .i64 a0_1, .slice A0_2 l0_2.length c0_2], .agg #[.int .i64 a1_0, .int .i64 a1_1]] rfl zam9 ?_; (with_reducible refine (impl_graphOf.calls k a0_0 a0_1 _ _ l0_2 a1_0 a1_1 t1000 t1003 false _ ?side1 ?side2 A3.out).mono ?_); (case side1 => exact zam6); (case side2 => exact HC0_2.out); rintro e w21 ⟨v1001, v1004, pv1007, rfl, hgp, ho0, ho1, hb⟩; refine ⟨_, rfl, ?_⟩; obtain rfl := hgp.2 rfl; have n0_ := Aside0.mk (Kd.R_lower ho0 (below_size zam4)); have n1_ := Aside0.mk (Kd.S_lower ho1 (below_size zam4)); have n2_ := Aside0.mk (blk_below (g := gb998) (o := .cells #[.int .i64 a0_0, .int .i64 a0_1, .slice A0_2 l0_2.length c0_2] 30 (0, 0)) zam8 hb); have n3_ := Aside0.mk (blk_below (g := gb999) (o := .cells #[.int .i64 a1_0, .int .i64 a1_1] 32 (0, 0)) zam20 hb); have n4_ := Aside0.mk (below_step zam4 hb); clear BK998; clear BK999; clear HB; have HO1002 := n0_; have HO1005 := n1_; have BK998 := n2_; have BK999 := n3_; have HB := n4_; clear n0_ n1_ n2_ n3_ n4_; (try clear hb); (try clear hb2); (try clear hk); (try clear hi); (try clear ho0); (try clear ho1); (try clear hgp); (try clear hbox); (try clear hge); (try clear hna_); (try clear hnb_)))
  go_ret2
  exact ⟨zam24, zam4⟩
 subst c4
 have H1 : ((impl_graph_parts.f k a0_0 a0_1 l0_2 a1_0 a1_1 t1000 t1003).bind fun t1009 => (some (((t1009.length : Int) == 1), true))) = some (r1, r2) := by rw [if_pos rfl] at H; exact H
 clear H
 have H := H1
 clear H1
 replace H := Option.bind_eq_some_iff.mp H
 obtain ⟨t1009, A50, H⟩ := H
 replace H : (some (((t1009.length : Int) == 1), true)) = some (r1, r2) := H
 have A5 := Aside0.mk A50
 clear A50
 simp only [Option.some.injEq, Prod.mk.injEq] at H
 obtain ⟨rfl, rfl⟩ := H
 go_enter Try.func41, Try.ntmps41
 go_wp2_with (first | ((with_reducible refine gate_dst (N := 2) rfl ?_); refine box_event ?hg (N := 2) ?hd (cs := #[.int .i64 a0_0, .int .i64 a0_1, .slice A0_2 l0_2.length c0_2]) (t := 30) ?hr ?_; (case hd => rfl); (case hg => rfl); (case hr => first | (go_simp; done) | (go_simp; rfl)); intro gb998 hg w6 hbox hb; have n0_ := Aside0.mk (below_step zam3 hb); have n1_ := Aside0.mk (hbox); have n2_ := Aside0.mk ((zam39 : w.heap.size ≤ gb998)); have n3_ := Aside0.mk ((zam39 : w.heap.size ≤ gb998)); clear HB; have HB := n0_; have BK998 := n1_; have GW998 := n2_; have GE998 := n3_; clear n0_ n1_ n2_ n3_; clear hb hbox hg) | ((with_reducible refine gate_dst (N := 3) rfl ?_); refine box_event ?hg (N := 3) ?hd (cs := #[.int .i64 a1_0, .int .i64 a1_1]) (t := 32) ?hr ?_; (case hd => rfl); (case hg => rfl); (case hr => first | (go_simp; done) | (go_simp; rfl)); intro gb999 hg w7 hbox hb; have n0_ := Aside0.mk (blk_below (g := gb998) (o := .cells #[.int .i64 a0_0, .int .i64 a0_1, .slice A0_2 l0_2.length c0_2] 30 (0, 0)) zam8 hb); have n1_ := Aside0.mk (below_step zam14 hb); have n2_ := Aside0.mk (hbox); have n3_ := Aside0.mk ((by rw [hg]; exact (below_size zam14) : w.heap.size ≤ gb999)); have n4_ := Aside0.mk ((by rw [hg]; exact (below_size zam14) : w.heap.size ≤ gb999)); have n5_ := Aside0.mk ((zam42 : gb998 ≠ gb999)); have n6_ := Aside0.mk ((zam43 : gb999 ≠ gb998)); clear BK998; clear HB; have BK998 := n0_; have HB := n1_; have BK999 := n2_; have GW999 := n3_; have GE999 := n4_; have NB998_999 := n5_; have NB999_998 := n6_; clear n0_ n1_ n2_ n3_ n4_ n5_ n6_; clear hb hbox hg; have hnb8 := NB998_999.out; have hnc8 := NB999_998.out; have hcz9_0 : w7.cell? ⟨gb998, 0, none⟩ = some (.int .i64 a0_0) := (blk_cell BK998.out 0).trans rfl; have hcz9_1 : w7.cell? ⟨gb998, 1, none⟩ = some (.int .i64 a0_1) := (blk_cell BK998.out 1).trans rfl; have hcz9_2 : w7.cell? ⟨gb998, 2, none⟩ = some (.slice A0_2 l0_2.length c0_2) := (blk_cell BK998.out 2).trans rfl; have hfz9_0 := blk_frozen BK998.out 0; have hfz9_1 := blk_frozen BK998.out 1; have hfz9_2 := blk_frozen BK998.out 2; have hcz10_0 : w7.cell? ⟨gb999, 0, none⟩ = some (.int .i64 a1_0) := (blk_cell BK999.out 0).trans rfl; have hcz10_1 : w7.cell? ⟨gb999, 1, none⟩ = some (.int .i64 a1_1) := (blk_cell BK999.out 1).trans rfl; have hfz10_0 := blk_frozen BK999.out 0; have hfz10_1 := blk_frozen BK999.out 1) | ((with_reducible refine gate_callee (f := 60) rfl ?_); refine goesL_ (some 11) rfl rfl Try.func60 (by kernel_rfl) rfl #[.agg #[.int .i64 a0_0, .int .i64 a0_1, .slice A0_2 l0_2.length c0_2], .agg #[.int .i64 a1_0, .int .i64 a1_1]] rfl zam9 ?_; (with_reducible refine (impl_graphOf.calls k a0_0 a0_1 _ _ l0_2 a1_0 a1_1 t1000 t1003 true _ ?side1 ?side2 A3.out).mono ?_); (case side1 => exact zam6); (case side2 => exact HC0_2.out); rintro e w11 ⟨v1001, v1004, pv1007, rfl, hgp, ho0, ho1, hb⟩; refine ⟨_, rfl, ?_⟩; obtain ⟨gb1006, rfl, hbox, hge⟩ := hgp.1 rfl; have n0_ := Aside0.mk (Kd.R_lower ho0 (below_size zam4)); have n1_ := Aside0.mk (Kd.S_lower ho1 (below_size zam4)); have n2_ := Aside0.mk (blk_below (g := gb998) (o := .cells #[.int .i64 a0_0, .int .i64 a0_1, .slice A0_2 l0_2.length c0_2] 30 (0, 0)) zam8 hb); have n3_ := Aside0.mk (blk_below (g := gb999) (o := .cells #[.int .i64 a1_0, .int .i64 a1_1] 32 (0, 0)) zam20 hb); have n4_ := Aside0.mk (hbox); have n5_ := Aside0.mk ((Nat.le_trans (by exact (below_size zam4)) hge : w.heap.size ≤ gb1006)); have n6_ := Aside0.mk ((Nat.le_trans (by exact (below_size zam4)) hge : w.heap.size ≤ gb1006)); have n7_ := Aside0.mk ((Nat.ne_of_lt (Nat.lt_of_lt_of_le (blk_lt (g := gb998) (o := .cells #[.int .i64 a0_0, .int .i64 a0_1, .slice A0_2 l0_2.length c0_2] 30 (0, 0)) zam8) hge) : gb998 ≠ gb1006)); have n8_ := Aside0.mk ((Nat.ne_of_gt (Nat.lt_of_lt_of_le (blk_lt (g := gb998) (o := .cells #[.int .i64 a0_0, .int .i64 a0_1, .slice A0_2 l0_2.length c0_2] 30 (0, 0)) zam8) hge) : gb1006 ≠ gb998)); have n9_ := Aside0.mk ((Nat.ne_of_lt (Nat.lt_of_lt_of_le (blk_lt (g := gb999) (o := .cells #[.int .i64 a1_0, .int .i64 a1_1] 32 (0, 0)) zam20) hge) : gb999 ≠ gb1006)); have n10_ := Aside0.mk ((Nat.ne_of_gt (Nat.lt_of_lt_of_le (blk_lt (g := gb999) (o := .cells #[.int .i64 a1_0, .int .i64 a1_1] 32 (0, 0)) zam20) hge) : gb1006 ≠ gb999)); have n11_ := Aside0.mk (below_step zam4 hb); clear BK998; clear BK999; clear HB; have HO1002 := n0_; have HO1005 := n1_; have BK998 := n2_; have BK999 := n3_; have BK1006 := n4_; have GW1006 := n5_; have GE1006 := n6_; have NB998_1006 := n7_; have NB1006_998 := n8_; have NB999_1006 := n9_; have NB1006_999 := n10_; have HB := n11_; clear n0_ n1_ n2_ n3_ n4_ n5_ n6_ n7_ n8_ n9_ n10_ n11_; (try clear hb); (try clear hb2); (try clear hk); (try clear hi); (try clear ho0); (try clear ho1); (try clear hgp); (try clear hbox); (try clear hge); (try clear hna_); (try clear hnb_); obtain ⟨Ao12, co12, eo12⟩ := Kd.R_slice HO1002.out; subst eo12; obtain ⟨Ao13, co13, eo13⟩ := Kd.S_slice HO1005.out; subst eo13) | ((with_reducible refine gate_callee (f := 77) rfl ?_); refine goesL_ (some 17) rfl rfl Try.func77 (by kernel_rfl) rfl #[.pointer (some ⟨gb1006, 0, none⟩)] rfl zam9 ?_; (with_reducible refine (impl_graph_parts.calls k gb1006 a0_0 a0_1 A0_2 c0_2 l0_2 a1_0 a1_1 Ao12 co12 t1000 Ao13 co13 t1003 t1009 _ ?side1 ?side2 ?side3 ?side4 ?side5 ?side6 ?side7 A5.out).mono ?_); (case side1 => exact zam38); (case side2 => exact zam6); (case side3 => exact HC0_2.out); (case side4 => repeat (first | exact (Kd.R_reads' HO1002.out).2.2 | (with_reducible refine Kd.C_alloc ?_ _) | (with_reducible refine Kd.C_drewN ?_ _) | (with_reducible refine Kd.C_drew ?_))); (case side5 => exact (Kd.R_reads' HO1002.out).2.1); (case side6 => repeat (first | exact (Kd.S_reads' HO1005.out).2.2 | (with_reducible refine Kd.C_alloc ?_ _) | (with_reducible refine Kd.C_drewN ?_ _) | (with_reducible refine Kd.C_drew ?_))); (case side7 => exact (Kd.S_reads' HO1005.out).2.1); rintro e w14 ⟨v1010, rfl, ho0, hb⟩; refine ⟨_, rfl, ?_⟩; have n0_ := Aside0.mk (Kd.R_below (by (with_reducible repeat (first | apply Kd.R_alloc | apply Kd.R_drewN | apply Kd.R_drew)); exact HO1002.out) hb); have n1_ := Aside0.mk (Kd.S_elder' (by (with_reducible repeat (first | apply Kd.S_alloc | apply Kd.S_drewN | apply Kd.S_drew)); exact HO1005.out) (Kd.S_base ho0) hb); have n2_ := Aside0.mk (Kd.S_lower (Kd.S_new' (Kd.S_new' ho0 (Kd.R_lt (by (with_reducible repeat (first | apply Kd.R_alloc | apply Kd.R_drewN | apply Kd.R_drew)); exact HO1002.out))) (Kd.S_lt (by (with_reducible repeat (first | apply Kd.S_alloc | apply Kd.S_drewN | apply Kd.S_drew)); exact HO1005.out))) (below_size zam21)); have n3_ := Aside0.mk (blk_below (g := gb998) (o := .cells #[.int .i64 a0_0, .int .i64 a0_1, .slice A0_2 l0_2.length c0_2] 30 (0, 0)) zam8 hb); have n4_ := Aside0.mk (blk_below (g := gb999) (o := .cells #[.int .i64 a1_0, .int .i64 a1_1] 32 (0, 0)) zam20 hb); have n5_ := Aside0.mk (blk_below (g := gb1006) (o := .cells #[.int .i64 a0_0, .int .i64 a0_1, .slice A0_2 l0_2.length c0_2, .int .i64 a1_0, .int .i64 a1_1, .slice Ao12 t1000.length co12, .slice Ao13 t1003.length co13] 60 (0, 0)) zam38 hb); have n6_ := Aside0.mk (below_step zam21 hb); clear HO1002; clear HO1005; clear BK998; clear BK999; clear BK1006; clear HB; have HO1002 := n0_; have HO1005 := n1_; have HO1011 := n2_; have BK998 := n3_; have BK999 := n4_; have BK1006 := n5_; have HB := n6_; clear n0_ n1_ n2_ n3_ n4_ n5_ n6_; (try clear hb); (try clear hb2); (try clear hk); (try clear hi); (try clear ho0); (try clear hna_); (try clear hnb_); obtain ⟨Ao15, co15, eo15⟩ := Kd.S_slice HO1011.out; subst eo15))
 go_ret2
 exact ⟨zam24, zam21⟩

end Go.Proofs.Ythoklbeenjppbaa.Q

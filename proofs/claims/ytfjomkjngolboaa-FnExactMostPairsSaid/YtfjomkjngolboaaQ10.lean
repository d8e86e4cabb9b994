/- Written by a program of this session: functions of the translation as plain Lean functions, each with a proof that the call does what the plain function says; the conditions stand in each theorem. -/
import Derived.Test.YtfjomkjngolboaaQ0
import Derived.Test.YtfjomkjngolboaaQ8
import Derived.Test.YtfjomkjngolboaaQ9
import Derived.Test.YtfjomkjngolboaaQ15
namespace Go.Proofs.Ytfjomkjngolboaa.Q
open Go.RowKit Go.Proofs.YtfjomkjngolboaaW.PrintWords Go.Proofs.YtfjomkjngolboaaW.PrintLast Go.Proofs.YtfjomkjngolboaaW.PrintMore
attribute [local go_sem] max2_int min2_int max_two min_two max_three min_three max_four min_four   -- for this text's walks alone
set_option linter.unusedVariables false
set_option linter.unusedSimpArgs false

theorem zk1 {p : Prop} (h : p := by repeat (first | (with_reducible first | exact HB.out | apply below_alloc | apply pw_below_drewN | apply below_drew1 | refine below_set ?_ GE306.out | refine below_set ?_ GE307.out | refine below_set ?_ GE314.out) | exact HB.out)) : p := h
theorem zk2 {p : Prop} (h : p := by first | exact BK306.out | ((with_reducible repeat (first | refine blk_drewN ?_ _ | refine blk_drew ?_ | refine blk_alloc ?_ _)); exact BK306.out)) : p := h
theorem zk3 {p : Prop} (h : p := by repeat (first | (with_reducible first | exact HB.out | apply below_alloc | apply pw_below_drewN | apply below_drew1 | refine below_set ?_ GE306.out | refine below_set ?_ GE307.out) | exact HB.out)) : p := h
theorem zk4 {p : Prop} (h : p := by first | exact BK307.out | ((with_reducible repeat (first | refine blk_drewN ?_ _ | refine blk_drew ?_ | refine blk_alloc ?_ _)); exact BK307.out)) : p := h
theorem zk5 {p : Prop} (h : p := by first | exact BK314.out | ((with_reducible repeat (first | refine blk_drewN ?_ _ | refine blk_drew ?_ | refine blk_alloc ?_ _)); exact BK314.out)) : p := h
theorem zk6 {p : Prop} (h : p := by first | (with_reducible assumption) | assumption) : p := h
theorem zk7 {p : Prop} (h : p := by repeat (first | (with_reducible first | exact HB.out | apply below_alloc | apply pw_below_drewN | apply below_drew1 | refine below_set ?_ GE306.out) | exact HB.out)) : p := h
theorem zk8 {p : Prop} (h : p := by repeat (first | (with_reducible first | exact HB.out | apply below_alloc | apply pw_below_drewN | apply below_drew1) | exact HB.out)) : p := h
theorem zk9 {p : Prop} (h : p := by first | rfl | (simp; done) | (simp [*]; done)) : p := h
theorem zk10 {p : Prop} (h : p := by (try simp only [hl8_1]); (try simp only [hl8_2]); first | exact BK314.out | ((with_reducible repeat (first | refine blk_drewN ?_ _ | refine blk_drew ?_ | refine blk_alloc ?_ _)); exact BK314.out)) : p := h
theorem zk11 {p : Prop} (h : p := by (try simp only [hl8_1]); (try simp only [hl8_2]); first | exact BK307.out | ((with_reducible repeat (first | refine blk_drewN ?_ _ | refine blk_drew ?_ | refine blk_alloc ?_ _)); exact BK307.out)) : p := h
theorem zk12 {p : Prop} (h : p := by (try simp only [hl8_1]); (try simp only [hl8_2]); first | exact BK306.out | ((with_reducible repeat (first | refine blk_drewN ?_ _ | refine blk_drew ?_ | refine blk_alloc ?_ _)); exact BK306.out)) : p := h
theorem zk13 {p : Prop} (h : p := by repeat (first | exact (Kd.C_below HR0_2.out HB.out) | (with_reducible refine Kd.C_alloc ?_ _) | (with_reducible refine Kd.C_drewN ?_ _) | (with_reducible refine Kd.C_drew ?_))) : p := h
theorem zk14 {p : Prop} (h : p := by first | exact HO_315005.out | ((with_reducible repeat (first | apply Kd.R_alloc | apply Kd.R_drewN | apply Kd.R_drew)); exact HO_315005.out)) : p := h
theorem zk15 {p : Prop} (h : p := by (try simp only [hl8_1]); (try simp only [hl8_2]); first | exact HO_315006.out | ((with_reducible repeat (first | apply Kd.S_alloc | apply Kd.S_drewN | apply Kd.S_drew)); exact HO_315006.out)) : p := h
theorem zk16 {p : Prop} (h : p := by (try simp only [hl8_1]); (try simp only [hl8_2]); first | exact HO_315005.out | ((with_reducible repeat (first | apply Kd.R_alloc | apply Kd.R_drewN | apply Kd.R_drew)); exact HO_315005.out)) : p := h
theorem zk17 {p : Prop} (h : p := by (try simp only [hl8_1]); (try simp only [hl8_2]); first | exact HO_42.out | ((with_reducible repeat (first | apply Kd.R_alloc | apply Kd.R_drewN | apply Kd.R_drew)); exact HO_42.out)) : p := h
theorem zk18 {p : Prop} (h : p := by (try simp only [hl8_1]); (try simp only [hl8_2]); first | exact HO_11.out | ((with_reducible repeat (first | apply Kd.R_alloc | apply Kd.R_drewN | apply Kd.R_drew)); exact HO_11.out)) : p := h
theorem zk19 {p : Prop} (h : p := by first | exact HO_8.out | ((with_reducible repeat (first | apply Kd.R_alloc | apply Kd.R_drewN | apply Kd.R_drew)); exact HO_8.out)) : p := h
theorem zk20 {p : Prop} (h : p := by (try simp only [hl8_1]); (try simp only [hl8_2]); first | exact HO_8.out | ((with_reducible repeat (first | apply Kd.R_alloc | apply Kd.R_drewN | apply Kd.R_drew)); exact HO_8.out)) : p := h
theorem zk21 {p : Prop} (h : p := by (try simp only [List.map_toArray, List.map_cons, List.map_nil]); first | done | rfl | (simp only [List.length_drop, List.length_take]; rfl)) : p := h
theorem zk22 {p : Prop} (h : p := by first | exact HO_315006.out | ((with_reducible repeat (first | apply Kd.S_alloc | apply Kd.S_drewN | apply Kd.S_drew)); exact HO_315006.out)) : p := h
theorem zk23 {p : Prop} (h : p := by (try simp only [hl8_1]); first | exact BK314.out | ((with_reducible repeat (first | refine blk_drewN ?_ _ | refine blk_drew ?_ | refine blk_alloc ?_ _)); exact BK314.out)) : p := h
theorem zk24 {p : Prop} (h : p := by (try simp only [hl8_1]); first | exact BK307.out | ((with_reducible repeat (first | refine blk_drewN ?_ _ | refine blk_drew ?_ | refine blk_alloc ?_ _)); exact BK307.out)) : p := h
theorem zk25 {p : Prop} (h : p := by (try simp only [hl8_1]); first | exact BK306.out | ((with_reducible repeat (first | refine blk_drewN ?_ _ | refine blk_drew ?_ | refine blk_alloc ?_ _)); exact BK306.out)) : p := h
theorem zk26 {p : Prop} (h : p := by (try simp only [hl8_1]); first | exact HO_315005.out | ((with_reducible repeat (first | apply Kd.R_alloc | apply Kd.R_drewN | apply Kd.R_drew)); exact HO_315005.out)) : p := h
theorem zk27 {p : Prop} (h : p := by rw [hg]; exact Nat.ne_of_lt (blk_lt (g := gb306) (o := .cells #[.int .i64 a0_0, .int .i64 a0_1, .slice A0_2 l0_2.length c0_2] 30 (0, 0)) zk2)) : p := h
theorem zk28 {p : Prop} (h : p := by rw [hg]; exact Nat.ne_of_gt (blk_lt (g := gb306) (o := .cells #[.int .i64 a0_0, .int .i64 a0_1, .slice A0_2 l0_2.length c0_2] 30 (0, 0)) zk2)) : p := h
/-! ### impl_MostPairs: function 9 -/
mutual
def impl_MostPairs.l0 : Nat → List Int → Int → Int → Int → Int → List Int → Int → Int → List Int → List (List Int) → Option (Int × Bool)
 | 0, _, _, _, _, _, _, _, _, _, _ => none
 | k + 1, x8, x29, x30, x315000, x315001, x315002, x315003, x315004, x315005, x315006 => if x30 < x29 then (if 0 ≤ x30 then (if x30 < (x8.length : Int) then (impl_MostPairs.l0 k (x8.set (x30 : Int).toNat (-1)) x29 (wrap64 (x30 + 1)) x315000 x315001 x315002 x315003 x315004 x315005 x315006) else (none)) else (none)) else ((impl_graph_sides.f k x315000 x315001 x315002 x315003 x315004 x315005 x315006).bind fun t321 => (impl_MostPairs.l1 k x8 0 t321 x315005 (x315005.length : Int) 0 x315000 x315001 x315002 x315003 x315004 x315005 x315006))
def impl_MostPairs.l1 : Nat → List Int → Int → List Int → List Int → Int → Int → Int → Int → List Int → Int → Int → List Int → List (List Int) → Option (Int × Bool)
 | 0, _, _, _, _, _, _, _, _, _, _, _, _, _ => none
 | k + 1, x8, x10, x11, x42, x43, x44, x315000, x315001, x315002, x315003, x315004, x315005, x315006 => if x44 < x43 then (if 0 ≤ x44 then (if x44 < (x42.length : Int) then (if 0 ≤ (rd x42 x44) then (if (rd x42 x44) < (x11.length : Int) then (if (rd x11 (rd x42 x44)) = 0 then (if 0 ≤ (x315006.length : Int) then (if ((x315006.length : Int) : Int).toNat ≤ 281474976710656 then ((impl_graph_matched.f k x315000 x315001 x315002 x315003 x315004 x315005 x315006 (rd x42 x44) x8 (List.replicate ((x315006.length : Int) : Int).toNat false)).bind fun bt329 => (if bt329.1 = true then (impl_MostPairs.l1 k bt329.2.1 (wrap64 (x10 + 1)) x11 x42 x43 (wrap64 (x44 + 1)) x315000 x315001 x315002 x315003 x315004 x315005 x315006) else (impl_MostPairs.l1 k bt329.2.1 x10 x11 x42 x43 (wrap64 (x44 + 1)) x315000 x315001 x315002 x315003 x315004 x315005 x315006))) else (none)) else (none)) else (impl_MostPairs.l1 k x8 x10 x11 x42 x43 (wrap64 (x44 + 1)) x315000 x315001 x315002 x315003 x315004 x315005 x315006)) else (none)) else (none)) else (none)) else (none)) else (some (x10, true))
end
def impl_MostPairs.f (k : Nat) (a0_0 : Int) (a0_1 : Int) (l0_2 : List Int) (a1_0 : Int) (a1_1 : Int) : Option (Int × Bool) := (impl_tourGraph.f k a0_0 a0_1 l0_2 a1_0 a1_1 16).bind fun bt308 => (if bt308.2.2 = true then (if 0 ≤ (bt308.2.1.length : Int) then (if ((bt308.2.1.length : Int) : Int).toNat ≤ 35184372088832 then ((some (List.replicate ((bt308.2.1.length : Int) : Int).toNat 0 : List Int)).bind fun y317 => (impl_MostPairs.l0 k y317 (y317.length : Int) 0 a0_0 a0_1 l0_2 a1_0 a1_1 bt308.1 bt308.2.1)) else (none)) else (none)) else (some (0, false)))
set_option maxHeartbeats 8000000 in
set_option maxRecDepth 100000 in
theorem impl_MostPairs.calls (k : Nat) (a0_0 : Int) (a0_1 : Int) (A0_2 : Option Addr) (c0_2 : Nat) (l0_2 : List Int) (a1_0 : Int) (a1_1 : Int) (r1 : Int) (r2 : Bool) (w : World) (hr0_2 : Kd.C (Kd.int .i64) w A0_2 l0_2.length l0_2) (hc0_2 : l0_2.length ≤ c0_2) (h : impl_MostPairs.f k a0_0 a0_1 l0_2 a1_0 a1_1 = some (r1, r2)) :
  Calls Try.prog 9 #[.agg #[.int .i64 a0_0, .int .i64 a0_1, .slice A0_2 l0_2.length c0_2], .agg #[.int .i64 a1_0, .int .i64 a1_1]] w fun e w' => e = .returned (.tuple #[.int .i64 r1, .bool r2]) ∧ Below w.heap.size w w' := by
 have hu30 := Try.underlying30
 have hu32 := Try.underlying32
 have HR0_2 := Aside0.mk hr0_2
 have HC0_2 := Aside0.mk hc0_2
 clear hr0_2 hc0_2
 have HB := Aside0.mk (Below.refl w.heap.size w)
 have H : ((impl_tourGraph.f k a0_0 a0_1 l0_2 a1_0 a1_1 16).bind fun bt308 => (if bt308.2.2 = true then (if 0 ≤ (bt308.2.1.length : Int) then (if ((bt308.2.1.length : Int) : Int).toNat ≤ 35184372088832 then ((some (List.replicate ((bt308.2.1.length : Int) : Int).toNat 0 : List Int)).bind fun y317 => (impl_MostPairs.l0 k y317 (y317.length : Int) 0 a0_0 a0_1 l0_2 a1_0 a1_1 bt308.1 bt308.2.1)) else (none)) else (none)) else (some (0, false)))) = some (r1, r2) := h
 clear h
 replace H := Option.bind_eq_some_iff.mp H
 obtain ⟨⟨t308, t311, t316⟩, A30, H⟩ := H
 replace H : (if t316 = true then (if 0 ≤ (t311.length : Int) then (if ((t311.length : Int) : Int).toNat ≤ 35184372088832 then ((some (List.replicate ((t311.length : Int) : Int).toNat 0 : List Int)).bind fun y317 => (impl_MostPairs.l0 k y317 (y317.length : Int) 0 a0_0 a0_1 l0_2 a1_0 a1_1 t308 t311)) else (none)) else (none)) else (some (0, false))) = some (r1, r2) := H
 have A3 := Aside0.mk A30
 clear A30
 by_cases c4 : t316 = true
 rotate_left
 ·replace c4 := Bool.eq_false_iff.mpr c4
  subst c4
  have H1 : (some (0, false)) = some (r1, r2) := by rw [if_neg (show ¬ (false = true) by decide)] at H; exact H
  clear H
  have H := H1
  clear H1
  simp only [Option.some.injEq, Prod.mk.injEq] at H
  obtain ⟨rfl, rfl⟩ := H
  go_enter Try.func9, Try.ntmps9
  go_wp2_with (first | ((with_reducible refine gate_dst (N := 2) rfl ?_); (try (refine gate_guard (by rfl) ?_; dsimp only)); refine box_event ?hg (N := 2) ?hd (cs := #[.int .i64 a0_0, .int .i64 a0_1, .slice A0_2 l0_2.length c0_2]) (t := 30) ?hr ?_; (case hd => rfl); (case hg => rfl); (case hr => first | (go_simp; done) | (go_simp; rfl)); intro gb306 hg w59 hbox hb; have n0_ := Aside0.mk (below_step zk8 hb); have n1_ := Aside0.mk (hbox); have n2_ := Aside0.mk ((by rw [hg]; exact (below_size zk8) : w.heap.size ≤ gb306)); have n3_ := Aside0.mk ((by rw [hg]; exact (below_size zk8) : w.heap.size ≤ gb306)); clear HB; have HB := n0_; have BK306 := n1_; have GW306 := n2_; have GE306 := n3_; clear n0_ n1_ n2_ n3_; clear hb hbox hg) | ((with_reducible refine gate_dst (N := 3) rfl ?_); (try (refine gate_guard (by rfl) ?_; dsimp only)); refine box_event ?hg (N := 3) ?hd (cs := #[.int .i64 a1_0, .int .i64 a1_1]) (t := 32) ?hr ?_; (case hd => rfl); (case hg => rfl); (case hr => first | (go_simp; done) | (go_simp; rfl)); intro gb307 hg w60 hbox hb; have n0_ := Aside0.mk (blk_below (g := gb306) (o := .cells #[.int .i64 a0_0, .int .i64 a0_1, .slice A0_2 l0_2.length c0_2] 30 (0, 0)) zk2 hb); have n1_ := Aside0.mk (below_step zk7 hb); have n2_ := Aside0.mk (hbox); have n3_ := Aside0.mk ((by rw [hg]; exact (below_size zk7) : w.heap.size ≤ gb307)); have n4_ := Aside0.mk ((by rw [hg]; exact (below_size zk7) : w.heap.size ≤ gb307)); have n5_ := Aside0.mk ((zk27 : gb306 ≠ gb307)); have n6_ := Aside0.mk ((zk28 : gb307 ≠ gb306)); clear BK306; clear HB; have BK306 := n0_; have HB := n1_; have BK307 := n2_; have GW307 := n3_; have GE307 := n4_; have NB306_307 := n5_; have NB307_306 := n6_; clear n0_ n1_ n2_ n3_ n4_ n5_ n6_; clear hb hbox hg; have hnb61 := NB306_307.out; have hnc61 := NB307_306.out; have hcz62_0 : w60.cell? ⟨gb306, 0, none⟩ = some (.int .i64 a0_0) := (blk_cell BK306.out 0).trans rfl; have hcz62_1 : w60.cell? ⟨gb306, 1, none⟩ = some (.int .i64 a0_1) := (blk_cell BK306.out 1).trans rfl; have hcz62_2 : w60.cell? ⟨gb306, 2, none⟩ = some (.slice A0_2 l0_2.length c0_2) := (blk_cell BK306.out 2).trans rfl; have hfz62_0 := blk_frozen BK306.out 0; have hfz62_1 := blk_frozen BK306.out 1; have hfz62_2 := blk_frozen BK306.out 2; have hcz63_0 : w60.cell? ⟨gb307, 0, none⟩ = some (.int .i64 a1_0) := (blk_cell BK307.out 0).trans rfl; have hcz63_1 : w60.cell? ⟨gb307, 1, none⟩ = some (.int .i64 a1_1) := (blk_cell BK307.out 1).trans rfl; have hfz63_0 := blk_frozen BK307.out 0; have hfz63_1 := blk_frozen BK307.out 1) | ((with_reducible refine gate_callee (f := 22) rfl ?_); refine goesL_ (some 17) rfl rfl Try.func22 (by kernel_rfl) rfl #[.agg #[.int .i64 a0_0, .int .i64 a0_1, .slice A0_2 l0_2.length c0_2], .agg #[.int .i64 a1_0, .int .i64 a1_1], .int .i64 16] rfl zk21 ?_; (with_reducible refine (impl_tourGraph.calls k a0_0 a0_1 _ _ l0_2 a1_0 a1_1 16 t308 t311 false _ ?side1 ?side2 A3.out).mono ?_); (case side1 => exact zk13); (case side2 => exact HC0_2.out); rintro e w64 ⟨v309, v312, pv315, rfl, hgp, ho0, ho1, hb⟩; refine ⟨_, rfl, ?_⟩; obtain rfl := hgp.2 rfl; have n0_ := Aside0.mk (Kd.R_lower ho0 (below_size zk3)); have n1_ := Aside0.mk (Kd.S_lower ho1 (below_size zk3)); have n2_ := Aside0.mk (blk_below (g := gb306) (o := .cells #[.int .i64 a0_0, .int .i64 a0_1, .slice A0_2 l0_2.length c0_2] 30 (0, 0)) zk2 hb); have n3_ := Aside0.mk (blk_below (g := gb307) (o := .cells #[.int .i64 a1_0, .int .i64 a1_1] 32 (0, 0)) zk4 hb); have n4_ := Aside0.mk (below_step zk3 hb); clear BK306; clear BK307; clear HB; have HO310 := n0_; have HO313 := n1_; have BK306 := n2_; have BK307 := n3_; have HB := n4_; clear n0_ n1_ n2_ n3_ n4_; (try clear hb); (try clear hb2); (try clear hk); (try clear hi); (try clear ho0); (try clear ho1); (try clear hgp); (try clear hbox); (try clear hge); (try clear hna_); (try clear hnb_)))
  go_ret2
  exact ⟨by first | rfl | (simp [errW_none, errW_some] <;> rfl) | (simp [*, errW_none, errW_some] <;> rfl), zk3⟩
 subst c4
 have H1 : (if 0 ≤ (t311.length : Int) then (if ((t311.length : Int) : Int).toNat ≤ 35184372088832 then ((some (List.replicate ((t311.length : Int) : Int).toNat 0 : List Int)).bind fun y317 => (impl_MostPairs.l0 k y317 (y317.length : Int) 0 a0_0 a0_1 l0_2 a1_0 a1_1 t308 t311)) else (none)) else (none)) = some (r1, r2) := by rw [if_pos rfl] at H; exact H
 clear H
 have H := H1
 clear H1
 by_cases c5 : 0 ≤ (t311.length : Int)
 rotate_left
 ·rw [if_neg c5] at H
  exact absurd H (by simp)
 rw [if_pos c5] at H
 have c5b0 := eq_true c5
 have c5b1 : decide (0 ≤ (t311.length : Int)) = true := decide_eq_true c5
 clear c5
 by_cases c6 : ((t311.length : Int) : Int).toNat ≤ 35184372088832
 rotate_left
 ·rw [if_neg c6] at H
  exact absurd H (by simp)
 rw [if_pos c6] at H
 have c6b0 := eq_true c6
 have c6b1 : decide (((t311.length : Int) : Int).toNat ≤ 35184372088832) = true := decide_eq_true c6
 clear c6
 obtain ⟨y317, hy317⟩ : ∃ y_ : List Int, y_ = (List.replicate ((t311.length : Int) : Int).toNat 0) := ⟨_, rfl⟩
 replace H : (impl_MostPairs.l0 k y317 (y317.length : Int) 0 a0_0 a0_1 l0_2 a1_0 a1_1 t308 t311) = some (r1, r2) := by first | (rw [hy317]; with_reducible exact H) | (have H2_ := (Option.bind_some _ _).symm.trans H; rw [hy317]; with_reducible exact H2_) | (have H2_ := (Option.bind_some _ _).symm.trans H; with_reducible exact H2_) | with_reducible exact H | (rw [hy317]; exact H) | exact H
 have Ny317 := Aside0.mk hy317
 clear hy317
 have H' := Aside0.mk H
 clear H
 go_enter Try.func9, Try.ntmps9
 go_wp2_with (first | ((with_reducible refine gate_dst (N := 2) rfl ?_); (try (refine gate_guard (by rfl) ?_; dsimp only)); refine box_event ?hg (N := 2) ?hd (cs := #[.int .i64 a0_0, .int .i64 a0_1, .slice A0_2 l0_2.length c0_2]) (t := 30) ?hr ?_; (case hd => rfl); (case hg => rfl); (case hr => first | (go_simp; done) | (go_simp; rfl)); intro gb306 hg w7 hbox hb; have n0_ := Aside0.mk (below_step zk8 hb); have n1_ := Aside0.mk (hbox); have n2_ := Aside0.mk ((by rw [hg]; exact (below_size zk8) : w.heap.size ≤ gb306)); have n3_ := Aside0.mk ((by rw [hg]; exact (below_size zk8) : w.heap.size ≤ gb306)); clear HB; have HB := n0_; have BK306 := n1_; have GW306 := n2_; have GE306 := n3_; clear n0_ n1_ n2_ n3_; clear hb hbox hg) | ((with_reducible refine gate_dst (N := 3) rfl ?_); (try (refine gate_guard (by rfl) ?_; dsimp only)); refine box_event ?hg (N := 3) ?hd (cs := #[.int .i64 a1_0, .int .i64 a1_1]) (t := 32) ?hr ?_; (case hd => rfl); (case hg => rfl); (case hr => first | (go_simp; done) | (go_simp; rfl)); intro gb307 hg w8 hbox hb; have n0_ := Aside0.mk (blk_below (g := gb306) (o := .cells #[.int .i64 a0_0, .int .i64 a0_1, .slice A0_2 l0_2.length c0_2] 30 (0, 0)) zk2 hb); have n1_ := Aside0.mk (below_step zk7 hb); have n2_ := Aside0.mk (hbox); have n3_ := Aside0.mk ((by rw [hg]; exact (below_size zk7) : w.heap.size ≤ gb307)); have n4_ := Aside0.mk ((by rw [hg]; exact (below_size zk7) : w.heap.size ≤ gb307)); have n5_ := Aside0.mk ((zk27 : gb306 ≠ gb307)); have n6_ := Aside0.mk ((zk28 : gb307 ≠ gb306)); clear BK306; clear HB; have BK306 := n0_; have HB := n1_; have BK307 := n2_; have GW307 := n3_; have GE307 := n4_; have NB306_307 := n5_; have NB307_306 := n6_; clear n0_ n1_ n2_ n3_ n4_ n5_ n6_; clear hb hbox hg; have hnb9 := NB306_307.out; have hnc9 := NB307_306.out; have hcz10_0 : w8.cell? ⟨gb306, 0, none⟩ = some (.int .i64 a0_0) := (blk_cell BK306.out 0).trans rfl; have hcz10_1 : w8.cell? ⟨gb306, 1, none⟩ = some (.int .i64 a0_1) := (blk_cell BK306.out 1).trans rfl; have hcz10_2 : w8.cell? ⟨gb306, 2, none⟩ = some (.slice A0_2 l0_2.length c0_2) := (blk_cell BK306.out 2).trans rfl; have hfz10_0 := blk_frozen BK306.out 0; have hfz10_1 := blk_frozen BK306.out 1; have hfz10_2 := blk_frozen BK306.out 2; have hcz11_0 : w8.cell? ⟨gb307, 0, none⟩ = some (.int .i64 a1_0) := (blk_cell BK307.out 0).trans rfl; have hcz11_1 : w8.cell? ⟨gb307, 1, none⟩ = some (.int .i64 a1_1) := (blk_cell BK307.out 1).trans rfl; have hfz11_0 := blk_frozen BK307.out 0; have hfz11_1 := blk_frozen BK307.out 1) | ((with_reducible refine gate_callee (f := 22) rfl ?_); refine goesL_ (some 17) rfl rfl Try.func22 (by kernel_rfl) rfl #[.agg #[.int .i64 a0_0, .int .i64 a0_1, .slice A0_2 l0_2.length c0_2], .agg #[.int .i64 a1_0, .int .i64 a1_1], .int .i64 16] rfl zk21 ?_; (with_reducible refine (impl_tourGraph.calls k a0_0 a0_1 _ _ l0_2 a1_0 a1_1 16 t308 t311 true _ ?side1 ?side2 A3.out).mono ?_); (case side1 => exact zk13); (case side2 => exact HC0_2.out); rintro e w12 ⟨v309, v312, pv315, rfl, hgp, ho0, ho1, hb⟩; refine ⟨_, rfl, ?_⟩; obtain ⟨gb314, rfl, hbox, hge⟩ := hgp.1 rfl; have n0_ := Aside0.mk (Kd.R_lower ho0 (below_size zk3)); have n1_ := Aside0.mk (Kd.S_lower ho1 (below_size zk3)); have n2_ := Aside0.mk (blk_below (g := gb306) (o := .cells #[.int .i64 a0_0, .int .i64 a0_1, .slice A0_2 l0_2.length c0_2] 30 (0, 0)) zk2 hb); have n3_ := Aside0.mk (blk_below (g := gb307) (o := .cells #[.int .i64 a1_0, .int .i64 a1_1] 32 (0, 0)) zk4 hb); have n4_ := Aside0.mk (hbox); have n5_ := Aside0.mk ((Nat.le_trans (by exact (below_size zk3)) hge : w.heap.size ≤ gb314)); have n6_ := Aside0.mk ((Nat.le_trans (by exact (below_size zk3)) hge : w.heap.size ≤ gb314)); have n7_ := Aside0.mk ((Nat.ne_of_lt (Nat.lt_of_lt_of_le (blk_lt (g := gb306) (o := .cells #[.int .i64 a0_0, .int .i64 a0_1, .slice A0_2 l0_2.length c0_2] 30 (0, 0)) zk2) hge) : gb306 ≠ gb314)); have n8_ := Aside0.mk ((Nat.ne_of_gt (Nat.lt_of_lt_of_le (blk_lt (g := gb306) (o := .cells #[.int .i64 a0_0, .int .i64 a0_1, .slice A0_2 l0_2.length c0_2] 30 (0, 0)) zk2) hge) : gb314 ≠ gb306)); have n9_ := Aside0.mk ((Nat.ne_of_lt (Nat.lt_of_lt_of_le (blk_lt (g := gb307) (o := .cells #[.int .i64 a1_0, .int .i64 a1_1] 32 (0, 0)) zk4) hge) : gb307 ≠ gb314)); have n10_ := Aside0.mk ((Nat.ne_of_gt (Nat.lt_of_lt_of_le (blk_lt (g := gb307) (o := .cells #[.int .i64 a1_0, .int .i64 a1_1] 32 (0, 0)) zk4) hge) : gb314 ≠ gb307)); have n11_ := Aside0.mk (below_step zk3 hb); clear BK306; clear BK307; clear HB; have HO310 := n0_; have HO313 := n1_; have BK306 := n2_; have BK307 := n3_; have BK314 := n4_; have GW314 := n5_; have GE314 := n6_; have NB306_314 := n7_; have NB314_306 := n8_; have NB307_314 := n9_; have NB314_307 := n10_; have HB := n11_; clear n0_ n1_ n2_ n3_ n4_ n5_ n6_ n7_ n8_ n9_ n10_ n11_; (try clear hb); (try clear hb2); (try clear hk); (try clear hi); (try clear ho0); (try clear ho1); (try clear hgp); (try clear hbox); (try clear hge); (try clear hna_); (try clear hnb_); have hnb13 := NB314_306.out; have hnc13 := NB306_314.out; have hnb14 := NB314_307.out; have hnc14 := NB307_314.out; have hcz15_0 : w12.cell? ⟨gb314, 0, none⟩ = some (.int .i64 a0_0) := (blk_cell BK314.out 0).trans rfl; have hcz15_1 : w12.cell? ⟨gb314, 1, none⟩ = some (.int .i64 a0_1) := (blk_cell BK314.out 1).trans rfl; have hcz15_2 : w12.cell? ⟨gb314, 2, none⟩ = some (.slice A0_2 l0_2.length c0_2) := (blk_cell BK314.out 2).trans rfl; have hcz15_3 : w12.cell? ⟨gb314, 3, none⟩ = some (.int .i64 a1_0) := (blk_cell BK314.out 3).trans rfl; have hcz15_4 : w12.cell? ⟨gb314, 4, none⟩ = some (.int .i64 a1_1) := (blk_cell BK314.out 4).trans rfl; have hcz15_5 : w12.cell? ⟨gb314, 5, none⟩ = some (v309) := (blk_cell BK314.out 5).trans rfl; have hcz15_6 : w12.cell? ⟨gb314, 6, none⟩ = some (v312) := (blk_cell BK314.out 6).trans rfl; have hfz15_0 := blk_frozen BK314.out 0; have hfz15_1 := blk_frozen BK314.out 1; have hfz15_2 := blk_frozen BK314.out 2; have hfz15_3 := blk_frozen BK314.out 3; have hfz15_4 := blk_frozen BK314.out 4; have hfz15_5 := blk_frozen BK314.out 5; have hfz15_6 := blk_frozen BK314.out 6; obtain ⟨Ao16, co16, eo16⟩ := Kd.S_slice HO313.out; subst eo16) | ((with_reducible refine gate_dst (N := 27) rfl ?_); (try (refine gate_guard (by rfl) ?_; dsimp only)); refine Kd.R_make (Kd.int .i64) _ 3 rfl (N := 27) rfl 22 _ _ rfl (t311.length : Int) rfl rfl Try.underlying22 (.int .i64 0) 8 info3 rfl (by decide) (by omega) 0 (ok := fun _ => True) (okp := fun _ => True) rfl (fun _ hk => hk) trivial (of_decide_eq_true zk6) (Nat.le_trans (Nat.mul_le_mul_right _ (of_decide_eq_true zk6 : (t311.length : Int).toNat ≤ 35184372088832)) (by omega)) (Below.refl _ _) (Nat.le_refl _) ?_; intro v318 w17 ho18 hb hg_ hnew_; clear hg_ hnew_; (first | rw [← Ny317.out] at ho18 | (simp only [Int.reduceToNat] at ho18; rw [← Ny317.out] at ho18)); have n0_ := Aside0.mk (Kd.R_elder' (by first | exact HO310.out | ((with_reducible repeat (first | apply Kd.R_alloc | apply Kd.R_drewN | apply Kd.R_drew)); exact HO310.out)) (Kd.R_base ho18) hb); have n1_ := Aside0.mk (Kd.S_elder' (by first | exact HO313.out | ((with_reducible repeat (first | apply Kd.S_alloc | apply Kd.S_drewN | apply Kd.S_drew)); exact HO313.out)) (Kd.R_base ho18) hb); have n2_ := Aside0.mk (Kd.R_lower (Kd.R_new' ho18 (Kd.R_lt (by first | exact HO310.out | ((with_reducible repeat (first | apply Kd.R_alloc | apply Kd.R_drewN | apply Kd.R_drew)); exact HO310.out)))) (below_size zk1)); have n3_ := Aside0.mk (blk_below (g := gb306) (o := .cells #[.int .i64 a0_0, .int .i64 a0_1, .slice A0_2 l0_2.length c0_2] 30 (0, 0)) zk2 hb); have n4_ := Aside0.mk (blk_below (g := gb307) (o := .cells #[.int .i64 a1_0, .int .i64 a1_1] 32 (0, 0)) zk4 hb); have n5_ := Aside0.mk (blk_below (g := gb314) (o := .cells #[.int .i64 a0_0, .int .i64 a0_1, .slice A0_2 l0_2.length c0_2, .int .i64 a1_0, .int .i64 a1_1, v309, .slice Ao16 t311.length co16] 53 (0, 0)) zk5 hb); have n6_ := Aside0.mk (below_step zk1 hb); clear HO310; clear HO313; clear BK306; clear BK307; clear BK314; clear HB; have HO310 := n0_; have HO313 := n1_; have HO319 := n2_; have BK306 := n3_; have BK307 := n4_; have BK314 := n5_; have HB := n6_; clear n0_ n1_ n2_ n3_ n4_ n5_ n6_; clear hb ho18; obtain ⟨Ao19, co19, eo19⟩ := Kd.R_slice HO319.out; subst eo19))
 go_loopg [30] k (fun kq v30 w' => ∃ (x8_1 : List Int) (x30_1 : Int), v30 = .int .i64 x30_1 ∧ Aside0 (impl_MostPairs.l0 kq x8_1 (y317.length : Int) x30_1 a0_0 a0_1 l0_2 a1_0 a1_1 t308 t311 = some (r1, r2)) ∧ Aside0 (kq ≤ k) ∧ Aside0 (Kd.R (Kd.int .i64) 3 w' w.heap.size (fun k_ => some k_ ≠ (v309 : Value).ownBlock) (.slice Ao19 y317.length co19) x8_1) ∧ Aside0 (Kd.R (Kd.int .i64) 3 w' w.heap.size (fun k_ => some k_ ≠ ((.slice Ao19 y317.length co19) : Value).ownBlock) v309 t308) ∧ Aside0 (Kd.S (Kd.slice 3 (Kd.int .i64)) 22 w' w.heap.size (fun k_ => some k_ ≠ ((.slice Ao19 y317.length co19) : Value).ownBlock ∧ some k_ ≠ (v309 : Value).ownBlock) (.slice Ao16 t311.length co16) t311) ∧ Aside0 (w'.heap[gb306]? = some (.cells #[.int .i64 a0_0, .int .i64 a0_1, (.slice A0_2 l0_2.length c0_2)] 30 (0, 0))) ∧ Aside0 (w'.heap[gb307]? = some (.cells #[.int .i64 a1_0, .int .i64 a1_1] 32 (0, 0))) ∧ Aside0 (w'.heap[gb314]? = some (.cells #[.int .i64 a0_0, .int .i64 a0_1, (.slice A0_2 l0_2.length c0_2), .int .i64 a1_0, .int .i64 a1_1, v309, (.slice Ao16 t311.length co16)] 53 (0, 0))) ∧ Aside0 (Below w.heap.size w w'))
 case atStart => exact ⟨(y317), (0), zk9, H', ⟨Nat.le_refl _⟩, ⟨by (with_reducible repeat (first | apply Kd.R_alloc | apply Kd.R_drewN | apply Kd.R_drew)); exact Kd.R_mono HO319.out (fun _ hk => hk.2)⟩, ⟨by (with_reducible repeat (first | apply Kd.R_alloc | apply Kd.R_drewN | apply Kd.R_drew)); exact Kd.R_mono HO310.out (fun _ hk => hk.2)⟩, ⟨by (with_reducible repeat (first | apply Kd.S_alloc | apply Kd.S_drewN | apply Kd.S_drew)); exact Kd.S_mono HO313.out (fun _ hk => ⟨hk.2, hk.1⟩)⟩, ⟨zk2⟩, ⟨zk4⟩, ⟨zk5⟩, ⟨zk1⟩⟩
 case round =>
  clear H'
  try clear c1; try clear c2; try clear p2; try clear c4; try clear c5; try clear c5b0; try clear c5b1; try clear c6; try clear c6b0; try clear c6b1; try clear c9; try clear c13; try clear c14; try clear hcz10_0; try clear hcz10_1; try clear hcz10_2; try clear hcz11_0; try clear hcz11_1; try clear hcz15_0; try clear hcz15_1; try clear hcz15_2; try clear hcz15_3; try clear hcz15_4; try clear hcz15_5; try clear hcz15_6; try clear hfz10_0; try clear hfz10_1; try clear hfz10_2; try clear hfz11_0; try clear hfz11_1; try clear hfz15_0; try clear hfz15_1; try clear hfz15_2; try clear hfz15_3; try clear hfz15_4
  try clear hfz15_5; try clear hfz15_6
  obtain ⟨x8_1, x30_1, rfl, HA, HK1, HO_8, HO_315005, HO_315006, BK306, BK307, BK314, HB⟩ := hrel
  have hl8_1 := (Kd.R_reads' HO_8.out).1
  rw [hl8_1] at HO_8
  (try simp only [hl8_1])
  (try simp only [hl8_1] at BK306)
  (try simp only [hl8_1] at BK307)
  (try simp only [hl8_1] at BK314)
  (try simp only [hl8_1] at HO_315005)
  (try simp only [hl8_1] at HO_315006)
  cases gk with
  | zero => exact absurd HA.out (by simp [impl_MostPairs.l0])
  | succ k1 =>
   have H := HA.out
   clear HA
   simp only [impl_MostPairs.l0] at H
   by_cases c20 : x30_1 < (y317.length : Int)
   ·rw [if_pos c20] at H
    have c20b0 : decide (x30_1 < (y317.length : Int)) = true := decide_eq_true c20
    have c20b8 := c20b0
    (try simp only [hl8_1] at c20b8)
    clear c20
    by_cases c21 : 0 ≤ x30_1
    rotate_left
    ·rw [if_neg c21] at H
     exact absurd H (by simp)
    rw [if_pos c21] at H
    have c21b0 : decide (0 ≤ x30_1) = true := decide_eq_true c21
    clear c21
    by_cases c22 : x30_1 < (x8_1.length : Int)
    rotate_left
    ·rw [if_neg c22] at H
     exact absurd H (by simp)
    rw [if_pos c22] at H
    have c22b0 : decide (x30_1 < (x8_1.length : Int)) = true := decide_eq_true c22
    have c22b8 := c22b0
    (try simp only [hl8_1] at c22b8)
    clear c22
    obtain ⟨y320, hy320⟩ : ∃ y_ : List Int, y_ = (x8_1.set (x30_1 : Int).toNat (-1)) := ⟨_, rfl⟩
    replace H : (impl_MostPairs.l0 k1 y320 (y317.length : Int) (wrap64 (x30_1 + 1)) a0_0 a0_1 l0_2 a1_0 a1_1 t308 t311) = some (r1, r2) := by first | (rw [hy320]; with_reducible exact H) | (have H2_ := (Option.bind_some _ _).symm.trans H; rw [hy320]; with_reducible exact H2_) | (have H2_ := (Option.bind_some _ _).symm.trans H; with_reducible exact H2_) | with_reducible exact H | (rw [hy320]; exact H) | exact H
    have Ny320 := Aside0.mk hy320
    clear hy320
    have H' := Aside0.mk H
    clear H
    have p23 : 0 ≤ (x30_1 : Int) := of_decide_eq_true zk6
    have q23 : (x30_1 : Int) < ((x8_1.length : Int) : Int) := of_decide_eq_true zk6
    obtain ⟨go23, co23, eo23, gb23, gl23, cl23, HG23⟩ := Kd.R_form HO_8.out (by omega)
    (first | cases eo23 | (injection eo23 with ea_ en_ ec_; (first | subst ea_ | (injection ea_ with ea_; subst ea_)); subst ec_; clear en_))
    have GB23 := Aside0.mk gb23
    have GG23 := Aside0.mk HG23
    clear gb23 gl23 HG23
    obtain ⟨hx23_0, hf23_0⟩ := Kd.R_celln 0 HO_8.out (x30_1 : Int) p23 q23
    replace p23 := eq_true p23
    replace q23 := eq_true q23
    have HP24 := Kd.R_putg HO_8.out (x30_1 : Int) (-1)
    go_wp2_with (first | ((with_reducible refine gate_store (t := 3) (p := 35) rfl ?_); refine store_event (t := 3) (p := 35) (v := ?vo_w25) (w1 := (wr.setCell ⟨go23, (x30_1 : Int).toNat, none⟩ (.int .i64 (-1)))) ?hg ?ho ?hn ?hr ?_; (case ho => rfl); (case hg => rfl); (case hn => rfl); (case hr => first | (go_simp; done) | (go_simp; rfl)); intro w25 hw; have hg : wr.grownBy w25 (some go23) := (by rw [hw]; exact HP24.2); have hp_ : Kd.R (Kd.int .i64) 3 w25 w.heap.size (fun k_ => some k_ ≠ (v309 : Value).ownBlock) (.slice (some ⟨go23, 0, none⟩) x8_1.length co19) y320 := (by rw [hw, Ny320.out]; exact HP24.1); clear HP24; have n0_ := Aside0.mk (hp_); have n1_ := Aside0.mk (Kd.R_after (v := (.slice (some ⟨go23, 0, none⟩) x8_1.length co19)) (v1 := (.slice (some ⟨go23, 0, none⟩) x8_1.length co19)) (ok := (fun _ => True)) (by (with_reducible repeat (first | apply Kd.R_alloc | apply Kd.R_drewN | apply Kd.R_drew)); exact Kd.R_mono HO_315005.out (fun _ hk => ⟨trivial, hk⟩)) hg (.inl rfl)); have n2_ := Aside0.mk (Kd.S_after (v := (.slice (some ⟨go23, 0, none⟩) x8_1.length co19)) (v1 := (.slice (some ⟨go23, 0, none⟩) x8_1.length co19)) (ok := (fun k_ => some k_ ≠ (v309 : Value).ownBlock)) (by (with_reducible repeat (first | apply Kd.S_alloc | apply Kd.S_drewN | apply Kd.S_drew)); exact Kd.S_mono HO_315006.out (fun _ hk => ⟨hk.2, hk.1⟩)) hg (.inl rfl)); have n3_ := Aside0.mk (blk_grown (g := gb306) (o := .cells #[.int .i64 a0_0, .int .i64 a0_1, .slice A0_2 l0_2.length c0_2] 30 (0, 0)) zk2 hg (Kd.R_ne HO_8.out BK306.out (by decide))); have n4_ := Aside0.mk (blk_grown (g := gb307) (o := .cells #[.int .i64 a1_0, .int .i64 a1_1] 32 (0, 0)) zk4 hg (Kd.R_ne HO_8.out BK307.out (by decide))); have n5_ := Aside0.mk (blk_grown (g := gb314) (o := .cells #[.int .i64 a0_0, .int .i64 a0_1, .slice A0_2 l0_2.length c0_2, .int .i64 a1_0, .int .i64 a1_1, v309, .slice Ao16 t311.length co16] 53 (0, 0)) zk5 hg (Kd.R_ne HO_8.out BK314.out (by decide))); have n6_ := Aside0.mk ((by rw [hw]; exact below_set (HB.out) GB23.out : Below w.heap.size w w25)); clear HO_8; clear HO_315005; clear HO_315006; clear BK306; clear BK307; clear BK314; clear HB; have HO_8 := n0_; have HO_315005 := n1_; have HO_315006 := n2_; have BK306 := n3_; have BK307 := n4_; have BK314 := n5_; have HB := n6_; clear n0_ n1_ n2_ n3_ n4_ n5_ n6_; clear hg hw hp_))
    (try simp only [← hl8_1])
    go_roundg k1
    case measure => have := HK1.out; omega
    case rel => exact ⟨(y320), (wrap64 (x30_1 + 1)), zk9, H', ⟨by have := HK1.out; omega⟩, ⟨by (try simp only [hl8_1]); first | exact HO_8.out | ((with_reducible repeat (first | apply Kd.R_alloc | apply Kd.R_drewN | apply Kd.R_drew)); exact HO_8.out)⟩, ⟨by (try simp only [hl8_1]); (with_reducible repeat (first | apply Kd.R_alloc | apply Kd.R_drewN | apply Kd.R_drew)); exact Kd.R_mono HO_315005.out (fun _ hk => hk.2)⟩, ⟨by (try simp only [hl8_1]); (with_reducible repeat (first | apply Kd.S_alloc | apply Kd.S_drewN | apply Kd.S_drew)); exact Kd.S_mono HO_315006.out (fun _ hk => ⟨hk.2, hk.1⟩)⟩, ⟨zk25⟩, ⟨zk24⟩, ⟨zk23⟩, ⟨zk1⟩⟩
   rw [if_neg c20] at H
   have c20b0 : decide (x30_1 < (y317.length : Int)) = false := decide_eq_false c20
   have c20b8 := c20b0
   (try simp only [hl8_1] at c20b8)
   clear c20
   replace H := Option.bind_eq_some_iff.mp H
   obtain ⟨t321, A260, H⟩ := H
   replace H : (impl_MostPairs.l1 k1 x8_1 0 t321 t308 (t308.length : Int) 0 a0_0 a0_1 l0_2 a1_0 a1_1 t308 t311) = some (r1, r2) := H
   have A26 := Aside0.mk A260
   clear A260
   have H' := Aside0.mk H
   clear H
   obtain ⟨Ao27, co27, eo27⟩ := Kd.R_slice HO_315005.out
   subst eo27
   go_wp2_with (first | ((with_reducible refine gate_callee (f := 23) rfl ?_); refine goesL_ (some 38) rfl rfl Try.func23 (by kernel_rfl) rfl #[.pointer (some ⟨gb314, 0, none⟩)] rfl zk21 ?_; (with_reducible refine (impl_graph_sides.calls k1 gb314 a0_0 a0_1 A0_2 c0_2 l0_2 a1_0 a1_1 Ao27 co27 t308 Ao16 co16 t311 t321 _ ?side1 ?side2 ?side3 ?side4 ?side5 ?side6 ?side7 A26.out).mono ?_); (case side1 => exact zk5); (case side2 => exact zk13); (case side3 => exact HC0_2.out); (case side4 => repeat (first | exact (Kd.R_reads' HO_315005.out).2.2 | (with_reducible refine Kd.C_alloc ?_ _) | (with_reducible refine Kd.C_drewN ?_ _) | (with_reducible refine Kd.C_drew ?_))); (case side5 => exact (Kd.R_reads' HO_315005.out).2.1); (case side6 => repeat (first | exact (Kd.S_reads' HO_315006.out).2.2 | (with_reducible refine Kd.C_alloc ?_ _) | (with_reducible refine Kd.C_drewN ?_ _) | (with_reducible refine Kd.C_drew ?_))); (case side7 => exact (Kd.S_reads' HO_315006.out).2.1); rintro e w28 ⟨v322, rfl, ho0, hb⟩; refine ⟨_, rfl, ?_⟩; have n0_ := Aside0.mk (Kd.R_elder' zk19 (Kd.R_base ho0) hb); have n1_ := Aside0.mk (Kd.R_elder' zk14 (Kd.R_base ho0) hb); have n2_ := Aside0.mk (Kd.S_elder' zk22 (Kd.R_base ho0) hb); have n3_ := Aside0.mk (Kd.R_lower (Kd.R_new' (Kd.R_new' ho0 (Kd.R_lt zk19)) (Kd.R_lt zk14)) (below_size zk1)); have n4_ := Aside0.mk (blk_below (g := gb306) (o := .cells #[.int .i64 a0_0, .int .i64 a0_1, .slice A0_2 l0_2.length c0_2] 30 (0, 0)) zk2 hb); have n5_ := Aside0.mk (blk_below (g := gb307) (o := .cells #[.int .i64 a1_0, .int .i64 a1_1] 32 (0, 0)) zk4 hb); have n6_ := Aside0.mk (blk_below (g := gb314) (o := .cells #[.int .i64 a0_0, .int .i64 a0_1, .slice A0_2 l0_2.length c0_2, .int .i64 a1_0, .int .i64 a1_1, .slice Ao27 t308.length co27, .slice Ao16 t311.length co16] 53 (0, 0)) zk5 hb); have n7_ := Aside0.mk (below_step zk1 hb); clear HO_8; clear HO_315005; clear HO_315006; clear BK306; clear BK307; clear BK314; clear HB; have HO_8 := n0_; have HO_315005 := n1_; have HO_315006 := n2_; have HO323 := n3_; have BK306 := n4_; have BK307 := n5_; have BK314 := n6_; have HB := n7_; clear n0_ n1_ n2_ n3_ n4_ n5_ n6_ n7_; (try clear hb); (try clear hb2); (try clear hk); (try clear hi); (try clear ho0); (try clear hna_); (try clear hnb_); have hnb29 := NB314_306.out; have hnc29 := NB306_314.out; have hnb30 := NB314_307.out; have hnc30 := NB307_314.out; have hcz31_0 : w28.cell? ⟨gb314, 0, none⟩ = some (.int .i64 a0_0) := (blk_cell BK314.out 0).trans rfl; have hcz31_1 : w28.cell? ⟨gb314, 1, none⟩ = some (.int .i64 a0_1) := (blk_cell BK314.out 1).trans rfl; have hcz31_2 : w28.cell? ⟨gb314, 2, none⟩ = some (.slice A0_2 l0_2.length c0_2) := (blk_cell BK314.out 2).trans rfl; have hcz31_3 : w28.cell? ⟨gb314, 3, none⟩ = some (.int .i64 a1_0) := (blk_cell BK314.out 3).trans rfl; have hcz31_4 : w28.cell? ⟨gb314, 4, none⟩ = some (.int .i64 a1_1) := (blk_cell BK314.out 4).trans rfl; have hcz31_5 : w28.cell? ⟨gb314, 5, none⟩ = some (.slice Ao27 t308.length co27) := (blk_cell BK314.out 5).trans rfl; have hcz31_6 : w28.cell? ⟨gb314, 6, none⟩ = some (.slice Ao16 t311.length co16) := (blk_cell BK314.out 6).trans rfl; have hfz31_0 := blk_frozen BK314.out 0; have hfz31_1 := blk_frozen BK314.out 1; have hfz31_2 := blk_frozen BK314.out 2; have hfz31_3 := blk_frozen BK314.out 3; have hfz31_4 := blk_frozen BK314.out 4; have hfz31_5 := blk_frozen BK314.out 5; have hfz31_6 := blk_frozen BK314.out 6))
   go_loopg [10, 44] k1 (fun kq v10 v44 w' => ∃ (x8_2 : List Int) (x10_2 : Int) (x44_2 : Int), v10 = .int .i64 x10_2 ∧ v44 = .int .i64 x44_2 ∧ Aside0 (impl_MostPairs.l1 kq x8_2 x10_2 t321 t308 (t308.length : Int) x44_2 a0_0 a0_1 l0_2 a1_0 a1_1 t308 t311 = some (r1, r2)) ∧ Aside0 (kq ≤ k1) ∧ Aside0 (Kd.R (Kd.int .i64) 3 w' w.heap.size (fun k_ => some k_ ≠ (v322 : Value).ownBlock ∧ some k_ ≠ ((.slice Ao27 t308.length co27) : Value).ownBlock ∧ some k_ ≠ ((.slice Ao27 t308.length co27) : Value).ownBlock) (.slice Ao19 x8_1.length co19) x8_2) ∧ Aside0 (Kd.R (Kd.int .i64) 3 w' w.heap.size (fun k_ => some k_ ≠ ((.slice Ao19 x8_1.length co19) : Value).ownBlock ∧ some k_ ≠ ((.slice Ao27 t308.length co27) : Value).ownBlock ∧ some k_ ≠ ((.slice Ao27 t308.length co27) : Value).ownBlock) v322 t321) ∧ Aside0 (Kd.R (Kd.int .i64) 3 w' w.heap.size (fun k_ => some k_ ≠ ((.slice Ao19 x8_1.length co19) : Value).ownBlock ∧ some k_ ≠ (v322 : Value).ownBlock) (.slice Ao27 t308.length co27) t308) ∧ Aside0 (Kd.R (Kd.int .i64) 3 w' w.heap.size (fun k_ => some k_ ≠ ((.slice Ao19 x8_1.length co19) : Value).ownBlock ∧ some k_ ≠ (v322 : Value).ownBlock) (.slice Ao27 t308.length co27) t308) ∧ Aside0 (Kd.S (Kd.slice 3 (Kd.int .i64)) 22 w' w.heap.size (fun k_ => some k_ ≠ ((.slice Ao19 x8_1.length co19) : Value).ownBlock ∧ some k_ ≠ (v322 : Value).ownBlock ∧ some k_ ≠ ((.slice Ao27 t308.length co27) : Value).ownBlock ∧ some k_ ≠ ((.slice Ao27 t308.length co27) : Value).ownBlock) (.slice Ao16 t311.length co16) t311) ∧ Aside0 (w'.heap[gb306]? = some (.cells #[.int .i64 a0_0, .int .i64 a0_1, (.slice A0_2 l0_2.length c0_2)] 30 (0, 0))) ∧ Aside0 (w'.heap[gb307]? = some (.cells #[.int .i64 a1_0, .int .i64 a1_1] 32 (0, 0))) ∧ Aside0 (w'.heap[gb314]? = some (.cells #[.int .i64 a0_0, .int .i64 a0_1, (.slice A0_2 l0_2.length c0_2), .int .i64 a1_0, .int .i64 a1_1, (.slice Ao27 t308.length co27), (.slice Ao16 t311.length co16)] 53 (0, 0))) ∧ Aside0 (Below w.heap.size w w'))
   case atStart => exact ⟨(x8_1), (0), (0), zk9, zk9, H', ⟨Nat.le_refl _⟩, ⟨by (try simp only [hl8_1]); (with_reducible repeat (first | apply Kd.R_alloc | apply Kd.R_drewN | apply Kd.R_drew)); exact Kd.R_mono HO_8.out (fun _ hk => ⟨hk.2, ⟨hk.1, hk.1⟩⟩)⟩, ⟨by (try simp only [hl8_1]); (with_reducible repeat (first | apply Kd.R_alloc | apply Kd.R_drewN | apply Kd.R_drew)); exact Kd.R_mono HO323.out (fun _ hk => ⟨hk.1.2, ⟨hk.2, hk.2⟩⟩)⟩, ⟨zk26⟩, ⟨zk26⟩, ⟨by (try simp only [hl8_1]); (with_reducible repeat (first | apply Kd.S_alloc | apply Kd.S_drewN | apply Kd.S_drew)); exact Kd.S_mono HO_315006.out (fun _ hk => ⟨hk.1.1, ⟨hk.2, ⟨hk.1.2, hk.1.2⟩⟩⟩)⟩, ⟨zk25⟩, ⟨zk24⟩, ⟨zk23⟩, ⟨zk1⟩⟩
   case round =>
    clear H'
    try clear c1; try clear c2; try clear p2; try clear q2; try clear hx2; try clear hf2; try clear c3; try clear c4; try clear c5; try clear c5b0; try clear c5b1; try clear c6; try clear c6b0; try clear c6b1; try clear p6; try clear c9; try clear c13; try clear c14; try clear c20; try clear c20b0; try clear c20b8; try clear c21; try clear c21b0; try clear c22; try clear c22b0; try clear c22b8; try clear c23; try clear p23; try clear q23; try clear hx23; try clear hf23; try clear c29; try clear c30; try clear hcz10_0; try clear hcz10_1; try clear hcz10_2; try clear hcz11_0; try clear hcz11_1; try clear hcz15_0
    try clear hcz15_1; try clear hcz15_2; try clear hcz15_3; try clear hcz15_4; try clear hcz15_5; try clear hcz15_6; try clear hcz31_0; try clear hcz31_1; try clear hcz31_2; try clear hcz31_3; try clear hcz31_4; try clear hcz31_5; try clear hcz31_6; try clear hfz10_0; try clear hfz10_1; try clear hfz10_2; try clear hfz11_0; try clear hfz11_1; try clear hfz15_0; try clear hfz15_1; try clear hfz15_2; try clear hfz15_3; try clear hfz15_4; try clear hfz15_5; try clear hfz15_6; try clear hfz31_0; try clear hfz31_1; try clear hfz31_2; try clear hfz31_3; try clear hfz31_4; try clear hfz31_5; try clear hfz31_6
    try clear hx23_0; try clear p2; try clear p23; try clear q23
    obtain ⟨x8_2, x10_2, x44_2, rfl, rfl, HA, HK2, HO_8, HO_11, HO_42, HO_315005, HO_315006, BK306, BK307, BK314, HB⟩ := hrel
    have hl8_2 := (Kd.R_reads' HO_8.out).1
    rw [hl8_2] at HO_8
    (try simp only [hl8_2])
    (try simp only [hl8_2] at BK306)
    (try simp only [hl8_2] at BK307)
    (try simp only [hl8_2] at BK314)
    (try simp only [hl8_2] at HO_11)
    (try simp only [hl8_2] at HO_42)
    (try simp only [hl8_2] at HO_315005)
    (try simp only [hl8_2] at HO_315006)
    cases gk with
    | zero => exact absurd HA.out (by simp [impl_MostPairs.l1])
    | succ k2 =>
     have H := HA.out
     clear HA
     simp only [impl_MostPairs.l1] at H
     by_cases c32 : x44_2 < (t308.length : Int)
     rotate_left
     ·rw [if_neg c32] at H
      have c32b0 : decide (x44_2 < (t308.length : Int)) = false := decide_eq_false c32
      have c32b8 := c32b0
      (try simp only [hl8_1, hl8_2] at c32b8)
      clear c32
      simp only [Option.some.injEq, Prod.mk.injEq] at H
      obtain ⟨rfl, rfl⟩ := H
      go_wp2
      go_ret2
      exact ⟨by first | rfl | (simp [errW_none, errW_some] <;> rfl) | (simp [*, errW_none, errW_some] <;> rfl), zk1⟩
     rw [if_pos c32] at H
     have c32b0 : decide (x44_2 < (t308.length : Int)) = true := decide_eq_true c32
     have c32b8 := c32b0
     (try simp only [hl8_1, hl8_2] at c32b8)
     clear c32
     by_cases c33 : 0 ≤ x44_2
     rotate_left
     ·rw [if_neg c33] at H
      exact absurd H (by simp)
     rw [if_pos c33] at H
     have c33b0 : decide (0 ≤ x44_2) = true := decide_eq_true c33
     clear c33
     by_cases c34 : x44_2 < (t308.length : Int)
     rotate_left
     ·rw [if_neg c34] at H
      exact absurd H (by simp)
     rw [if_pos c34] at H
     have c34b0 : decide (x44_2 < (t308.length : Int)) = true := decide_eq_true c34
     have c34b8 := c34b0
     (try simp only [hl8_1, hl8_2] at c34b8)
     clear c34
     by_cases c35 : 0 ≤ (rd t308 x44_2)
     rotate_left
     ·rw [if_neg c35] at H
      exact absurd H (by simp)
     rw [if_pos c35] at H
     have c35b0 : decide (0 ≤ (rd t308 x44_2)) = true := decide_eq_true c35
     clear c35
     by_cases c36 : (rd t308 x44_2) < (t321.length : Int)
     rotate_left
     ·rw [if_neg c36] at H
      exact absurd H (by simp)
     rw [if_pos c36] at H
     have c36b0 : decide ((rd t308 x44_2) < (t321.length : Int)) = true := decide_eq_true c36
     have c36b8 := c36b0
     (try simp only [hl8_1, hl8_2] at c36b8)
     clear c36
     by_cases c37 : (rd t321 (rd t308 x44_2)) = 0
     rotate_left
     ·rw [if_neg c37] at H
      have c37b0 : ((rd t321 (rd t308 x44_2)) == 0) = false := beq_eq_false_iff_ne.mpr c37
      have c37b1 : ((rd t321 (rd t308 x44_2)) != 0) = true := bne_iff_ne.mpr c37
      have H' := Aside0.mk H
      clear H
      have p324 : 0 ≤ (x44_2 : Int) := of_decide_eq_true zk6
      have q324 : x44_2 < (t308.length : Int) := of_decide_eq_true zk6
      obtain ⟨ad324, e324, hx324_0⟩ := Kd.at_int (Kd.R_reads' HO_42.out).2.2 x44_2 p324 q324
      cases e324
      replace p324 := eq_true p324
      replace q324 := eq_true q324
      obtain ⟨Ao58, co58, eo58⟩ := Kd.R_slice HO_11.out
      subst eo58
      have p325 : 0 ≤ ((rd t308 x44_2) : Int) := of_decide_eq_true zk6
      have q325 : (rd t308 x44_2) < (t321.length : Int) := of_decide_eq_true zk6
      obtain ⟨ad325, e325, hx325_0⟩ := Kd.at_int (Kd.R_reads' HO_11.out).2.2 (rd t308 x44_2) p325 q325
      cases e325
      replace p325 := eq_true p325
      replace q325 := eq_true q325
      go_wp2
      (try simp only [← hl8_2])
      go_roundg k2
      case measure => have := HK1.out; have := HK2.out; omega
      case rel => exact ⟨(x8_2), (x10_2), (wrap64 (x44_2 + 1)), zk9, zk9, H', ⟨by have := HK1.out; have := HK2.out; omega⟩, ⟨zk20⟩, ⟨zk18⟩, ⟨zk17⟩, ⟨zk16⟩, ⟨zk15⟩, ⟨zk12⟩, ⟨zk11⟩, ⟨zk10⟩, ⟨zk1⟩⟩
     rw [if_pos c37] at H
     have c37b0 : ((rd t321 (rd t308 x44_2)) == 0) = true := beq_iff_eq.mpr c37
     have c37b1 : ((rd t321 (rd t308 x44_2)) != 0) = false := bne_eq_false_iff_eq.mpr c37
     clear c37
     by_cases c38 : 0 ≤ (t311.length : Int)
     rotate_left
     ·rw [if_neg c38] at H
      exact absurd H (by simp)
     rw [if_pos c38] at H
     have c38b0 := eq_true c38
     have c38b1 : decide (0 ≤ (t311.length : Int)) = true := decide_eq_true c38
     clear c38
     by_cases c39 : ((t311.length : Int) : Int).toNat ≤ 281474976710656
     rotate_left
     ·rw [if_neg c39] at H
      exact absurd H (by simp)
     rw [if_pos c39] at H
     have c39b0 := eq_true c39
     have c39b1 : decide (((t311.length : Int) : Int).toNat ≤ 281474976710656) = true := decide_eq_true c39
     clear c39
     obtain ⟨y326, hy326⟩ : ∃ y_ : List Bool, y_ = (List.replicate ((t311.length : Int) : Int).toNat false) := ⟨_, rfl⟩
     replace H : ((impl_graph_matched.f k2 a0_0 a0_1 l0_2 a1_0 a1_1 t308 t311 (rd t308 x44_2) x8_2 y326).bind fun bt329 => (if bt329.1 = true then (impl_MostPairs.l1 k2 bt329.2.1 (wrap64 (x10_2 + 1)) t321 t308 (t308.length : Int) (wrap64 (x44_2 + 1)) a0_0 a0_1 l0_2 a1_0 a1_1 t308 t311) else (impl_MostPairs.l1 k2 bt329.2.1 x10_2 t321 t308 (t308.length : Int) (wrap64 (x44_2 + 1)) a0_0 a0_1 l0_2 a1_0 a1_1 t308 t311))) = some (r1, r2) := by first | (rw [hy326]; with_reducible exact H) | (have H2_ := (Option.bind_some _ _).symm.trans H; rw [hy326]; with_reducible exact H2_) | (have H2_ := (Option.bind_some _ _).symm.trans H; with_reducible exact H2_) | with_reducible exact H | (rw [hy326]; exact H) | exact H
     have Ny326 := Aside0.mk hy326
     clear hy326
     replace H := Option.bind_eq_some_iff.mp H
     obtain ⟨⟨t329, t330, t331⟩, A400, H⟩ := H
     replace H : (if t329 = true then (impl_MostPairs.l1 k2 t330 (wrap64 (x10_2 + 1)) t321 t308 (t308.length : Int) (wrap64 (x44_2 + 1)) a0_0 a0_1 l0_2 a1_0 a1_1 t308 t311) else (impl_MostPairs.l1 k2 t330 x10_2 t321 t308 (t308.length : Int) (wrap64 (x44_2 + 1)) a0_0 a0_1 l0_2 a1_0 a1_1 t308 t311)) = some (r1, r2) := H
     have A40 := Aside0.mk A400
     clear A400
     by_cases c41 : t329 = true
     ·subst c41
      have H1 : (impl_MostPairs.l1 k2 t330 (wrap64 (x10_2 + 1)) t321 t308 (t308.length : Int) (wrap64 (x44_2 + 1)) a0_0 a0_1 l0_2 a1_0 a1_1 t308 t311) = some (r1, r2) := by rw [if_pos rfl] at H; exact H
      clear H
      have H := H1
      clear H1
      have H' := Aside0.mk H
      clear H
      have p324 : 0 ≤ (x44_2 : Int) := of_decide_eq_true zk6
      have q324 : x44_2 < (t308.length : Int) := of_decide_eq_true zk6
      obtain ⟨ad324, e324, hx324_0⟩ := Kd.at_int (Kd.R_reads' HO_42.out).2.2 x44_2 p324 q324
      cases e324
      replace p324 := eq_true p324
      replace q324 := eq_true q324
      obtain ⟨Ao42, co42, eo42⟩ := Kd.R_slice HO_11.out
      subst eo42
      have p325 : 0 ≤ ((rd t308 x44_2) : Int) := of_decide_eq_true zk6
      have q325 : (rd t308 x44_2) < (t321.length : Int) := of_decide_eq_true zk6
      obtain ⟨ad325, e325, hx325_0⟩ := Kd.at_int (Kd.R_reads' HO_11.out).2.2 (rd t308 x44_2) p325 q325
      cases e325
      replace p325 := eq_true p325
      replace q325 := eq_true q325
      have hnb43 := NB314_306.out
      have hnc43 := NB306_314.out
      have hnb44 := NB314_307.out
      have hnc44 := NB307_314.out
      have hcz45_0 : wr.cell? ⟨gb314, 0, none⟩ = some (.int .i64 a0_0) := (blk_cell BK314.out 0).trans rfl
      have hcz45_1 : wr.cell? ⟨gb314, 1, none⟩ = some (.int .i64 a0_1) := (blk_cell BK314.out 1).trans rfl
      have hcz45_2 : wr.cell? ⟨gb314, 2, none⟩ = some (.slice A0_2 l0_2.length c0_2) := (blk_cell BK314.out 2).trans rfl
      have hcz45_3 : wr.cell? ⟨gb314, 3, none⟩ = some (.int .i64 a1_0) := (blk_cell BK314.out 3).trans rfl
      have hcz45_4 : wr.cell? ⟨gb314, 4, none⟩ = some (.int .i64 a1_1) := (blk_cell BK314.out 4).trans rfl
      have hcz45_5 : wr.cell? ⟨gb314, 5, none⟩ = some (.slice (some ad324) t308.length co27) := (blk_cell BK314.out 5).trans rfl
      have hcz45_6 : wr.cell? ⟨gb314, 6, none⟩ = some (.slice Ao16 t311.length co16) := (blk_cell BK314.out 6).trans rfl
      have hfz45_0 := blk_frozen BK314.out 0
      have hfz45_1 := blk_frozen BK314.out 1
      have hfz45_2 := blk_frozen BK314.out 2
      have hfz45_3 := blk_frozen BK314.out 3
      have hfz45_4 := blk_frozen BK314.out 4
      have hfz45_5 := blk_frozen BK314.out 5
      have hfz45_6 := blk_frozen BK314.out 6
      go_wp2_with (first | ((with_reducible refine gate_dst (N := 62) rfl ?_); (try (refine gate_guard (by rfl) ?_; dsimp only)); refine Kd.R_make Kd.bool _ 4 rfl (N := 62) rfl 56 _ _ rfl (t311.length : Int) rfl rfl Try.underlying56 (.bool false) 1 info4 rfl (by decide) (by omega) false (ok := fun _ => True) (okp := fun _ => True) rfl (fun _ hk => hk) trivial (of_decide_eq_true zk6) (Nat.le_trans (Nat.mul_le_mul_right _ (of_decide_eq_true zk6 : (t311.length : Int).toNat ≤ 281474976710656)) (by omega)) (Below.refl _ _) (Nat.le_refl _) ?_; intro v327 w46 ho47 hb hg_ hnew_; clear hg_ hnew_; (first | rw [← Ny326.out] at ho47 | (simp only [Int.reduceToNat] at ho47; rw [← Ny326.out] at ho47)); have n0_ := Aside0.mk (Kd.R_below zk19 hb); have n1_ := Aside0.mk (Kd.R_below (by first | exact HO_11.out | ((with_reducible repeat (first | apply Kd.R_alloc | apply Kd.R_drewN | apply Kd.R_drew)); exact HO_11.out)) hb); have n2_ := Aside0.mk (Kd.R_below (by first | exact HO_42.out | ((with_reducible repeat (first | apply Kd.R_alloc | apply Kd.R_drewN | apply Kd.R_drew)); exact HO_42.out)) hb); have n3_ := Aside0.mk (Kd.R_below zk14 hb); have n4_ := Aside0.mk (Kd.S_below zk22 hb); have n5_ := Aside0.mk (Kd.R_lower ho47 (below_size zk1)); have n6_ := Aside0.mk (blk_below (g := gb306) (o := .cells #[.int .i64 a0_0, .int .i64 a0_1, .slice A0_2 l0_2.length c0_2] 30 (0, 0)) zk2 hb); have n7_ := Aside0.mk (blk_below (g := gb307) (o := .cells #[.int .i64 a1_0, .int .i64 a1_1] 32 (0, 0)) zk4 hb); have n8_ := Aside0.mk (blk_below (g := gb314) (o := .cells #[.int .i64 a0_0, .int .i64 a0_1, .slice A0_2 l0_2.length c0_2, .int .i64 a1_0, .int .i64 a1_1, .slice (some ad324) t308.length co27, .slice Ao16 t311.length co16] 53 (0, 0)) zk5 hb); have n9_ := Aside0.mk (below_step zk1 hb); clear HO_8; clear HO_11; clear HO_42; clear HO_315005; clear HO_315006; clear BK306; clear BK307; clear BK314; clear HB; have HO_8 := n0_; have HO_11 := n1_; have HO_42 := n2_; have HO_315005 := n3_; have HO_315006 := n4_; have HO328 := n5_; have BK306 := n6_; have BK307 := n7_; have BK314 := n8_; have HB := n9_; clear n0_ n1_ n2_ n3_ n4_ n5_ n6_ n7_ n8_ n9_; clear hb ho47; obtain ⟨Ao48, co48, eo48⟩ := Kd.R_slice HO328.out; subst eo48) | (go_at_call 24; (with_reducible refine (impl_graph_matched.calls k2 gb314 a0_0 a0_1 A0_2 c0_2 l0_2 a1_0 a1_1 (some ad324) co27 t308 Ao16 co16 t311 (rd t308 x44_2) (fun k_ => some k_ = (.slice Ao19 x8_2.length co19 : Value).ownBlock) (.slice Ao19 x8_2.length co19) x8_2 (fun k_ => some k_ = (.slice Ao48 y326.length co48 : Value).ownBlock) (.slice Ao48 y326.length co48) y326 true t330 t331 w _ ?side1 ?side2 ?side3 ?side4 ?side5 ?side6 ?side7 ?side8 ?side9 ?side10 A40.out).mono ?_); (case side1 => exact zk1); (case side2 => exact zk5); (case side3 => exact Kd.C_kept_came (Kd.heap_int .i64) HR0_2.out zk1 (fun k_ hs_ => Or.elim hs_ (fun e_ => (fun e_ => Kd.R_base HO_8.out k_ e_.symm) e_) (fun e_ => (fun e_ => Kd.R_base HO328.out k_ e_.symm) e_))); (case side4 => exact HC0_2.out); (case side5 => exact Kd.C_kept_own ((Kd.R_apart' HO_315005.out (Kd.R_typed HO328.out) (by decide))) (fun k_ hk_ hs_ => Or.elim hs_ (fun e_ => (hk_.1.1) e_) (fun e_ => (hk_.2) e_))); (case side6 => exact (Kd.R_reads' HO_315005.out).2.1); (case side7 => exact Kd.C_kept_own ((Kd.S_R (Kd.S_apart' HO_315006.out (Kd.R_typed HO328.out) (by decide)))) (fun k_ hk_ hs_ => Or.elim hs_ (fun e_ => (hk_.1.1) e_) (fun e_ => (hk_.2) e_))); (case side8 => exact (Kd.S_reads' HO_315006.out).2.1); (case side9 => exact Kd.R_tight rfl HO_8.out); (case side10 => exact Kd.R_tight rfl HO328.out); rintro e w49 ⟨rfl, hy0, hy1, hb, hkp⟩; have n0_ := Aside0.mk (Kd.R_reok rfl hy0 (fun k_ e_ => HO_8.out.1 k_ e_)); have n1_ := Aside0.mk (Kd.R_mono (ok' := fun k_ => some k_ ≠ (.slice Ao19 x8_2.length co19 : Value).ownBlock ∧ some k_ ≠ (.slice (some ad324) t308.length co27 : Value).ownBlock ∧ some k_ ≠ (.slice (some ad324) t308.length co27 : Value).ownBlock) (Kd.R_keptB ((Kd.R_apart' HO_11.out (Kd.R_typed HO328.out) (by decide))) hkp (fun k_ hk_ hs_ => Or.elim hs_ (fun e_ => (hk_.1.1) e_) (fun e_ => (hk_.2) e_))) (fun k_ hk_ => ⟨hk_.1.1.1, hk_.1.1.2.1, hk_.1.1.2.2⟩)); have n2_ := Aside0.mk (Kd.R_mono (ok' := fun k_ => some k_ ≠ (.slice Ao19 x8_2.length co19 : Value).ownBlock ∧ some k_ ≠ (.slice (some ad325) t321.length co42 : Value).ownBlock) (Kd.R_keptB ((Kd.R_apart' HO_42.out (Kd.R_typed HO328.out) (by decide))) hkp (fun k_ hk_ hs_ => Or.elim hs_ (fun e_ => (hk_.1.1) e_) (fun e_ => (hk_.2) e_))) (fun k_ hk_ => ⟨hk_.1.1.1, hk_.1.1.2⟩)); have n3_ := Aside0.mk (Kd.R_mono (ok' := fun k_ => some k_ ≠ (.slice Ao19 x8_2.length co19 : Value).ownBlock ∧ some k_ ≠ (.slice (some ad325) t321.length co42 : Value).ownBlock) (Kd.R_keptB ((Kd.R_apart' HO_315005.out (Kd.R_typed HO328.out) (by decide))) hkp (fun k_ hk_ hs_ => Or.elim hs_ (fun e_ => (hk_.1.1) e_) (fun e_ => (hk_.2) e_))) (fun k_ hk_ => ⟨hk_.1.1.1, hk_.1.1.2⟩)); have n4_ := Aside0.mk (Kd.S_mono (ok' := fun k_ => some k_ ≠ (.slice Ao19 x8_2.length co19 : Value).ownBlock ∧ some k_ ≠ (.slice (some ad325) t321.length co42 : Value).ownBlock ∧ some k_ ≠ (.slice (some ad324) t308.length co27 : Value).ownBlock ∧ some k_ ≠ (.slice (some ad324) t308.length co27 : Value).ownBlock) (Kd.S_keptB ((Kd.S_apart' HO_315006.out (Kd.R_typed HO328.out) (by decide))) hkp (fun k_ hk_ hs_ => Or.elim hs_ (fun e_ => (hk_.1.1) e_) (fun e_ => (hk_.2) e_))) (fun k_ hk_ => ⟨hk_.1.1.1, hk_.1.1.2.1, hk_.1.1.2.2.1, hk_.1.1.2.2.2⟩)); have n5_ := Aside0.mk (blk_kept zk2 hkp (fun hs_ => Or.elim hs_ (fun e_ => (fun e_ => (Kd.R_ne HO_8.out BK306.out (by decide)) e_) e_) (fun e_ => (fun e_ => (Kd.R_ne HO328.out BK306.out (by decide)) e_) e_))); have n6_ := Aside0.mk (blk_kept zk4 hkp (fun hs_ => Or.elim hs_ (fun e_ => (fun e_ => (Kd.R_ne HO_8.out BK307.out (by decide)) e_) e_) (fun e_ => (fun e_ => (Kd.R_ne HO328.out BK307.out (by decide)) e_) e_))); have n7_ := Aside0.mk (blk_kept zk5 hkp (fun hs_ => Or.elim hs_ (fun e_ => (fun e_ => (Kd.R_ne HO_8.out BK314.out (by decide)) e_) e_) (fun e_ => (fun e_ => (Kd.R_ne HO328.out BK314.out (by decide)) e_) e_))); have n8_ := Aside0.mk (Kd.R_reok rfl hy1 (fun k_ e_ => HO328.out.1 k_ e_)); have n9_ := Aside0.mk (hb); clear HO_8; clear HO_11; clear HO_42; clear HO_315005; clear HO_315006; clear BK306; clear BK307; clear BK314; clear HO328; clear HB; have HO_8 := n0_; have HO_11 := n1_; have HO_42 := n2_; have HO_315005 := n3_; have HO_315006 := n4_; have BK306 := n5_; have BK307 := n6_; have BK314 := n7_; have HO328 := n8_; have HB := n9_; clear n0_ n1_ n2_ n3_ n4_ n5_ n6_ n7_ n8_ n9_; (try clear hb); (try clear hkp); (try clear hy0); (try clear hy1)))
      (try simp only [← hl8_2])
      go_roundg k2
      case measure => have := HK1.out; have := HK2.out; omega
      case rel => exact ⟨(t330), (wrap64 (x10_2 + 1)), (wrap64 (x44_2 + 1)), zk9, zk9, H', ⟨by have := HK1.out; have := HK2.out; omega⟩, ⟨zk20⟩, ⟨zk18⟩, ⟨zk17⟩, ⟨zk16⟩, ⟨zk15⟩, ⟨zk12⟩, ⟨zk11⟩, ⟨zk10⟩, ⟨zk1⟩⟩
     replace c41 := Bool.eq_false_iff.mpr c41
     subst c41
     have H1 : (impl_MostPairs.l1 k2 t330 x10_2 t321 t308 (t308.length : Int) (wrap64 (x44_2 + 1)) a0_0 a0_1 l0_2 a1_0 a1_1 t308 t311) = some (r1, r2) := by rw [if_neg (show ¬ (false = true) by decide)] at H; exact H
     clear H
     have H := H1
     clear H1
     have H' := Aside0.mk H
     clear H
     have p324 : 0 ≤ (x44_2 : Int) := of_decide_eq_true zk6
     have q324 : x44_2 < (t308.length : Int) := of_decide_eq_true zk6
     obtain ⟨ad324, e324, hx324_0⟩ := Kd.at_int (Kd.R_reads' HO_42.out).2.2 x44_2 p324 q324
     cases e324
     replace p324 := eq_true p324
     replace q324 := eq_true q324
     obtain ⟨Ao50, co50, eo50⟩ := Kd.R_slice HO_11.out
     subst eo50
     have p325 : 0 ≤ ((rd t308 x44_2) : Int) := of_decide_eq_true zk6
     have q325 : (rd t308 x44_2) < (t321.length : Int) := of_decide_eq_true zk6
     obtain ⟨ad325, e325, hx325_0⟩ := Kd.at_int (Kd.R_reads' HO_11.out).2.2 (rd t308 x44_2) p325 q325
     cases e325
     replace p325 := eq_true p325
     replace q325 := eq_true q325
     have hnb51 := NB314_306.out
     have hnc51 := NB306_314.out
     have hnb52 := NB314_307.out
     have hnc52 := NB307_314.out
     have hcz53_0 : wr.cell? ⟨gb314, 0, none⟩ = some (.int .i64 a0_0) := (blk_cell BK314.out 0).trans rfl
     have hcz53_1 : wr.cell? ⟨gb314, 1, none⟩ = some (.int .i64 a0_1) := (blk_cell BK314.out 1).trans rfl
     have hcz53_2 : wr.cell? ⟨gb314, 2, none⟩ = some (.slice A0_2 l0_2.length c0_2) := (blk_cell BK314.out 2).trans rfl
     have hcz53_3 : wr.cell? ⟨gb314, 3, none⟩ = some (.int .i64 a1_0) := (blk_cell BK314.out 3).trans rfl
     have hcz53_4 : wr.cell? ⟨gb314, 4, none⟩ = some (.int .i64 a1_1) := (blk_cell BK314.out 4).trans rfl
     have hcz53_5 : wr.cell? ⟨gb314, 5, none⟩ = some (.slice (some ad324) t308.length co27) := (blk_cell BK314.out 5).trans rfl
     have hcz53_6 : wr.cell? ⟨gb314, 6, none⟩ = some (.slice Ao16 t311.length co16) := (blk_cell BK314.out 6).trans rfl
     have hfz53_0 := blk_frozen BK314.out 0
     have hfz53_1 := blk_frozen BK314.out 1
     have hfz53_2 := blk_frozen BK314.out 2
     have hfz53_3 := blk_frozen BK314.out 3
     have hfz53_4 := blk_frozen BK314.out 4
     have hfz53_5 := blk_frozen BK314.out 5
     have hfz53_6 := blk_frozen BK314.out 6
     go_wp2_with (first | ((with_reducible refine gate_dst (N := 62) rfl ?_); (try (refine gate_guard (by rfl) ?_; dsimp only)); refine Kd.R_make Kd.bool _ 4 rfl (N := 62) rfl 56 _ _ rfl (t311.length : Int) rfl rfl Try.underlying56 (.bool false) 1 info4 rfl (by decide) (by omega) false (ok := fun _ => True) (okp := fun _ => True) rfl (fun _ hk => hk) trivial (of_decide_eq_true zk6) (Nat.le_trans (Nat.mul_le_mul_right _ (of_decide_eq_true zk6 : (t311.length : Int).toNat ≤ 281474976710656)) (by omega)) (Below.refl _ _) (Nat.le_refl _) ?_; intro v327 w54 ho55 hb hg_ hnew_; clear hg_ hnew_; (first | rw [← Ny326.out] at ho55 | (simp only [Int.reduceToNat] at ho55; rw [← Ny326.out] at ho55)); have n0_ := Aside0.mk (Kd.R_below zk19 hb); have n1_ := Aside0.mk (Kd.R_below (by first | exact HO_11.out | ((with_reducible repeat (first | apply Kd.R_alloc | apply Kd.R_drewN | apply Kd.R_drew)); exact HO_11.out)) hb); have n2_ := Aside0.mk (Kd.R_below (by first | exact HO_42.out | ((with_reducible repeat (first | apply Kd.R_alloc | apply Kd.R_drewN | apply Kd.R_drew)); exact HO_42.out)) hb); have n3_ := Aside0.mk (Kd.R_below zk14 hb); have n4_ := Aside0.mk (Kd.S_below zk22 hb); have n5_ := Aside0.mk (Kd.R_lower ho55 (below_size zk1)); have n6_ := Aside0.mk (blk_below (g := gb306) (o := .cells #[.int .i64 a0_0, .int .i64 a0_1, .slice A0_2 l0_2.length c0_2] 30 (0, 0)) zk2 hb); have n7_ := Aside0.mk (blk_below (g := gb307) (o := .cells #[.int .i64 a1_0, .int .i64 a1_1] 32 (0, 0)) zk4 hb); have n8_ := Aside0.mk (blk_below (g := gb314) (o := .cells #[.int .i64 a0_0, .int .i64 a0_1, .slice A0_2 l0_2.length c0_2, .int .i64 a1_0, .int .i64 a1_1, .slice (some ad324) t308.length co27, .slice Ao16 t311.length co16] 53 (0, 0)) zk5 hb); have n9_ := Aside0.mk (below_step zk1 hb); clear HO_8; clear HO_11; clear HO_42; clear HO_315005; clear HO_315006; clear BK306; clear BK307; clear BK314; clear HB; have HO_8 := n0_; have HO_11 := n1_; have HO_42 := n2_; have HO_315005 := n3_; have HO_315006 := n4_; have HO328 := n5_; have BK306 := n6_; have BK307 := n7_; have BK314 := n8_; have HB := n9_; clear n0_ n1_ n2_ n3_ n4_ n5_ n6_ n7_ n8_ n9_; clear hb ho55; obtain ⟨Ao56, co56, eo56⟩ := Kd.R_slice HO328.out; subst eo56) | (go_at_call 24; (with_reducible refine (impl_graph_matched.calls k2 gb314 a0_0 a0_1 A0_2 c0_2 l0_2 a1_0 a1_1 (some ad324) co27 t308 Ao16 co16 t311 (rd t308 x44_2) (fun k_ => some k_ = (.slice Ao19 x8_2.length co19 : Value).ownBlock) (.slice Ao19 x8_2.length co19) x8_2 (fun k_ => some k_ = (.slice Ao56 y326.length co56 : Value).ownBlock) (.slice Ao56 y326.length co56) y326 false t330 t331 w _ ?side1 ?side2 ?side3 ?side4 ?side5 ?side6 ?side7 ?side8 ?side9 ?side10 A40.out).mono ?_); (case side1 => exact zk1); (case side2 => exact zk5); (case side3 => exact Kd.C_kept_came (Kd.heap_int .i64) HR0_2.out zk1 (fun k_ hs_ => Or.elim hs_ (fun e_ => (fun e_ => Kd.R_base HO_8.out k_ e_.symm) e_) (fun e_ => (fun e_ => Kd.R_base HO328.out k_ e_.symm) e_))); (case side4 => exact HC0_2.out); (case side5 => exact Kd.C_kept_own ((Kd.R_apart' HO_315005.out (Kd.R_typed HO328.out) (by decide))) (fun k_ hk_ hs_ => Or.elim hs_ (fun e_ => (hk_.1.1) e_) (fun e_ => (hk_.2) e_))); (case side6 => exact (Kd.R_reads' HO_315005.out).2.1); (case side7 => exact Kd.C_kept_own ((Kd.S_R (Kd.S_apart' HO_315006.out (Kd.R_typed HO328.out) (by decide)))) (fun k_ hk_ hs_ => Or.elim hs_ (fun e_ => (hk_.1.1) e_) (fun e_ => (hk_.2) e_))); (case side8 => exact (Kd.S_reads' HO_315006.out).2.1); (case side9 => exact Kd.R_tight rfl HO_8.out); (case side10 => exact Kd.R_tight rfl HO328.out); rintro e w57 ⟨rfl, hy0, hy1, hb, hkp⟩; have n0_ := Aside0.mk (Kd.R_reok rfl hy0 (fun k_ e_ => HO_8.out.1 k_ e_)); have n1_ := Aside0.mk (Kd.R_mono (ok' := fun k_ => some k_ ≠ (.slice Ao19 x8_2.length co19 : Value).ownBlock ∧ some k_ ≠ (.slice (some ad324) t308.length co27 : Value).ownBlock ∧ some k_ ≠ (.slice (some ad324) t308.length co27 : Value).ownBlock) (Kd.R_keptB ((Kd.R_apart' HO_11.out (Kd.R_typed HO328.out) (by decide))) hkp (fun k_ hk_ hs_ => Or.elim hs_ (fun e_ => (hk_.1.1) e_) (fun e_ => (hk_.2) e_))) (fun k_ hk_ => ⟨hk_.1.1.1, hk_.1.1.2.1, hk_.1.1.2.2⟩)); have n2_ := Aside0.mk (Kd.R_mono (ok' := fun k_ => some k_ ≠ (.slice Ao19 x8_2.length co19 : Value).ownBlock ∧ some k_ ≠ (.slice (some ad325) t321.length co50 : Value).ownBlock) (Kd.R_keptB ((Kd.R_apart' HO_42.out (Kd.R_typed HO328.out) (by decide))) hkp (fun k_ hk_ hs_ => Or.elim hs_ (fun e_ => (hk_.1.1) e_) (fun e_ => (hk_.2) e_))) (fun k_ hk_ => ⟨hk_.1.1.1, hk_.1.1.2⟩)); have n3_ := Aside0.mk (Kd.R_mono (ok' := fun k_ => some k_ ≠ (.slice Ao19 x8_2.length co19 : Value).ownBlock ∧ some k_ ≠ (.slice (some ad325) t321.length co50 : Value).ownBlock) (Kd.R_keptB ((Kd.R_apart' HO_315005.out (Kd.R_typed HO328.out) (by decide))) hkp (fun k_ hk_ hs_ => Or.elim hs_ (fun e_ => (hk_.1.1) e_) (fun e_ => (hk_.2) e_))) (fun k_ hk_ => ⟨hk_.1.1.1, hk_.1.1.2⟩)); have n4_ := Aside0.mk (Kd.S_mono (ok' := fun k_ => some k_ ≠ (.slice Ao19 x8_2.length co19 : Value).ownBlock ∧ some k_ ≠ (.slice (some ad325) t321.length co50 : Value).ownBlock ∧ some k_ ≠ (.slice (some ad324) t308.length co27 : Value).ownBlock ∧ some k_ ≠ (.slice (some ad324) t308.length co27 : Value).ownBlock) (Kd.S_keptB ((Kd.S_apart' HO_315006.out (Kd.R_typed HO328.out) (by decide))) hkp (fun k_ hk_ hs_ => Or.elim hs_ (fun e_ => (hk_.1.1) e_) (fun e_ => (hk_.2) e_))) (fun k_ hk_ => ⟨hk_.1.1.1, hk_.1.1.2.1, hk_.1.1.2.2.1, hk_.1.1.2.2.2⟩)); have n5_ := Aside0.mk (blk_kept zk2 hkp (fun hs_ => Or.elim hs_ (fun e_ => (fun e_ => (Kd.R_ne HO_8.out BK306.out (by decide)) e_) e_) (fun e_ => (fun e_ => (Kd.R_ne HO328.out BK306.out (by decide)) e_) e_))); have n6_ := Aside0.mk (blk_kept zk4 hkp (fun hs_ => Or.elim hs_ (fun e_ => (fun e_ => (Kd.R_ne HO_8.out BK307.out (by decide)) e_) e_) (fun e_ => (fun e_ => (Kd.R_ne HO328.out BK307.out (by decide)) e_) e_))); have n7_ := Aside0.mk (blk_kept zk5 hkp (fun hs_ => Or.elim hs_ (fun e_ => (fun e_ => (Kd.R_ne HO_8.out BK314.out (by decide)) e_) e_) (fun e_ => (fun e_ => (Kd.R_ne HO328.out BK314.out (by decide)) e_) e_))); have n8_ := Aside0.mk (Kd.R_reok rfl hy1 (fun k_ e_ => HO328.out.1 k_ e_)); have n9_ := Aside0.mk (hb); clear HO_8; clear HO_11; clear HO_42; clear HO_315005; clear HO_315006; clear BK306; clear BK307; clear BK314; clear HO328; clear HB; have HO_8 := n0_; have HO_11 := n1_; have HO_42 := n2_; have HO_315005 := n3_; have HO_315006 := n4_; have BK306 := n5_; have BK307 := n6_; have BK314 := n7_; have HO328 := n8_; have HB := n9_; clear n0_ n1_ n2_ n3_ n4_ n5_ n6_ n7_ n8_ n9_; (try clear hb); (try clear hkp); (try clear hy0); (try clear hy1)))
     (try simp only [← hl8_2])
     go_roundg k2
     case measure => have := HK1.out; have := HK2.out; omega
     case rel => exact ⟨(t330), (x10_2), (wrap64 (x44_2 + 1)), zk9, zk9, H', ⟨by have := HK1.out; have := HK2.out; omega⟩, ⟨zk20⟩, ⟨zk18⟩, ⟨zk17⟩, ⟨zk16⟩, ⟨zk15⟩, ⟨zk12⟩, ⟨zk11⟩, ⟨zk10⟩, ⟨zk1⟩⟩

end Go.Proofs.Ytfjomkjngolboaa.Q

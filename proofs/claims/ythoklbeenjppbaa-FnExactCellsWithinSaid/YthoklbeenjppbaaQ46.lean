/- Written by a program of this session: functions of the translation as plain Lean functions, each with a proof that the call does what the plain function says; the conditions stand in each theorem. -/
import Derived.Test.YthoklbeenjppbaaQ0
import Derived.Test.YthoklbeenjppbaaQ1
import Derived.Test.YthoklbeenjppbaaQ11
import Derived.Test.YthoklbeenjppbaaQ13
import Derived.Test.YthoklbeenjppbaaQ14
namespace Go.Proofs.Ythoklbeenjppbaa.Q
open Go.RowKit Go.Proofs.YthoklbeenjppbaaW.PrintWords Go.Proofs.YthoklbeenjppbaaW.PrintLast Go.Proofs.YthoklbeenjppbaaW.PrintMore
attribute [local go_sem] max2_int min2_int max_two min_two max_three min_three max_four min_four   -- for this text's walks alone
set_option linter.unusedVariables false
set_option linter.unusedSimpArgs false

theorem zau1 {p : Prop} (h : p := by repeat (first | (with_reducible first | exact HB.out | apply below_alloc | apply pw_below_drewN | apply below_drew1 | refine below_set ?_ GE1278.out | refine below_set ?_ GE1279.out | refine below_set ?_ GE1286.out) | exact HB.out)) : p := h
theorem zau2 {p : Prop} (h : p := by repeat (first | (with_reducible first | exact HB.out | apply below_alloc | apply pw_below_drewN | apply below_drew1 | refine below_set ?_ GE1266.out | refine below_set ?_ GE1267.out) | exact HB.out)) : p := h
theorem zau3 {p : Prop} (h : p := by (with_reducible repeat (first | refine blk_drewN ?_ _ | refine blk_drew ?_ | refine blk_alloc ?_ _)); exact BK1278.out) : p := h
theorem zau4 {p : Prop} (h : p := by repeat (first | (with_reducible first | exact HB.out | apply below_alloc | apply pw_below_drewN | apply below_drew1 | refine below_set ?_ GE1278.out | refine below_set ?_ GE1279.out) | exact HB.out)) : p := h
theorem zau5 {p : Prop} (h : p := by (with_reducible repeat (first | refine blk_drewN ?_ _ | refine blk_drew ?_ | refine blk_alloc ?_ _)); exact BK1279.out) : p := h
theorem zau6 {p : Prop} (h : p := by (with_reducible repeat (first | refine blk_drewN ?_ _ | refine blk_drew ?_ | refine blk_alloc ?_ _)); exact BK1266.out) : p := h
theorem zau7 {p : Prop} (h : p := by repeat (first | (with_reducible first | exact HB.out | apply below_alloc | apply pw_below_drewN | apply below_drew1) | exact HB.out)) : p := h
theorem zau8 {p : Prop} (h : p := by (try simp only [List.map_toArray, List.map_cons, List.map_nil]); first | done | rfl | (simp only [List.length_drop, List.length_take]; rfl)) : p := h
theorem zau9 {p : Prop} (h : p := by (with_reducible repeat (first | refine blk_drewN ?_ _ | refine blk_drew ?_ | refine blk_alloc ?_ _)); exact BK1286.out) : p := h
theorem zau10 {p : Prop} (h : p := by (with_reducible repeat (first | refine blk_drewN ?_ _ | refine blk_drew ?_ | refine blk_alloc ?_ _)); exact BK1267.out) : p := h
theorem zau11 {p : Prop} (h : p := by repeat (first | exact (Kd.C_below HR0_2.out HB.out) | (with_reducible refine Kd.C_alloc ?_ _) | (with_reducible refine Kd.C_drewN ?_ _) | (with_reducible refine Kd.C_drew ?_))) : p := h
theorem zau12 {p : Prop} (h : p := by repeat (first | (with_reducible first | exact HB.out | apply below_alloc | apply pw_below_drewN | apply below_drew1 | refine below_set ?_ GE1278.out) | exact HB.out)) : p := h
theorem zau13 {p : Prop} (h : p := by first | exact Kd.R_nil _ _ _ _ _ | exact Kd.N_nil _ _ _ _ _ | exact Kd.V_nil _ _ _ _ _ | exact Kd.Q_nil _ _ _ _ _ | exact Kd.S_nil _ _ _ _ _) : p := h
theorem zau14 {p : Prop} (h : p := by (with_reducible repeat (first | apply Kd.R_alloc | apply Kd.R_drewN | apply Kd.R_drew)); exact HO_1287005.out) : p := h
theorem zau15 {p : Prop} (h : p := by first | rfl | (simp; done) | (simp [*]; done)) : p := h
theorem zau16 {p : Prop} (h : p := by first | (with_reducible assumption) | assumption) : p := h
theorem zau17 {p : Prop} (h : p := by first | rfl | (simp [errW_none, errW_some] <;> rfl) | (simp [*, errW_none, errW_some] <;> rfl)) : p := h
theorem zau18 {p : Prop} (h : p := by repeat (first | (with_reducible first | exact HB.out | apply below_alloc | apply pw_below_drewN | apply below_drew1 | refine below_set ?_ GE1266.out) | exact HB.out)) : p := h
theorem zau19 {p : Prop} (h : p := by (with_reducible repeat (first | apply Kd.S_alloc | apply Kd.S_drewN | apply Kd.S_drew)); exact HO_1287006.out) : p := h
theorem zau20 {p : Prop} (h : p := by (with_reducible repeat (first | apply Kd.R_alloc | apply Kd.R_drewN | apply Kd.R_drew)); exact HO_35.out) : p := h
theorem zau21 {p : Prop} (h : p := by (with_reducible repeat (first | apply Kd.R_alloc | apply Kd.R_drewN | apply Kd.R_drew)); exact HO_12.out) : p := h
theorem zau22 {p : Prop} (h : p := by (with_reducible repeat (first | apply Kd.R_alloc | apply Kd.R_drewN | apply Kd.R_drew)); exact Kd.R_mono HO_1287005.out (fun _ hk => ⟨hk.2, hk.1⟩)) : p := h
theorem zau23 {p : Prop} (h : p := by (with_reducible repeat (first | apply Kd.R_alloc | apply Kd.R_drewN | apply Kd.R_drew)); exact Kd.R_mono HO_35.out (fun _ hk => ⟨hk.2, hk.1⟩)) : p := h
theorem zau24 {p : Prop} (h : p := by rw [hg]; exact (below_size zau7)) : p := h
theorem zau25 {p : Prop} (h : p := by rw [hg]; exact Nat.ne_of_lt (blk_lt (g := gb1278) (o := .cells #[.int .i64 a0_0, .int .i64 a0_1, .slice A0_2 l0_2.length c0_2] 30 (0, 0)) zau3)) : p := h
theorem zau26 {p : Prop} (h : p := by rw [hg]; exact Nat.ne_of_gt (blk_lt (g := gb1278) (o := .cells #[.int .i64 a0_0, .int .i64 a0_1, .slice A0_2 l0_2.length c0_2] 30 (0, 0)) zau3)) : p := h
/-! ### spec_CellsWithin: function 46 -/
mutual
def spec_CellsWithin.j0 : Nat → Int → Int → Bool → Int → Int → List Int → Int → Int → Option (List Int × Bool)
 | 0, _, _, _, _, _, _, _, _ => none
 | k + 1, x2, x3, x23, x1267000, x1267001, x1267002, x1268000, x1268001 => if x23 = true then (some (([] : List Int), false)) else ((spec_faFrom.f k x1267000 x1267001 x1267002 x1268000 x1268001 x2).bind fun t1270 => (spec_CellsWithin.l0 k x3 ([] : List Int) t1270 (t1270.length : Int) 0))
def spec_CellsWithin.l0 : Nat → Int → List Int → List Int → Int → Int → Option (List Int × Bool)
 | 0, _, _, _, _, _ => none
 | k + 1, x3, x10, x27, x28, x29 => if x29 < x28 then (if 0 ≤ x29 then (if x29 < (x27.length : Int) then ((spec_l1In.f (rd x27 x29) 0 x3).bind fun t1274 => (if t1274 = true then (if x10.length < 17592186044416 then (spec_CellsWithin.l0 k x3 (x10 ++ [x29]) x27 x28 (wrap64 (x29 + 1))) else (none)) else (spec_CellsWithin.l0 k x3 x10 x27 x28 (wrap64 (x29 + 1))))) else (none)) else (none)) else (some (x10, true))
end
def spec_CellsWithin.f (k : Nat) (a0_0 : Int) (a0_1 : Int) (l0_2 : List Int) (a1_0 : Int) (a1_1 : Int) (a2 : Int) (a3 : Int) : Option (List Int × Bool) := (spec_faAsked.f k a0_0 a0_1 l0_2 a1_0 a1_1 a2 a2).bind fun t1268 => (if t1268 = true then ((spec_l1In.f a3 0 12).bind fun t1269 => (spec_CellsWithin.j0 k a2 a3 (!t1269) a0_0 a0_1 l0_2 a1_0 a1_1)) else (spec_CellsWithin.j0 k a2 a3 true a0_0 a0_1 l0_2 a1_0 a1_1))
set_option maxHeartbeats 8000000 in
set_option maxRecDepth 100000 in
theorem spec_CellsWithin.calls (k : Nat) (a0_0 : Int) (a0_1 : Int) (A0_2 : Option Addr) (c0_2 : Nat) (l0_2 : List Int) (a1_0 : Int) (a1_1 : Int) (a2 : Int) (a3 : Int) (r1 : List Int) (r2 : Bool) (w : World) (hr0_2 : Kd.C (Kd.int .i64) w A0_2 l0_2.length l0_2) (hc0_2 : l0_2.length ≤ c0_2) (h : spec_CellsWithin.f k a0_0 a0_1 l0_2 a1_0 a1_1 a2 a3 = some (r1, r2)) :
  Calls Try.prog 46 #[.agg #[.int .i64 a0_0, .int .i64 a0_1, .slice A0_2 l0_2.length c0_2], .agg #[.int .i64 a1_0, .int .i64 a1_1], .int .i64 a2, .int .i64 a3] w fun e w' => ∃ v0_ : Value, e = .returned (.tuple #[v0_, .bool r2]) ∧ Kd.R (Kd.int .i64) 3 w' w.heap.size (fun _ => True) v0_ r1 ∧ Below w.heap.size w w' := by
 have hu30 := Try.underlying30
 have hu32 := Try.underlying32
 have HR0_2 := Aside0.mk hr0_2
 have HC0_2 := Aside0.mk hc0_2
 clear hr0_2 hc0_2
 have HB := Aside0.mk (Below.refl w.heap.size w)
 have H : ((spec_faAsked.f k a0_0 a0_1 l0_2 a1_0 a1_1 a2 a2).bind fun t1268 => (if t1268 = true then ((spec_l1In.f a3 0 12).bind fun t1269 => (spec_CellsWithin.j0 k a2 a3 (!t1269) a0_0 a0_1 l0_2 a1_0 a1_1)) else (spec_CellsWithin.j0 k a2 a3 true a0_0 a0_1 l0_2 a1_0 a1_1))) = some (r1, r2) := h
 clear h
 have HC5 := Aside0.mk H
 clear H
 go_enter Try.func46, Try.ntmps46
 go_upto_region 1 with (first | ((with_reducible refine gate_dst (N := 4) rfl ?_); refine box_event ?hg (N := 4) ?hd (cs := #[.int .i64 a0_0, .int .i64 a0_1, .slice A0_2 l0_2.length c0_2]) (t := 30) ?hr ?_; (case hd => rfl); (case hg => rfl); (case hr => first | (go_simp; done) | (go_simp; rfl)); intro gb1266 hg w6 hbox hb; have n0_ := Aside0.mk (below_step zau7 hb); have n1_ := Aside0.mk (hbox); have n2_ := Aside0.mk ((zau24 : w.heap.size ≤ gb1266)); have n3_ := Aside0.mk ((zau24 : w.heap.size ≤ gb1266)); clear HB; have HB := n0_; have BK1266 := n1_; have GW1266 := n2_; have GE1266 := n3_; clear n0_ n1_ n2_ n3_; clear hb hbox hg) | ((with_reducible refine gate_dst (N := 5) rfl ?_); refine box_event ?hg (N := 5) ?hd (cs := #[.int .i64 a1_0, .int .i64 a1_1]) (t := 32) ?hr ?_; (case hd => rfl); (case hg => rfl); (case hr => first | (go_simp; done) | (go_simp; rfl)); intro gb1267 hg w7 hbox hb; have n0_ := Aside0.mk (blk_below (g := gb1266) (o := .cells #[.int .i64 a0_0, .int .i64 a0_1, .slice A0_2 l0_2.length c0_2] 30 (0, 0)) zau6 hb); have n1_ := Aside0.mk (below_step zau18 hb); have n2_ := Aside0.mk (hbox); have n3_ := Aside0.mk ((by rw [hg]; exact (below_size zau18) : w.heap.size ≤ gb1267)); have n4_ := Aside0.mk ((by rw [hg]; exact (below_size zau18) : w.heap.size ≤ gb1267)); have n5_ := Aside0.mk ((by rw [hg]; exact Nat.ne_of_lt (blk_lt (g := gb1266) (o := .cells #[.int .i64 a0_0, .int .i64 a0_1, .slice A0_2 l0_2.length c0_2] 30 (0, 0)) zau6) : gb1266 ≠ gb1267)); have n6_ := Aside0.mk ((by rw [hg]; exact Nat.ne_of_gt (blk_lt (g := gb1266) (o := .cells #[.int .i64 a0_0, .int .i64 a0_1, .slice A0_2 l0_2.length c0_2] 30 (0, 0)) zau6) : gb1267 ≠ gb1266)); clear BK1266; clear HB; have BK1266 := n0_; have HB := n1_; have BK1267 := n2_; have GW1267 := n3_; have GE1267 := n4_; have NB1266_1267 := n5_; have NB1267_1266 := n6_; clear n0_ n1_ n2_ n3_ n4_ n5_ n6_; clear hb hbox hg))
 (try simp only [Act.put, List.setIfInBounds_toArray, List.set_cons_zero, List.set_cons_succ])
 go_cut [23] (fun v23 wc => ∃ (kq : Nat) (x23_4 : Bool), v23 = .bool x23_4 ∧ Aside0 (spec_CellsWithin.j0 kq a2 a3 x23_4 a0_0 a0_1 l0_2 a1_0 a1_1 = some (r1, r2)) ∧ Aside0 (kq ≤ k) ∧ Aside0 (wc.heap[gb1266]? = some (.cells #[.int .i64 a0_0, .int .i64 a0_1, (.slice A0_2 l0_2.length c0_2)] 30 (0, 0))) ∧ Aside0 (wc.heap[gb1267]? = some (.cells #[.int .i64 a1_0, .int .i64 a1_1] 32 (0, 0))) ∧ Aside0 (Below w.heap.size w wc))
 case first =>
  have H := HC5.out
  clear HC5
  replace H := Option.bind_eq_some_iff.mp H
  obtain ⟨t1268, A80, H⟩ := H
  replace H : (if t1268 = true then ((spec_l1In.f a3 0 12).bind fun t1269 => (spec_CellsWithin.j0 k a2 a3 (!t1269) a0_0 a0_1 l0_2 a1_0 a1_1)) else (spec_CellsWithin.j0 k a2 a3 true a0_0 a0_1 l0_2 a1_0 a1_1)) = some (r1, r2) := H
  have A8 := Aside0.mk A80
  clear A80
  by_cases c9 : t1268 = true
  rotate_left
  ·replace c9 := Bool.eq_false_iff.mpr c9
   subst c9
   have H1 : (spec_CellsWithin.j0 k a2 a3 true a0_0 a0_1 l0_2 a1_0 a1_1) = some (r1, r2) := by rw [if_neg (show ¬ (false = true) by decide)] at H; exact H
   clear H
   have H := H1
   clear H1
   have H' := Aside0.mk H
   clear H
   have hnb15 := NB1266_1267.out
   have hnc15 := NB1267_1266.out
   have hcz16_0 : w7.cell? ⟨gb1266, 0, none⟩ = some (.int .i64 a0_0) := (blk_cell BK1266.out 0).trans rfl
   have hcz16_1 : w7.cell? ⟨gb1266, 1, none⟩ = some (.int .i64 a0_1) := (blk_cell BK1266.out 1).trans rfl
   have hcz16_2 : w7.cell? ⟨gb1266, 2, none⟩ = some (.slice A0_2 l0_2.length c0_2) := (blk_cell BK1266.out 2).trans rfl
   have hfz16_0 := blk_frozen BK1266.out 0
   have hfz16_1 := blk_frozen BK1266.out 1
   have hfz16_2 := blk_frozen BK1266.out 2
   have hcz17_0 : w7.cell? ⟨gb1267, 0, none⟩ = some (.int .i64 a1_0) := (blk_cell BK1267.out 0).trans rfl
   have hcz17_1 : w7.cell? ⟨gb1267, 1, none⟩ = some (.int .i64 a1_1) := (blk_cell BK1267.out 1).trans rfl
   have hfz17_0 := blk_frozen BK1267.out 0
   have hfz17_1 := blk_frozen BK1267.out 1
   go_wp2_with (first | ((with_reducible refine gate_callee (f := 53) rfl ?_); refine goesL_ (some 17) rfl rfl Try.func53 (by kernel_rfl) rfl #[.agg #[.int .i64 a0_0, .int .i64 a0_1, .slice A0_2 l0_2.length c0_2], .agg #[.int .i64 a1_0, .int .i64 a1_1], .int .i64 a2, .int .i64 a2] rfl zau8 ?_; (with_reducible refine (spec_faAsked.calls k a0_0 a0_1 _ _ l0_2 a1_0 a1_1 a2 a2 false _ ?side1 ?side2 A8.out).mono ?_); (case side1 => exact zau11); (case side2 => exact HC0_2.out); rintro e w18 ⟨rfl, hb⟩; refine ⟨_, rfl, ?_⟩; have n0_ := Aside0.mk (blk_below (g := gb1266) (o := .cells #[.int .i64 a0_0, .int .i64 a0_1, .slice A0_2 l0_2.length c0_2] 30 (0, 0)) zau6 hb); have n1_ := Aside0.mk (blk_below (g := gb1267) (o := .cells #[.int .i64 a1_0, .int .i64 a1_1] 32 (0, 0)) zau10 hb); have n2_ := Aside0.mk (below_step zau2 hb); clear BK1266; clear BK1267; clear HB; have BK1266 := n0_; have BK1267 := n1_; have HB := n2_; clear n0_ n1_ n2_; (try clear hb); (try clear hb2); (try clear hk); (try clear hi); (try clear hna_); (try clear hnb_)))
   go_meet
   case rel => exact ⟨_, (true), zau15, H', ⟨by first | omega | exact Nat.le_refl _⟩, ⟨zau6⟩, ⟨zau10⟩, ⟨zau2⟩⟩
  subst c9
  have H1 : ((spec_l1In.f a3 0 12).bind fun t1269 => (spec_CellsWithin.j0 k a2 a3 (!t1269) a0_0 a0_1 l0_2 a1_0 a1_1)) = some (r1, r2) := by rw [if_pos rfl] at H; exact H
  clear H
  have H := H1
  clear H1
  replace H := Option.bind_eq_some_iff.mp H
  obtain ⟨t1269, A100, H⟩ := H
  replace H : (spec_CellsWithin.j0 k a2 a3 (!t1269) a0_0 a0_1 l0_2 a1_0 a1_1) = some (r1, r2) := H
  have A10 := Aside0.mk A100
  clear A100
  have H' := Aside0.mk H
  clear H
  have hnb11 := NB1266_1267.out
  have hnc11 := NB1267_1266.out
  have hcz12_0 : w7.cell? ⟨gb1266, 0, none⟩ = some (.int .i64 a0_0) := (blk_cell BK1266.out 0).trans rfl
  have hcz12_1 : w7.cell? ⟨gb1266, 1, none⟩ = some (.int .i64 a0_1) := (blk_cell BK1266.out 1).trans rfl
  have hcz12_2 : w7.cell? ⟨gb1266, 2, none⟩ = some (.slice A0_2 l0_2.length c0_2) := (blk_cell BK1266.out 2).trans rfl
  have hfz12_0 := blk_frozen BK1266.out 0
  have hfz12_1 := blk_frozen BK1266.out 1
  have hfz12_2 := blk_frozen BK1266.out 2
  have hcz13_0 : w7.cell? ⟨gb1267, 0, none⟩ = some (.int .i64 a1_0) := (blk_cell BK1267.out 0).trans rfl
  have hcz13_1 : w7.cell? ⟨gb1267, 1, none⟩ = some (.int .i64 a1_1) := (blk_cell BK1267.out 1).trans rfl
  have hfz13_0 := blk_frozen BK1267.out 0
  have hfz13_1 := blk_frozen BK1267.out 1
  go_wp2_with (first | ((with_reducible refine gate_callee (f := 53) rfl ?_); refine goesL_ (some 17) rfl rfl Try.func53 (by kernel_rfl) rfl #[.agg #[.int .i64 a0_0, .int .i64 a0_1, .slice A0_2 l0_2.length c0_2], .agg #[.int .i64 a1_0, .int .i64 a1_1], .int .i64 a2, .int .i64 a2] rfl zau8 ?_; (with_reducible refine (spec_faAsked.calls k a0_0 a0_1 _ _ l0_2 a1_0 a1_1 a2 a2 true _ ?side1 ?side2 A8.out).mono ?_); (case side1 => exact zau11); (case side2 => exact HC0_2.out); rintro e w14 ⟨rfl, hb⟩; refine ⟨_, rfl, ?_⟩; have n0_ := Aside0.mk (blk_below (g := gb1266) (o := .cells #[.int .i64 a0_0, .int .i64 a0_1, .slice A0_2 l0_2.length c0_2] 30 (0, 0)) zau6 hb); have n1_ := Aside0.mk (blk_below (g := gb1267) (o := .cells #[.int .i64 a1_0, .int .i64 a1_1] 32 (0, 0)) zau10 hb); have n2_ := Aside0.mk (below_step zau2 hb); clear BK1266; clear BK1267; clear HB; have BK1266 := n0_; have BK1267 := n1_; have HB := n2_; clear n0_ n1_ n2_; (try clear hb); (try clear hb2); (try clear hk); (try clear hi); (try clear hna_); (try clear hnb_)) | (go_at_call 82; (with_reducible refine (spec_l1In.calls a3 0 12 t1269 _ A10.out).mono ?_); rintro e w' ⟨rfl, ⟨nd, rfl⟩⟩))
  go_meet
  case rel => exact ⟨_, (!t1269), zau15, H', ⟨by first | omega | exact Nat.le_refl _⟩, ⟨zau6⟩, ⟨zau10⟩, ⟨zau2⟩⟩
 case rest =>
  clear HC5
  try clear c1; try clear p2; try clear c4; try clear c5; try clear c9; try clear c11; try clear c15; try clear hcz12_0; try clear hcz12_1; try clear hcz12_2; try clear hcz13_0; try clear hcz13_1; try clear hcz16_0; try clear hcz16_1; try clear hcz16_2; try clear hcz17_0; try clear hcz17_1; try clear hfz12_0; try clear hfz12_1; try clear hfz12_2; try clear hfz13_0; try clear hfz13_1; try clear hfz16_0; try clear hfz16_1; try clear hfz16_2; try clear hfz17_0; try clear hfz17_1
  obtain ⟨kq, x23_4, rfl, HA, HJ4, BK1266, BK1267, HB⟩ := hcut
  cases kq with
  | zero => exact absurd HA.out (by simp [spec_CellsWithin.j0])
  | succ kj4 =>
   have H := HA.out
   clear HA
   simp only [spec_CellsWithin.j0] at H
   by_cases c19 : x23_4 = true
   ·subst c19
    have H1 : (some (([] : List Int), false)) = some (r1, r2) := by rw [if_pos rfl] at H; exact H
    clear H
    have H := H1
    clear H1
    simp only [Option.some.injEq, Prod.mk.injEq] at H
    obtain ⟨rfl, rfl⟩ := H
    go_wp2
    go_ret2
    exact ⟨_, zau17, zau13, zau2⟩
   replace c19 := Bool.eq_false_iff.mpr c19
   subst c19
   have H1 : ((spec_faFrom.f kj4 a0_0 a0_1 l0_2 a1_0 a1_1 a2).bind fun t1270 => (spec_CellsWithin.l0 kj4 a3 ([] : List Int) t1270 (t1270.length : Int) 0)) = some (r1, r2) := by rw [if_neg (show ¬ (false = true) by decide)] at H; exact H
   clear H
   have H := H1
   clear H1
   replace H := Option.bind_eq_some_iff.mp H
   obtain ⟨t1270, A200, H⟩ := H
   replace H : (spec_CellsWithin.l0 kj4 a3 ([] : List Int) t1270 (t1270.length : Int) 0) = some (r1, r2) := H
   have A20 := Aside0.mk A200
   clear A200
   have H' := Aside0.mk H
   clear H
   have hnb21 := NB1266_1267.out
   have hnc21 := NB1267_1266.out
   have hcz22_0 : wc.cell? ⟨gb1266, 0, none⟩ = some (.int .i64 a0_0) := (blk_cell BK1266.out 0).trans rfl
   have hcz22_1 : wc.cell? ⟨gb1266, 1, none⟩ = some (.int .i64 a0_1) := (blk_cell BK1266.out 1).trans rfl
   have hcz22_2 : wc.cell? ⟨gb1266, 2, none⟩ = some (.slice A0_2 l0_2.length c0_2) := (blk_cell BK1266.out 2).trans rfl
   have hfz22_0 := blk_frozen BK1266.out 0
   have hfz22_1 := blk_frozen BK1266.out 1
   have hfz22_2 := blk_frozen BK1266.out 2
   have hcz23_0 : wc.cell? ⟨gb1267, 0, none⟩ = some (.int .i64 a1_0) := (blk_cell BK1267.out 0).trans rfl
   have hcz23_1 : wc.cell? ⟨gb1267, 1, none⟩ = some (.int .i64 a1_1) := (blk_cell BK1267.out 1).trans rfl
   have hfz23_0 := blk_frozen BK1267.out 0
   have hfz23_1 := blk_frozen BK1267.out 1
   go_wp2_with (first | ((with_reducible refine gate_callee (f := 54) rfl ?_); refine goesL_ (some 27) rfl rfl Try.func54 (by kernel_rfl) rfl #[.agg #[.int .i64 a0_0, .int .i64 a0_1, .slice A0_2 l0_2.length c0_2], .agg #[.int .i64 a1_0, .int .i64 a1_1], .int .i64 a2] rfl zau8 ?_; (with_reducible refine (spec_faFrom.calls kj4 a0_0 a0_1 _ _ l0_2 a1_0 a1_1 a2 t1270 _ ?side1 ?side2 A20.out).mono ?_); (case side1 => exact zau11); (case side2 => exact HC0_2.out); rintro e w24 ⟨v1271, rfl, ho0, hb⟩; refine ⟨_, rfl, ?_⟩; have n0_ := Aside0.mk (Kd.R_lower ho0 (below_size zau2)); have n1_ := Aside0.mk (blk_below (g := gb1266) (o := .cells #[.int .i64 a0_0, .int .i64 a0_1, .slice A0_2 l0_2.length c0_2] 30 (0, 0)) zau6 hb); have n2_ := Aside0.mk (blk_below (g := gb1267) (o := .cells #[.int .i64 a1_0, .int .i64 a1_1] 32 (0, 0)) zau10 hb); have n3_ := Aside0.mk (below_step zau2 hb); clear BK1266; clear BK1267; clear HB; have HO1272 := n0_; have BK1266 := n1_; have BK1267 := n2_; have HB := n3_; clear n0_ n1_ n2_ n3_; (try clear hb); (try clear hb2); (try clear hk); (try clear hi); (try clear ho0); (try clear hna_); (try clear hnb_); obtain ⟨Ao25, co25, eo25⟩ := Kd.R_slice HO1272.out; subst eo25))
   go_loopg [10, 29] kj4 (fun kq v10 v29 w' => ∃ (x10_2 : List Int) (x29_2 : Int), v29 = .int .i64 x29_2 ∧ Aside0 (spec_CellsWithin.l0 kq a3 x10_2 t1270 (t1270.length : Int) x29_2 = some (r1, r2)) ∧ Aside0 (kq ≤ kj4) ∧ Aside0 (Kd.R (Kd.int .i64) 3 w' w.heap.size (fun k_ => some k_ ≠ ((.slice Ao25 t1270.length co25) : Value).ownBlock) v10 x10_2) ∧ Aside0 (Kd.R (Kd.int .i64) 3 w' w.heap.size (fun k_ => some k_ ≠ (v10 : Value).ownBlock) (.slice Ao25 t1270.length co25) t1270) ∧ Aside0 (w'.heap[gb1266]? = some (.cells #[.int .i64 a0_0, .int .i64 a0_1, (.slice A0_2 l0_2.length c0_2)] 30 (0, 0))) ∧ Aside0 (w'.heap[gb1267]? = some (.cells #[.int .i64 a1_0, .int .i64 a1_1] 32 (0, 0))) ∧ Aside0 (Below w.heap.size w w'))
   case atStart => exact ⟨(([] : List Int)), (0), zau15, H', ⟨Nat.le_refl _⟩, ⟨zau13⟩, ⟨by (with_reducible repeat (first | apply Kd.R_alloc | apply Kd.R_drewN | apply Kd.R_drew)); exact Kd.R_mono HO1272.out (fun _ hk => (by simp [Value.ownBlock]))⟩, ⟨zau6⟩, ⟨zau10⟩, ⟨zau2⟩⟩
   case round =>
    clear H'
    try clear c1; try clear c2; try clear p2; try clear c4; try clear c5; try clear c9; try clear c11; try clear c15; try clear c19; try clear c21; try clear hcz12_0; try clear hcz12_1; try clear hcz12_2; try clear hcz13_0; try clear hcz13_1; try clear hcz16_0; try clear hcz16_1; try clear hcz16_2; try clear hcz17_0; try clear hcz17_1; try clear hcz22_0; try clear hcz22_1; try clear hcz22_2; try clear hcz23_0; try clear hcz23_1; try clear hfz12_0; try clear hfz12_1; try clear hfz12_2; try clear hfz13_0; try clear hfz13_1; try clear hfz16_0; try clear hfz16_1; try clear hfz16_2; try clear hfz17_0; try clear hfz17_1
    try clear hfz22_0; try clear hfz22_1; try clear hfz22_2; try clear hfz23_0; try clear hfz23_1; try clear p2
    obtain ⟨x10_2, x29_2, rfl, HA, HK2, HO_10, HO_27, BK1266, BK1267, HB⟩ := hrel
    cases gk with
    | zero => exact absurd HA.out (by simp [spec_CellsWithin.l0])
    | succ k2 =>
     have H := HA.out
     clear HA
     simp only [spec_CellsWithin.l0] at H
     by_cases c26 : x29_2 < (t1270.length : Int)
     rotate_left
     ·rw [if_neg c26] at H
      have c26b0 : decide (x29_2 < (t1270.length : Int)) = false := decide_eq_false c26
      clear c26
      simp only [Option.some.injEq, Prod.mk.injEq] at H
      obtain ⟨rfl, rfl⟩ := H
      go_wp2
      go_ret2
      exact ⟨_, zau17, by (with_reducible repeat (first | apply Kd.R_alloc | apply Kd.R_drewN | apply Kd.R_drew)); exact Kd.R_mono HO_10.out (fun _ hk => trivial), zau2⟩
     rw [if_pos c26] at H
     have c26b0 : decide (x29_2 < (t1270.length : Int)) = true := decide_eq_true c26
     clear c26
     by_cases c27 : 0 ≤ x29_2
     rotate_left
     ·rw [if_neg c27] at H
      exact absurd H (by simp)
     rw [if_pos c27] at H
     have c27b0 : decide (0 ≤ x29_2) = true := decide_eq_true c27
     clear c27
     by_cases c28 : x29_2 < (t1270.length : Int)
     rotate_left
     ·rw [if_neg c28] at H
      exact absurd H (by simp)
     rw [if_pos c28] at H
     have c28b0 : decide (x29_2 < (t1270.length : Int)) = true := decide_eq_true c28
     clear c28
     replace H := Option.bind_eq_some_iff.mp H
     obtain ⟨t1274, A290, H⟩ := H
     replace H : (if t1274 = true then (if x10_2.length < 17592186044416 then (spec_CellsWithin.l0 k2 a3 (x10_2 ++ [x29_2]) t1270 (t1270.length : Int) (wrap64 (x29_2 + 1))) else (none)) else (spec_CellsWithin.l0 k2 a3 x10_2 t1270 (t1270.length : Int) (wrap64 (x29_2 + 1)))) = some (r1, r2) := H
     have A29 := Aside0.mk A290
     clear A290
     by_cases c30 : t1274 = true
     rotate_left
     ·replace c30 := Bool.eq_false_iff.mpr c30
      subst c30
      have H1 : (spec_CellsWithin.l0 k2 a3 x10_2 t1270 (t1270.length : Int) (wrap64 (x29_2 + 1))) = some (r1, r2) := by rw [if_neg (show ¬ (false = true) by decide)] at H; exact H
      clear H
      have H := H1
      clear H1
      have H' := Aside0.mk H
      clear H
      have p1273 : 0 ≤ (x29_2 : Int) := of_decide_eq_true zau16
      have q1273 : x29_2 < (t1270.length : Int) := of_decide_eq_true zau16
      obtain ⟨ad1273, e1273, hx1273_0⟩ := Kd.at_int (Kd.R_reads' HO_27.out).2.2 x29_2 p1273 q1273
      cases e1273
      replace p1273 := eq_true p1273
      replace q1273 := eq_true q1273
      go_wp2_with (first | ((with_reducible refine gate_callee (f := 82) rfl ?_); refine goesL_ (some 36) rfl rfl Try.func82 (by kernel_rfl) rfl #[.int .i64 (rd t1270 x29_2), .int .i64 0, .int .i64 a3] rfl zau8 ?_; (with_reducible refine (spec_l1In.calls (rd t1270 x29_2) 0 a3 false _ A29.out).mono ?_); rintro e w' ⟨rfl, ⟨nd, rfl⟩⟩; refine ⟨_, rfl, ?_⟩))
      go_roundg k2
      case measure => have := HJ4.out; have := HK2.out; omega
      case rel => exact ⟨(x10_2), (wrap64 (x29_2 + 1)), zau15, H', ⟨by have := HJ4.out; have := HK2.out; omega⟩, ⟨by (with_reducible repeat (first | apply Kd.R_alloc | apply Kd.R_drewN | apply Kd.R_drew)); exact HO_10.out⟩, ⟨by (with_reducible repeat (first | apply Kd.R_alloc | apply Kd.R_drewN | apply Kd.R_drew)); exact HO_27.out⟩, ⟨zau6⟩, ⟨zau10⟩, ⟨zau2⟩⟩
     subst c30
     have H1 : (if x10_2.length < 17592186044416 then (spec_CellsWithin.l0 k2 a3 (x10_2 ++ [x29_2]) t1270 (t1270.length : Int) (wrap64 (x29_2 + 1))) else (none)) = some (r1, r2) := by rw [if_pos rfl] at H; exact H
     clear H
     have H := H1
     clear H1
     by_cases c31 : x10_2.length < 17592186044416
     rotate_left
     ·rw [if_neg c31] at H
      exact absurd H (by simp)
     rw [if_pos c31] at H
     have LMc31 := Aside0.mk c31
     clear c31
     obtain ⟨y1275, hy1275⟩ : ∃ y_ : List Int, y_ = (x10_2 ++ [x29_2]) := ⟨_, rfl⟩
     replace H : (spec_CellsWithin.l0 k2 a3 y1275 t1270 (t1270.length : Int) (wrap64 (x29_2 + 1))) = some (r1, r2) := by first | (rw [hy1275]; with_reducible exact H) | (have H2_ := (Option.bind_some _ _).symm.trans H; rw [hy1275]; with_reducible exact H2_) | (have H2_ := (Option.bind_some _ _).symm.trans H; with_reducible exact H2_) | with_reducible exact H | (rw [hy1275]; exact H) | exact H
     have Ny1275 := Aside0.mk hy1275
     clear hy1275
     have H' := Aside0.mk H
     clear H
     have p1273 : 0 ≤ (x29_2 : Int) := of_decide_eq_true zau16
     have q1273 : x29_2 < (t1270.length : Int) := of_decide_eq_true zau16
     obtain ⟨ad1273, e1273, hx1273_0⟩ := Kd.at_int (Kd.R_reads' HO_27.out).2.2 x29_2 p1273 q1273
     cases e1273
     replace p1273 := eq_true p1273
     replace q1273 := eq_true q1273
     go_wp2_with (first | ((with_reducible refine gate_callee (f := 82) rfl ?_); refine goesL_ (some 36) rfl rfl Try.func82 (by kernel_rfl) rfl #[.int .i64 (rd t1270 x29_2), .int .i64 0, .int .i64 a3] rfl zau8 ?_; (with_reducible refine (spec_l1In.calls (rd t1270 x29_2) 0 a3 true _ A29.out).mono ?_); rintro e w' ⟨rfl, ⟨nd, rfl⟩⟩; refine ⟨_, rfl, ?_⟩) | ((with_reducible refine gate_builtin (b := .append) (xs := #[.tmp 37, .tmp 39]) rfl ?_); at_builtin; refine Kd.R_append (Kd.int .i64) (w0 := w) w.heap.size rfl (.tmp 37) (.tmp 39) 22 3 (.int .i64 0) 8 rfl Try.underlying22 info3 rfl (by decide) (by omega) u10 x10_2 x29_2 [.int .i64 x29_2] (fun k_ => some k_ ≠ (.slice (some ad1273) t1270.length co25 : Value).ownBlock) (fun _ => False) rfl rfl ?aP (fun _ hk => hk.elim) ?aF ?aO ?aB ?aS ?aL ?_; (case aP => exact rfl); (case aB => exact zau2); (case aF => exact (fun k_ hk => Kd.fresh' (Kd.R_lt (by (with_reducible repeat (first | apply Kd.R_alloc | apply Kd.R_drewN | apply Kd.R_drew)); exact HO_27.out)) k_ hk)); (case aO => exact (by (with_reducible repeat (first | apply Kd.R_alloc | apply Kd.R_drewN | apply Kd.R_drew)); exact HO_10.out)); (case aS => exact (below_size zau2)); (case aL => have := LMc31.out; omega); intro v1276 w32 ho hb hg hat; rw [← Ny1275.out] at ho; have n0_ := Aside0.mk (Kd.R_after (ok := (fun _ => True)) (by (with_reducible repeat (first | apply Kd.R_alloc | apply Kd.R_drewN | apply Kd.R_drew)); exact Kd.R_mono HO_27.out (fun _ hk => ⟨trivial, hk⟩)) hg hat); have n1_ := Aside0.mk (blk_grown (g := gb1266) (o := .cells #[.int .i64 a0_0, .int .i64 a0_1, .slice A0_2 l0_2.length c0_2] 30 (0, 0)) zau6 hg (Kd.R_ne HO_10.out BK1266.out (by decide))); have n2_ := Aside0.mk (blk_grown (g := gb1267) (o := .cells #[.int .i64 a1_0, .int .i64 a1_1] 32 (0, 0)) zau10 hg (Kd.R_ne HO_10.out BK1267.out (by decide))); have n3_ := Aside0.mk (hb); have n4_ := Aside0.mk (ho); clear HO_27; clear BK1266; clear BK1267; clear HB; clear HO_10; have HO_27 := n0_; have BK1266 := n1_; have BK1267 := n2_; have HB := n3_; have HO1277 := n4_; clear n0_ n1_ n2_ n3_ n4_; clear ho hb hg hat))
     go_roundg k2
     case measure => have := HJ4.out; have := HK2.out; omega
     case rel => exact ⟨(y1275), (wrap64 (x29_2 + 1)), zau15, H', ⟨by have := HJ4.out; have := HK2.out; omega⟩, ⟨by (with_reducible repeat (first | apply Kd.R_alloc | apply Kd.R_drewN | apply Kd.R_drew)); exact HO1277.out⟩, ⟨by (with_reducible repeat (first | apply Kd.R_alloc | apply Kd.R_drewN | apply Kd.R_drew)); exact Kd.R_mono HO_27.out (fun _ hk => hk.2)⟩, ⟨zau6⟩, ⟨zau10⟩, ⟨zau2⟩⟩

/-! ### impl_CellsWithin: function 47 -/
mutual
def impl_CellsWithin.j0 : Nat → Int → Int → Bool → Int → Int → List Int → Int → Int → List Int → List (List Int) → Option (List Int × Bool)
 | 0, _, _, _, _, _, _, _, _, _, _ => none
 | k + 1, x2, x3, x32, x1287000, x1287001, x1287002, x1287003, x1287004, x1287005, x1287006 => if x32 = true then (some (([] : List Int), false)) else ((impl_graph_far.f k x1287000 x1287001 x1287002 x1287003 x1287004 x1287005 x1287006 x2).bind fun t1289 => (impl_CellsWithin.l0 k x3 ([] : List Int) t1289 (t1289.length : Int) 0))
def impl_CellsWithin.l0 : Nat → Int → List Int → List Int → Int → Int → Option (List Int × Bool)
 | 0, _, _, _, _, _ => none
 | k + 1, x3, x12, x35, x36, x37 => if x37 < x36 then (if 0 ≤ x37 then (if x37 < (x35.length : Int) then (if (rd x35 x37) ≥ 0 then (if (rd x35 x37) ≤ x3 then (if x12.length < 17592186044416 then (impl_CellsWithin.l0 k x3 (x12 ++ [x37]) x35 x36 (wrap64 (x37 + 1))) else (none)) else (impl_CellsWithin.l0 k x3 x12 x35 x36 (wrap64 (x37 + 1)))) else (impl_CellsWithin.l0 k x3 x12 x35 x36 (wrap64 (x37 + 1)))) else (none)) else (none)) else (some (x12, true))
end
def impl_CellsWithin.f (k : Nat) (a0_0 : Int) (a0_1 : Int) (l0_2 : List Int) (a1_0 : Int) (a1_1 : Int) (a2 : Int) (a3 : Int) : Option (List Int × Bool) := (impl_two.f k a0_0 a0_1 l0_2 a1_0 a1_1 a2 a2).bind fun bt1280 => (if bt1280.2.2 = true then (if a3 < 0 then (impl_CellsWithin.j0 k a2 a3 true a0_0 a0_1 l0_2 a1_0 a1_1 bt1280.1 bt1280.2.1) else (impl_CellsWithin.j0 k a2 a3 (decide (a3 > 12)) a0_0 a0_1 l0_2 a1_0 a1_1 bt1280.1 bt1280.2.1)) else (some (([] : List Int), false)))
set_option maxHeartbeats 8000000 in
set_option maxRecDepth 100000 in
theorem impl_CellsWithin.calls (k : Nat) (a0_0 : Int) (a0_1 : Int) (A0_2 : Option Addr) (c0_2 : Nat) (l0_2 : List Int) (a1_0 : Int) (a1_1 : Int) (a2 : Int) (a3 : Int) (r1 : List Int) (r2 : Bool) (w : World) (hr0_2 : Kd.C (Kd.int .i64) w A0_2 l0_2.length l0_2) (hc0_2 : l0_2.length ≤ c0_2) (h : impl_CellsWithin.f k a0_0 a0_1 l0_2 a1_0 a1_1 a2 a3 = some (r1, r2)) :
  Calls Try.prog 47 #[.agg #[.int .i64 a0_0, .int .i64 a0_1, .slice A0_2 l0_2.length c0_2], .agg #[.int .i64 a1_0, .int .i64 a1_1], .int .i64 a2, .int .i64 a3] w fun e w' => ∃ v0_ : Value, e = .returned (.tuple #[v0_, .bool r2]) ∧ Kd.R (Kd.int .i64) 3 w' w.heap.size (fun _ => True) v0_ r1 ∧ Below w.heap.size w w' := by
 have hu30 := Try.underlying30
 have hu32 := Try.underlying32
 have HR0_2 := Aside0.mk hr0_2
 have HC0_2 := Aside0.mk hc0_2
 clear hr0_2 hc0_2
 have HB := Aside0.mk (Below.refl w.heap.size w)
 have H : ((impl_two.f k a0_0 a0_1 l0_2 a1_0 a1_1 a2 a2).bind fun bt1280 => (if bt1280.2.2 = true then (if a3 < 0 then (impl_CellsWithin.j0 k a2 a3 true a0_0 a0_1 l0_2 a1_0 a1_1 bt1280.1 bt1280.2.1) else (impl_CellsWithin.j0 k a2 a3 (decide (a3 > 12)) a0_0 a0_1 l0_2 a1_0 a1_1 bt1280.1 bt1280.2.1)) else (some (([] : List Int), false)))) = some (r1, r2) := h
 clear h
 replace H := Option.bind_eq_some_iff.mp H
 obtain ⟨⟨t1280, t1283, t1288⟩, A50, H⟩ := H
 replace H : (if t1288 = true then (if a3 < 0 then (impl_CellsWithin.j0 k a2 a3 true a0_0 a0_1 l0_2 a1_0 a1_1 t1280 t1283) else (impl_CellsWithin.j0 k a2 a3 (decide (a3 > 12)) a0_0 a0_1 l0_2 a1_0 a1_1 t1280 t1283)) else (some (([] : List Int), false))) = some (r1, r2) := H
 have A5 := Aside0.mk A50
 clear A50
 by_cases c6 : t1288 = true
 rotate_left
 ·replace c6 := Bool.eq_false_iff.mpr c6
  subst c6
  have H1 : (some (([] : List Int), false)) = some (r1, r2) := by rw [if_neg (show ¬ (false = true) by decide)] at H; exact H
  clear H
  have H := H1
  clear H1
  simp only [Option.some.injEq, Prod.mk.injEq] at H
  obtain ⟨rfl, rfl⟩ := H
  go_enter Try.func47, Try.ntmps47
  go_wp2_with (first | ((with_reducible refine gate_dst (N := 4) rfl ?_); refine box_event ?hg (N := 4) ?hd (cs := #[.int .i64 a0_0, .int .i64 a0_1, .slice A0_2 l0_2.length c0_2]) (t := 30) ?hr ?_; (case hd => rfl); (case hg => rfl); (case hr => first | (go_simp; done) | (go_simp; rfl)); intro gb1278 hg w28 hbox hb; have n0_ := Aside0.mk (below_step zau7 hb); have n1_ := Aside0.mk (hbox); have n2_ := Aside0.mk ((zau24 : w.heap.size ≤ gb1278)); have n3_ := Aside0.mk ((zau24 : w.heap.size ≤ gb1278)); clear HB; have HB := n0_; have BK1278 := n1_; have GW1278 := n2_; have GE1278 := n3_; clear n0_ n1_ n2_ n3_; clear hb hbox hg) | ((with_reducible refine gate_dst (N := 5) rfl ?_); refine box_event ?hg (N := 5) ?hd (cs := #[.int .i64 a1_0, .int .i64 a1_1]) (t := 32) ?hr ?_; (case hd => rfl); (case hg => rfl); (case hr => first | (go_simp; done) | (go_simp; rfl)); intro gb1279 hg w29 hbox hb; have n0_ := Aside0.mk (blk_below (g := gb1278) (o := .cells #[.int .i64 a0_0, .int .i64 a0_1, .slice A0_2 l0_2.length c0_2] 30 (0, 0)) zau3 hb); have n1_ := Aside0.mk (below_step zau12 hb); have n2_ := Aside0.mk (hbox); have n3_ := Aside0.mk ((by rw [hg]; exact (below_size zau12) : w.heap.size ≤ gb1279)); have n4_ := Aside0.mk ((by rw [hg]; exact (below_size zau12) : w.heap.size ≤ gb1279)); have n5_ := Aside0.mk ((zau25 : gb1278 ≠ gb1279)); have n6_ := Aside0.mk ((zau26 : gb1279 ≠ gb1278)); clear BK1278; clear HB; have BK1278 := n0_; have HB := n1_; have BK1279 := n2_; have GW1279 := n3_; have GE1279 := n4_; have NB1278_1279 := n5_; have NB1279_1278 := n6_; clear n0_ n1_ n2_ n3_ n4_ n5_ n6_; clear hb hbox hg; have hnb30 := NB1278_1279.out; have hnc30 := NB1279_1278.out; have hcz31_0 : w29.cell? ⟨gb1278, 0, none⟩ = some (.int .i64 a0_0) := (blk_cell BK1278.out 0).trans rfl; have hcz31_1 : w29.cell? ⟨gb1278, 1, none⟩ = some (.int .i64 a0_1) := (blk_cell BK1278.out 1).trans rfl; have hcz31_2 : w29.cell? ⟨gb1278, 2, none⟩ = some (.slice A0_2 l0_2.length c0_2) := (blk_cell BK1278.out 2).trans rfl; have hfz31_0 := blk_frozen BK1278.out 0; have hfz31_1 := blk_frozen BK1278.out 1; have hfz31_2 := blk_frozen BK1278.out 2; have hcz32_0 : w29.cell? ⟨gb1279, 0, none⟩ = some (.int .i64 a1_0) := (blk_cell BK1279.out 0).trans rfl; have hcz32_1 : w29.cell? ⟨gb1279, 1, none⟩ = some (.int .i64 a1_1) := (blk_cell BK1279.out 1).trans rfl; have hfz32_0 := blk_frozen BK1279.out 0; have hfz32_1 := blk_frozen BK1279.out 1) | ((with_reducible refine gate_callee (f := 55) rfl ?_); refine goesL_ (some 20) rfl rfl Try.func55 (by kernel_rfl) rfl #[.agg #[.int .i64 a0_0, .int .i64 a0_1, .slice A0_2 l0_2.length c0_2], .agg #[.int .i64 a1_0, .int .i64 a1_1], .int .i64 a2, .int .i64 a2] rfl zau8 ?_; (with_reducible refine (impl_two.calls k a0_0 a0_1 _ _ l0_2 a1_0 a1_1 a2 a2 t1280 t1283 false _ ?side1 ?side2 A5.out).mono ?_); (case side1 => exact zau11); (case side2 => exact HC0_2.out); rintro e w33 ⟨v1281, v1284, pv1287, rfl, hgp, ho0, ho1, hb⟩; refine ⟨_, rfl, ?_⟩; obtain rfl := hgp.2 rfl; have n0_ := Aside0.mk (Kd.R_lower ho0 (below_size zau4)); have n1_ := Aside0.mk (Kd.S_lower ho1 (below_size zau4)); have n2_ := Aside0.mk (blk_below (g := gb1278) (o := .cells #[.int .i64 a0_0, .int .i64 a0_1, .slice A0_2 l0_2.length c0_2] 30 (0, 0)) zau3 hb); have n3_ := Aside0.mk (blk_below (g := gb1279) (o := .cells #[.int .i64 a1_0, .int .i64 a1_1] 32 (0, 0)) zau5 hb); have n4_ := Aside0.mk (below_step zau4 hb); clear BK1278; clear BK1279; clear HB; have HO1282 := n0_; have HO1285 := n1_; have BK1278 := n2_; have BK1279 := n3_; have HB := n4_; clear n0_ n1_ n2_ n3_ n4_; (try clear hb); (try clear hb2); (try clear hk); (try clear hi); (try clear ho0); (try clear ho1); (try clear hgp); (try clear hbox); (try clear hge); (try clear hna_); (try clear hnb_)))
  go_ret2
  exact ⟨_, zau17, zau13, zau4⟩
 subst c6
 have H1 : (if a3 < 0 then (impl_CellsWithin.j0 k a2 a3 true a0_0 a0_1 l0_2 a1_0 a1_1 t1280 t1283) else (impl_CellsWithin.j0 k a2 a3 (decide (a3 > 12)) a0_0 a0_1 l0_2 a1_0 a1_1 t1280 t1283)) = some (r1, r2) := by rw [if_pos rfl] at H; exact H
 clear H
 have H := H1
 clear H1
 have HC7 := Aside0.mk H
 clear H
 go_enter Try.func47, Try.ntmps47
 go_upto_region 2 with (first | ((with_reducible refine gate_dst (N := 4) rfl ?_); refine box_event ?hg (N := 4) ?hd (cs := #[.int .i64 a0_0, .int .i64 a0_1, .slice A0_2 l0_2.length c0_2]) (t := 30) ?hr ?_; (case hd => rfl); (case hg => rfl); (case hr => first | (go_simp; done) | (go_simp; rfl)); intro gb1278 hg w8 hbox hb; have n0_ := Aside0.mk (below_step zau7 hb); have n1_ := Aside0.mk (hbox); have n2_ := Aside0.mk ((zau24 : w.heap.size ≤ gb1278)); have n3_ := Aside0.mk ((zau24 : w.heap.size ≤ gb1278)); clear HB; have HB := n0_; have BK1278 := n1_; have GW1278 := n2_; have GE1278 := n3_; clear n0_ n1_ n2_ n3_; clear hb hbox hg) | ((with_reducible refine gate_dst (N := 5) rfl ?_); refine box_event ?hg (N := 5) ?hd (cs := #[.int .i64 a1_0, .int .i64 a1_1]) (t := 32) ?hr ?_; (case hd => rfl); (case hg => rfl); (case hr => first | (go_simp; done) | (go_simp; rfl)); intro gb1279 hg w9 hbox hb; have n0_ := Aside0.mk (blk_below (g := gb1278) (o := .cells #[.int .i64 a0_0, .int .i64 a0_1, .slice A0_2 l0_2.length c0_2] 30 (0, 0)) zau3 hb); have n1_ := Aside0.mk (below_step zau12 hb); have n2_ := Aside0.mk (hbox); have n3_ := Aside0.mk ((by rw [hg]; exact (below_size zau12) : w.heap.size ≤ gb1279)); have n4_ := Aside0.mk ((by rw [hg]; exact (below_size zau12) : w.heap.size ≤ gb1279)); have n5_ := Aside0.mk ((zau25 : gb1278 ≠ gb1279)); have n6_ := Aside0.mk ((zau26 : gb1279 ≠ gb1278)); clear BK1278; clear HB; have BK1278 := n0_; have HB := n1_; have BK1279 := n2_; have GW1279 := n3_; have GE1279 := n4_; have NB1278_1279 := n5_; have NB1279_1278 := n6_; clear n0_ n1_ n2_ n3_ n4_ n5_ n6_; clear hb hbox hg; have hnb10 := NB1278_1279.out; have hnc10 := NB1279_1278.out; have hcz11_0 : w9.cell? ⟨gb1278, 0, none⟩ = some (.int .i64 a0_0) := (blk_cell BK1278.out 0).trans rfl; have hcz11_1 : w9.cell? ⟨gb1278, 1, none⟩ = some (.int .i64 a0_1) := (blk_cell BK1278.out 1).trans rfl; have hcz11_2 : w9.cell? ⟨gb1278, 2, none⟩ = some (.slice A0_2 l0_2.length c0_2) := (blk_cell BK1278.out 2).trans rfl; have hfz11_0 := blk_frozen BK1278.out 0; have hfz11_1 := blk_frozen BK1278.out 1; have hfz11_2 := blk_frozen BK1278.out 2; have hcz12_0 : w9.cell? ⟨gb1279, 0, none⟩ = some (.int .i64 a1_0) := (blk_cell BK1279.out 0).trans rfl; have hcz12_1 : w9.cell? ⟨gb1279, 1, none⟩ = some (.int .i64 a1_1) := (blk_cell BK1279.out 1).trans rfl; have hfz12_0 := blk_frozen BK1279.out 0; have hfz12_1 := blk_frozen BK1279.out 1) | ((with_reducible refine gate_callee (f := 55) rfl ?_); refine goesL_ (some 20) rfl rfl Try.func55 (by kernel_rfl) rfl #[.agg #[.int .i64 a0_0, .int .i64 a0_1, .slice A0_2 l0_2.length c0_2], .agg #[.int .i64 a1_0, .int .i64 a1_1], .int .i64 a2, .int .i64 a2] rfl zau8 ?_; (with_reducible refine (impl_two.calls k a0_0 a0_1 _ _ l0_2 a1_0 a1_1 a2 a2 t1280 t1283 true _ ?side1 ?side2 A5.out).mono ?_); (case side1 => exact zau11); (case side2 => exact HC0_2.out); rintro e w13 ⟨v1281, v1284, pv1287, rfl, hgp, ho0, ho1, hb⟩; refine ⟨_, rfl, ?_⟩; obtain ⟨gb1286, rfl, hbox, hge⟩ := hgp.1 rfl; have n0_ := Aside0.mk (Kd.R_lower ho0 (below_size zau4)); have n1_ := Aside0.mk (Kd.S_lower ho1 (below_size zau4)); have n2_ := Aside0.mk (blk_below (g := gb1278) (o := .cells #[.int .i64 a0_0, .int .i64 a0_1, .slice A0_2 l0_2.length c0_2] 30 (0, 0)) zau3 hb); have n3_ := Aside0.mk (blk_below (g := gb1279) (o := .cells #[.int .i64 a1_0, .int .i64 a1_1] 32 (0, 0)) zau5 hb); have n4_ := Aside0.mk (hbox); have n5_ := Aside0.mk ((Nat.le_trans (by exact (below_size zau4)) hge : w.heap.size ≤ gb1286)); have n6_ := Aside0.mk ((Nat.le_trans (by exact (below_size zau4)) hge : w.heap.size ≤ gb1286)); have n7_ := Aside0.mk ((Nat.ne_of_lt (Nat.lt_of_lt_of_le (blk_lt (g := gb1278) (o := .cells #[.int .i64 a0_0, .int .i64 a0_1, .slice A0_2 l0_2.length c0_2] 30 (0, 0)) zau3) hge) : gb1278 ≠ gb1286)); have n8_ := Aside0.mk ((Nat.ne_of_gt (Nat.lt_of_lt_of_le (blk_lt (g := gb1278) (o := .cells #[.int .i64 a0_0, .int .i64 a0_1, .slice A0_2 l0_2.length c0_2] 30 (0, 0)) zau3) hge) : gb1286 ≠ gb1278)); have n9_ := Aside0.mk ((Nat.ne_of_lt (Nat.lt_of_lt_of_le (blk_lt (g := gb1279) (o := .cells #[.int .i64 a1_0, .int .i64 a1_1] 32 (0, 0)) zau5) hge) : gb1279 ≠ gb1286)); have n10_ := Aside0.mk ((Nat.ne_of_gt (Nat.lt_of_lt_of_le (blk_lt (g := gb1279) (o := .cells #[.int .i64 a1_0, .int .i64 a1_1] 32 (0, 0)) zau5) hge) : gb1286 ≠ gb1279)); have n11_ := Aside0.mk (below_step zau4 hb); clear BK1278; clear BK1279; clear HB; have HO1282 := n0_; have HO1285 := n1_; have BK1278 := n2_; have BK1279 := n3_; have BK1286 := n4_; have GW1286 := n5_; have GE1286 := n6_; have NB1278_1286 := n7_; have NB1286_1278 := n8_; have NB1279_1286 := n9_; have NB1286_1279 := n10_; have HB := n11_; clear n0_ n1_ n2_ n3_ n4_ n5_ n6_ n7_ n8_ n9_ n10_ n11_; (try clear hb); (try clear hb2); (try clear hk); (try clear hi); (try clear ho0); (try clear ho1); (try clear hgp); (try clear hbox); (try clear hge); (try clear hna_); (try clear hnb_)))
 (try simp only [Act.put, List.setIfInBounds_toArray, List.set_cons_zero, List.set_cons_succ])
 go_cut [32] (fun v32 wc => ∃ (kq : Nat) (x32_6 : Bool), v32 = .bool x32_6 ∧ Aside0 (impl_CellsWithin.j0 kq a2 a3 x32_6 a0_0 a0_1 l0_2 a1_0 a1_1 t1280 t1283 = some (r1, r2)) ∧ Aside0 (kq ≤ k) ∧ Aside0 (Kd.R (Kd.int .i64) 3 wc w.heap.size (fun _ => True) v1281 t1280) ∧ Aside0 (Kd.S (Kd.slice 3 (Kd.int .i64)) 22 wc w.heap.size (fun k_ => some k_ ≠ (v1281 : Value).ownBlock) v1284 t1283) ∧ Aside0 (wc.heap[gb1278]? = some (.cells #[.int .i64 a0_0, .int .i64 a0_1, (.slice A0_2 l0_2.length c0_2)] 30 (0, 0))) ∧ Aside0 (wc.heap[gb1279]? = some (.cells #[.int .i64 a1_0, .int .i64 a1_1] 32 (0, 0))) ∧ Aside0 (wc.heap[gb1286]? = some (.cells #[.int .i64 a0_0, .int .i64 a0_1, (.slice A0_2 l0_2.length c0_2), .int .i64 a1_0, .int .i64 a1_1, v1281, v1284] 60 (0, 0))) ∧ Aside0 (Below w.heap.size w wc))
 case first =>
  have H := HC7.out
  clear HC7
  by_cases c14 : a3 < 0
  ·rw [if_pos c14] at H
   have c14b0 : decide (a3 < 0) = true := decide_eq_true c14
   clear c14
   (first | rw [c14b0] | (simp only [i64_w, i32_w]; rw [c14b0]) | skip)
   have H' := Aside0.mk H
   clear H
   go_wp2
   go_meet
   case rel => exact ⟨_, (true), zau15, H', ⟨by first | omega | exact Nat.le_refl _⟩, ⟨by (with_reducible repeat (first | apply Kd.R_alloc | apply Kd.R_drewN | apply Kd.R_drew)); exact HO1282.out⟩, ⟨by (with_reducible repeat (first | apply Kd.S_alloc | apply Kd.S_drewN | apply Kd.S_drew)); exact HO1285.out⟩, ⟨zau3⟩, ⟨zau5⟩, ⟨zau9⟩, ⟨zau1⟩⟩
  rw [if_neg c14] at H
  have c14b0 : decide (a3 < 0) = false := decide_eq_false c14
  clear c14
  (first | rw [c14b0] | (simp only [i64_w, i32_w]; rw [c14b0]) | skip)
  have H' := Aside0.mk H
  clear H
  go_wp2
  go_meet
  case rel => exact ⟨_, (decide (a3 > 12)), zau15, H', ⟨by first | omega | exact Nat.le_refl _⟩, ⟨by (with_reducible repeat (first | apply Kd.R_alloc | apply Kd.R_drewN | apply Kd.R_drew)); exact HO1282.out⟩, ⟨by (with_reducible repeat (first | apply Kd.S_alloc | apply Kd.S_drewN | apply Kd.S_drew)); exact HO1285.out⟩, ⟨zau3⟩, ⟨zau5⟩, ⟨zau9⟩, ⟨zau1⟩⟩
 case rest =>
  clear HC7
  try clear c1; try clear p2; try clear c4; try clear c5; try clear c6; try clear c10; try clear c14; try clear c14b0; try clear hcz11_0; try clear hcz11_1; try clear hcz11_2; try clear hcz12_0; try clear hcz12_1; try clear hfz11_0; try clear hfz11_1; try clear hfz11_2; try clear hfz12_0; try clear hfz12_1
  obtain ⟨kq, x32_6, rfl, HA, HJ6, HO_1287005, HO_1287006, BK1278, BK1279, BK1286, HB⟩ := hcut
  cases kq with
  | zero => exact absurd HA.out (by simp [impl_CellsWithin.j0])
  | succ kj6 =>
   have H := HA.out
   clear HA
   simp only [impl_CellsWithin.j0] at H
   by_cases c15 : x32_6 = true
   ·subst c15
    have H1 : (some (([] : List Int), false)) = some (r1, r2) := by rw [if_pos rfl] at H; exact H
    clear H
    have H := H1
    clear H1
    simp only [Option.some.injEq, Prod.mk.injEq] at H
    obtain ⟨rfl, rfl⟩ := H
    go_wp2
    go_ret2
    exact ⟨_, zau17, zau13, zau1⟩
   replace c15 := Bool.eq_false_iff.mpr c15
   subst c15
   have H1 : ((impl_graph_far.f kj6 a0_0 a0_1 l0_2 a1_0 a1_1 t1280 t1283 a2).bind fun t1289 => (impl_CellsWithin.l0 kj6 a3 ([] : List Int) t1289 (t1289.length : Int) 0)) = some (r1, r2) := by rw [if_neg (show ¬ (false = true) by decide)] at H; exact H
   clear H
   have H := H1
   clear H1
   replace H := Option.bind_eq_some_iff.mp H
   obtain ⟨t1289, A160, H⟩ := H
   replace H : (impl_CellsWithin.l0 kj6 a3 ([] : List Int) t1289 (t1289.length : Int) 0) = some (r1, r2) := H
   have A16 := Aside0.mk A160
   clear A160
   have H' := Aside0.mk H
   clear H
   obtain ⟨Ao17, co17, eo17⟩ := Kd.R_slice HO_1287005.out
   subst eo17
   obtain ⟨Ao18, co18, eo18⟩ := Kd.S_slice HO_1287006.out
   subst eo18
   go_wp2_with (first | ((with_reducible refine gate_callee (f := 56) rfl ?_); refine goesL_ (some 35) rfl rfl Try.func56 (by kernel_rfl) rfl #[.pointer (some ⟨gb1286, 0, none⟩), .int .i64 a2] rfl zau8 ?_; (with_reducible refine (impl_graph_far.calls kj6 gb1286 a0_0 a0_1 A0_2 c0_2 l0_2 a1_0 a1_1 Ao17 co17 t1280 Ao18 co18 t1283 a2 t1289 _ ?side1 ?side2 ?side3 ?side4 ?side5 ?side6 ?side7 A16.out).mono ?_); (case side1 => exact zau9); (case side2 => exact zau11); (case side3 => exact HC0_2.out); (case side4 => repeat (first | exact (Kd.R_reads' HO_1287005.out).2.2 | (with_reducible refine Kd.C_alloc ?_ _) | (with_reducible refine Kd.C_drewN ?_ _) | (with_reducible refine Kd.C_drew ?_))); (case side5 => exact (Kd.R_reads' HO_1287005.out).2.1); (case side6 => repeat (first | exact (Kd.S_reads' HO_1287006.out).2.2 | (with_reducible refine Kd.C_alloc ?_ _) | (with_reducible refine Kd.C_drewN ?_ _) | (with_reducible refine Kd.C_drew ?_))); (case side7 => exact (Kd.S_reads' HO_1287006.out).2.1); rintro e w19 ⟨v1290, rfl, ho0, hb⟩; refine ⟨_, rfl, ?_⟩; have n0_ := Aside0.mk (Kd.R_elder' zau14 (Kd.R_base ho0) hb); have n1_ := Aside0.mk (Kd.S_elder' zau19 (Kd.R_base ho0) hb); have n2_ := Aside0.mk (Kd.R_lower (Kd.R_new' ho0 (Kd.R_lt zau14)) (below_size zau1)); have n3_ := Aside0.mk (blk_below (g := gb1278) (o := .cells #[.int .i64 a0_0, .int .i64 a0_1, .slice A0_2 l0_2.length c0_2] 30 (0, 0)) zau3 hb); have n4_ := Aside0.mk (blk_below (g := gb1279) (o := .cells #[.int .i64 a1_0, .int .i64 a1_1] 32 (0, 0)) zau5 hb); have n5_ := Aside0.mk (blk_below (g := gb1286) (o := .cells #[.int .i64 a0_0, .int .i64 a0_1, .slice A0_2 l0_2.length c0_2, .int .i64 a1_0, .int .i64 a1_1, .slice Ao17 t1280.length co17, .slice Ao18 t1283.length co18] 60 (0, 0)) zau9 hb); have n6_ := Aside0.mk (below_step zau1 hb); clear HO_1287005; clear HO_1287006; clear BK1278; clear BK1279; clear BK1286; clear HB; have HO_1287005 := n0_; have HO_1287006 := n1_; have HO1291 := n2_; have BK1278 := n3_; have BK1279 := n4_; have BK1286 := n5_; have HB := n6_; clear n0_ n1_ n2_ n3_ n4_ n5_ n6_; (try clear hb); (try clear hb2); (try clear hk); (try clear hi); (try clear ho0); (try clear hna_); (try clear hnb_); obtain ⟨Ao20, co20, eo20⟩ := Kd.R_slice HO1291.out; subst eo20))
   go_loopg [12, 37] kj6 (fun kq v12 v37 w' => ∃ (x12_2 : List Int) (x37_2 : Int), v37 = .int .i64 x37_2 ∧ Aside0 (impl_CellsWithin.l0 kq a3 x12_2 t1289 (t1289.length : Int) x37_2 = some (r1, r2)) ∧ Aside0 (kq ≤ kj6) ∧ Aside0 (Kd.R (Kd.int .i64) 3 w' w.heap.size (fun k_ => some k_ ≠ ((.slice Ao20 t1289.length co20) : Value).ownBlock ∧ some k_ ≠ ((.slice Ao17 t1280.length co17) : Value).ownBlock) v12 x12_2) ∧ Aside0 (Kd.R (Kd.int .i64) 3 w' w.heap.size (fun k_ => some k_ ≠ (v12 : Value).ownBlock ∧ some k_ ≠ ((.slice Ao17 t1280.length co17) : Value).ownBlock) (.slice Ao20 t1289.length co20) t1289) ∧ Aside0 (Kd.R (Kd.int .i64) 3 w' w.heap.size (fun k_ => some k_ ≠ (v12 : Value).ownBlock ∧ some k_ ≠ ((.slice Ao20 t1289.length co20) : Value).ownBlock) (.slice Ao17 t1280.length co17) t1280) ∧ Aside0 (Kd.S (Kd.slice 3 (Kd.int .i64)) 22 w' w.heap.size (fun k_ => some k_ ≠ (v12 : Value).ownBlock ∧ some k_ ≠ ((.slice Ao20 t1289.length co20) : Value).ownBlock ∧ some k_ ≠ ((.slice Ao17 t1280.length co17) : Value).ownBlock) (.slice Ao18 t1283.length co18) t1283) ∧ Aside0 (w'.heap[gb1278]? = some (.cells #[.int .i64 a0_0, .int .i64 a0_1, (.slice A0_2 l0_2.length c0_2)] 30 (0, 0))) ∧ Aside0 (w'.heap[gb1279]? = some (.cells #[.int .i64 a1_0, .int .i64 a1_1] 32 (0, 0))) ∧ Aside0 (w'.heap[gb1286]? = some (.cells #[.int .i64 a0_0, .int .i64 a0_1, (.slice A0_2 l0_2.length c0_2), .int .i64 a1_0, .int .i64 a1_1, (.slice Ao17 t1280.length co17), (.slice Ao18 t1283.length co18)] 60 (0, 0))) ∧ Aside0 (Below w.heap.size w w'))
   case atStart => exact ⟨(([] : List Int)), (0), zau15, H', ⟨Nat.le_refl _⟩, ⟨zau13⟩, ⟨by (with_reducible repeat (first | apply Kd.R_alloc | apply Kd.R_drewN | apply Kd.R_drew)); exact Kd.R_mono HO1291.out (fun _ hk => ⟨(by simp [Value.ownBlock]), hk.2⟩)⟩, ⟨by (with_reducible repeat (first | apply Kd.R_alloc | apply Kd.R_drewN | apply Kd.R_drew)); exact Kd.R_mono HO_1287005.out (fun _ hk => ⟨(by simp [Value.ownBlock]), hk.2⟩)⟩, ⟨by (with_reducible repeat (first | apply Kd.S_alloc | apply Kd.S_drewN | apply Kd.S_drew)); exact Kd.S_mono HO_1287006.out (fun _ hk => ⟨(by simp [Value.ownBlock]), ⟨hk.2, hk.1⟩⟩)⟩, ⟨zau3⟩, ⟨zau5⟩, ⟨zau9⟩, ⟨zau1⟩⟩
   case round =>
    clear H'
    try clear c1; try clear p2; try clear c4; try clear c5; try clear c6; try clear c10; try clear c14; try clear c14b0; try clear c15; try clear hcz11_0; try clear hcz11_1; try clear hcz11_2; try clear hcz12_0; try clear hcz12_1; try clear hfz11_0; try clear hfz11_1; try clear hfz11_2; try clear hfz12_0; try clear hfz12_1; try clear p2
    obtain ⟨x12_2, x37_2, rfl, HA, HK2, HO_12, HO_35, HO_1287005, HO_1287006, BK1278, BK1279, BK1286, HB⟩ := hrel
    cases gk with
    | zero => exact absurd HA.out (by simp [impl_CellsWithin.l0])
    | succ k2 =>
     have H := HA.out
     clear HA
     simp only [impl_CellsWithin.l0] at H
     by_cases c21 : x37_2 < (t1289.length : Int)
     rotate_left
     ·rw [if_neg c21] at H
      have c21b0 : decide (x37_2 < (t1289.length : Int)) = false := decide_eq_false c21
      clear c21
      simp only [Option.some.injEq, Prod.mk.injEq] at H
      obtain ⟨rfl, rfl⟩ := H
      go_wp2
      go_ret2
      exact ⟨_, zau17, by (with_reducible repeat (first | apply Kd.R_alloc | apply Kd.R_drewN | apply Kd.R_drew)); exact Kd.R_mono HO_12.out (fun _ hk => trivial), zau1⟩
     rw [if_pos c21] at H
     have c21b0 : decide (x37_2 < (t1289.length : Int)) = true := decide_eq_true c21
     clear c21
     by_cases c22 : 0 ≤ x37_2
     rotate_left
     ·rw [if_neg c22] at H
      exact absurd H (by simp)
     rw [if_pos c22] at H
     have c22b0 : decide (0 ≤ x37_2) = true := decide_eq_true c22
     clear c22
     by_cases c23 : x37_2 < (t1289.length : Int)
     rotate_left
     ·rw [if_neg c23] at H
      exact absurd H (by simp)
     rw [if_pos c23] at H
     have c23b0 : decide (x37_2 < (t1289.length : Int)) = true := decide_eq_true c23
     clear c23
     by_cases c24 : (rd t1289 x37_2) ≥ 0
     rotate_left
     ·rw [if_neg c24] at H
      have c24b0 : decide (0 ≤ (rd t1289 x37_2)) = false := decide_eq_false c24
      clear c24
      have H' := Aside0.mk H
      clear H
      have p1292 : 0 ≤ (x37_2 : Int) := of_decide_eq_true zau16
      have q1292 : x37_2 < (t1289.length : Int) := of_decide_eq_true zau16
      obtain ⟨ad1292, e1292, hx1292_0⟩ := Kd.at_int (Kd.R_reads' HO_35.out).2.2 x37_2 p1292 q1292
      cases e1292
      replace p1292 := eq_true p1292
      replace q1292 := eq_true q1292
      go_wp2
      go_roundg k2
      case measure => have := HJ6.out; have := HK2.out; omega
      case rel => exact ⟨(x12_2), (wrap64 (x37_2 + 1)), zau15, H', ⟨by have := HJ6.out; have := HK2.out; omega⟩, ⟨zau21⟩, ⟨zau20⟩, ⟨zau14⟩, ⟨zau19⟩, ⟨zau3⟩, ⟨zau5⟩, ⟨zau9⟩, ⟨zau1⟩⟩
     rw [if_pos c24] at H
     have c24b0 : decide (0 ≤ (rd t1289 x37_2)) = true := decide_eq_true c24
     clear c24
     by_cases c25 : (rd t1289 x37_2) ≤ a3
     rotate_left
     ·rw [if_neg c25] at H
      have c25b0 : decide ((rd t1289 x37_2) ≤ a3) = false := decide_eq_false c25
      clear c25
      have H' := Aside0.mk H
      clear H
      have p1292 : 0 ≤ (x37_2 : Int) := of_decide_eq_true zau16
      have q1292 : x37_2 < (t1289.length : Int) := of_decide_eq_true zau16
      obtain ⟨ad1292, e1292, hx1292_0⟩ := Kd.at_int (Kd.R_reads' HO_35.out).2.2 x37_2 p1292 q1292
      cases e1292
      replace p1292 := eq_true p1292
      replace q1292 := eq_true q1292
      go_wp2
      go_roundg k2
      case measure => have := HJ6.out; have := HK2.out; omega
      case rel => exact ⟨(x12_2), (wrap64 (x37_2 + 1)), zau15, H', ⟨by have := HJ6.out; have := HK2.out; omega⟩, ⟨zau21⟩, ⟨zau20⟩, ⟨zau14⟩, ⟨zau19⟩, ⟨zau3⟩, ⟨zau5⟩, ⟨zau9⟩, ⟨zau1⟩⟩
     rw [if_pos c25] at H
     have c25b0 : decide ((rd t1289 x37_2) ≤ a3) = true := decide_eq_true c25
     clear c25
     by_cases c26 : x12_2.length < 17592186044416
     rotate_left
     ·rw [if_neg c26] at H
      exact absurd H (by simp)
     rw [if_pos c26] at H
     have LMc26 := Aside0.mk c26
     clear c26
     obtain ⟨y1293, hy1293⟩ : ∃ y_ : List Int, y_ = (x12_2 ++ [x37_2]) := ⟨_, rfl⟩
     replace H : (impl_CellsWithin.l0 k2 a3 y1293 t1289 (t1289.length : Int) (wrap64 (x37_2 + 1))) = some (r1, r2) := by first | (rw [hy1293]; with_reducible exact H) | (have H2_ := (Option.bind_some _ _).symm.trans H; rw [hy1293]; with_reducible exact H2_) | (have H2_ := (Option.bind_some _ _).symm.trans H; with_reducible exact H2_) | with_reducible exact H | (rw [hy1293]; exact H) | exact H
     have Ny1293 := Aside0.mk hy1293
     clear hy1293
     have H' := Aside0.mk H
     clear H
     have p1292 : 0 ≤ (x37_2 : Int) := of_decide_eq_true zau16
     have q1292 : x37_2 < (t1289.length : Int) := of_decide_eq_true zau16
     obtain ⟨ad1292, e1292, hx1292_0⟩ := Kd.at_int (Kd.R_reads' HO_35.out).2.2 x37_2 p1292 q1292
     cases e1292
     replace p1292 := eq_true p1292
     replace q1292 := eq_true q1292
     go_wp2_with (first | ((with_reducible refine gate_builtin (b := .append) (xs := #[.tmp 49, .tmp 51]) rfl ?_); at_builtin; refine Kd.R_append (Kd.int .i64) (w0 := w) w.heap.size rfl (.tmp 49) (.tmp 51) 22 3 (.int .i64 0) 8 rfl Try.underlying22 info3 rfl (by decide) (by omega) u12 x12_2 x37_2 [.int .i64 x37_2] (fun k_ => some k_ ≠ (.slice (some ad1292) t1289.length co20 : Value).ownBlock ∧ some k_ ≠ (.slice Ao17 t1280.length co17 : Value).ownBlock) (fun _ => False) rfl rfl ?aP (fun _ hk => hk.elim) ?aF ?aO ?aB ?aS ?aL ?_; (case aP => exact rfl); (case aB => exact zau1); (case aF => exact (fun k_ hk => ⟨Kd.fresh' (Kd.R_lt zau20) k_ hk, Kd.fresh' (Kd.R_lt zau14) k_ hk⟩)); (case aO => exact zau21); (case aS => exact (below_size zau1)); (case aL => have := LMc26.out; omega); intro v1294 w27 ho hb hg hat; rw [← Ny1293.out] at ho; have n0_ := Aside0.mk (Kd.R_after (ok := (fun k_ => some k_ ≠ (.slice Ao17 t1280.length co17 : Value).ownBlock)) zau23 hg hat); have n1_ := Aside0.mk (Kd.R_after (ok := (fun k_ => some k_ ≠ (.slice (some ad1292) t1289.length co20 : Value).ownBlock)) zau22 hg hat); have n2_ := Aside0.mk (Kd.S_after (ok := (fun k_ => some k_ ≠ (.slice (some ad1292) t1289.length co20 : Value).ownBlock ∧ some k_ ≠ (.slice Ao17 t1280.length co17 : Value).ownBlock)) (by (with_reducible repeat (first | apply Kd.S_alloc | apply Kd.S_drewN | apply Kd.S_drew)); exact Kd.S_mono HO_1287006.out (fun _ hk => ⟨⟨hk.2.1, hk.2.2⟩, hk.1⟩)) hg hat); have n3_ := Aside0.mk (blk_grown (g := gb1278) (o := .cells #[.int .i64 a0_0, .int .i64 a0_1, .slice A0_2 l0_2.length c0_2] 30 (0, 0)) zau3 hg (Kd.R_ne HO_12.out BK1278.out (by decide))); have n4_ := Aside0.mk (blk_grown (g := gb1279) (o := .cells #[.int .i64 a1_0, .int .i64 a1_1] 32 (0, 0)) zau5 hg (Kd.R_ne HO_12.out BK1279.out (by decide))); have n5_ := Aside0.mk (blk_grown (g := gb1286) (o := .cells #[.int .i64 a0_0, .int .i64 a0_1, .slice A0_2 l0_2.length c0_2, .int .i64 a1_0, .int .i64 a1_1, .slice Ao17 t1280.length co17, .slice Ao18 t1283.length co18] 60 (0, 0)) zau9 hg (Kd.R_ne HO_12.out BK1286.out (by decide))); have n6_ := Aside0.mk (hb); have n7_ := Aside0.mk (ho); clear HO_35; clear HO_1287005; clear HO_1287006; clear BK1278; clear BK1279; clear BK1286; clear HB; clear HO_12; have HO_35 := n0_; have HO_1287005 := n1_; have HO_1287006 := n2_; have BK1278 := n3_; have BK1279 := n4_; have BK1286 := n5_; have HB := n6_; have HO1295 := n7_; clear n0_ n1_ n2_ n3_ n4_ n5_ n6_ n7_; clear ho hb hg hat))
     go_roundg k2
     case measure => have := HJ6.out; have := HK2.out; omega
     case rel => exact ⟨(y1293), (wrap64 (x37_2 + 1)), zau15, H', ⟨by have := HJ6.out; have := HK2.out; omega⟩, ⟨by (with_reducible repeat (first | apply Kd.R_alloc | apply Kd.R_drewN | apply Kd.R_drew)); exact HO1295.out⟩, ⟨zau23⟩, ⟨zau22⟩, ⟨by (with_reducible repeat (first | apply Kd.S_alloc | apply Kd.S_drewN | apply Kd.S_drew)); exact Kd.S_mono HO_1287006.out (fun _ hk => ⟨hk.2, ⟨hk.1.1, hk.1.2⟩⟩)⟩, ⟨zau3⟩, ⟨zau5⟩, ⟨zau9⟩, ⟨zau1⟩⟩

end Go.Proofs.Ythoklbeenjppbaa.Q

/- Written by a program of this session: functions of the translation as plain Lean functions, each with a proof that the call does what the plain function says; the conditions stand in each theorem. -/
import Derived.Test.YtjeongckkfkehaaQ0
import Derived.Test.YtjeongckkfkehaaQ1
import Derived.Test.YtjeongckkfkehaaQ2
import Derived.Test.YtjeongckkfkehaaQ5
import Derived.Test.YtjeongckkfkehaaQ25
import Derived.Test.YtjeongckkfkehaaQ26
namespace Go.Proofs.Ytjeongckkfkehaa.Q
open Go.RowKit Go.Proofs.YtjeongckkfkehaaW.PrintWords Go.Proofs.YtjeongckkfkehaaW.PrintLast Go.Proofs.YtjeongckkfkehaaW.PrintMore
attribute [local go_sem] max2_int min2_int max_two min_two max_three min_three max_four min_four   -- for this text's walks alone
set_option linter.unusedVariables false
set_option linter.unusedSimpArgs false

theorem zab1 {p : Prop} (h : p := by repeat (first | (with_reducible first | exact HB.out | apply below_alloc | apply pw_below_drewN | apply below_drew1 | refine below_set ?_ GE677.out | refine below_set ?_ GE678.out | refine below_set ?_ GE694.out) | exact HB.out)) : p := h
theorem zab2 {p : Prop} (h : p := by (with_reducible repeat (first | refine blk_drewN ?_ _ | refine blk_drew ?_ | refine blk_alloc ?_ _)); exact BK677.out) : p := h
theorem zab3 {p : Prop} (h : p := by repeat (first | (with_reducible first | exact HB.out | apply below_alloc | apply pw_below_drewN | apply below_drew1 | refine below_set ?_ GE677.out | refine below_set ?_ GE678.out) | exact HB.out)) : p := h
theorem zab5 {p : Prop} (h : p := by (with_reducible repeat (first | refine blk_drewN ?_ _ | refine blk_drew ?_ | refine blk_alloc ?_ _)); exact BK678.out) : p := h
theorem zab6 {p : Prop} (h : p := by (try simp only [List.map_toArray, List.map_cons, List.map_nil]); first | done | rfl | (simp only [List.length_drop, List.length_take]; rfl)) : p := h
theorem zab7 {p : Prop} (h : p := by repeat (first | exact (Kd.C_below HR0_2.out HB.out) | (with_reducible refine Kd.C_alloc ?_ _) | (with_reducible refine Kd.C_drewN ?_ _) | (with_reducible refine Kd.C_drew ?_))) : p := h
theorem zab8 {p : Prop} (h : p := by repeat (first | (with_reducible first | exact HB.out | apply below_alloc | apply pw_below_drewN | apply below_drew1 | refine below_set ?_ GE677.out) | exact HB.out)) : p := h
theorem zab9 {p : Prop} (h : p := by (with_reducible repeat (first | refine blk_drewN ?_ _ | refine blk_drew ?_ | refine blk_alloc ?_ _)); exact BK694.out) : p := h
theorem zab10 {p : Prop} (h : p := by repeat (first | (with_reducible first | exact HB.out | apply below_alloc | apply pw_below_drewN | apply below_drew1) | exact HB.out)) : p := h
theorem zab11 {p : Prop} (h : p := by (with_reducible repeat (first | apply Kd.R_alloc | apply Kd.R_drewN | apply Kd.R_drew)); exact HO684.out) : p := h
theorem zab12 {p : Prop} (h : p := by (with_reducible repeat (first | apply Kd.R_alloc | apply Kd.R_drewN | apply Kd.R_drew)); exact HO_695002.out) : p := h
theorem zab13 {p : Prop} (h : p := by first | rfl | (simp [errW_none, errW_some] <;> rfl) | (simp [*, errW_none, errW_some] <;> rfl)) : p := h
theorem zab14 {p : Prop} (h : p := by (with_reducible repeat (first | apply Kd.R_alloc | apply Kd.R_drewN | apply Kd.R_drew)); exact HO693.out) : p := h
theorem zab15 {p : Prop} (h : p := by repeat (first | exact (Kd.R_reads' HO_695002.out).2.2 | (with_reducible refine Kd.C_alloc ?_ _) | (with_reducible refine Kd.C_drewN ?_ _) | (with_reducible refine Kd.C_drew ?_))) : p := h
theorem zab16 {p : Prop} (h : p := by repeat (first | exact (Kd.R_reads' HO703.out).2.2 | (with_reducible refine Kd.C_alloc ?_ _) | (with_reducible refine Kd.C_drewN ?_ _) | (with_reducible refine Kd.C_drew ?_))) : p := h
theorem zab17 {p : Prop} (h : p := by (with_reducible repeat (first | apply Kd.R_alloc | apply Kd.R_drewN | apply Kd.R_drew)); exact Kd.R_mono HO693.out (fun _ hk => trivial)) : p := h
theorem zab18 {p : Prop} (h : p := by rw [hg]; exact Nat.ne_of_lt (blk_lt (g := gb677) (o := .cells #[.int .i64 a0_0, .int .i64 a0_1, .slice A0_2 l0_2.length c0_2] 24 (0, 0)) zab2)) : p := h
theorem zab19 {p : Prop} (h : p := by rw [hg]; exact Nat.ne_of_gt (blk_lt (g := gb677) (o := .cells #[.int .i64 a0_0, .int .i64 a0_1, .slice A0_2 l0_2.length c0_2] 24 (0, 0)) zab2)) : p := h
/-! ### laws_FnExactCountRoutes: function 6 -/
def laws_FnExactCountRoutes.j0 : Nat → Bool → Int → Int → List Int → Int → Int → List Int → Option (Bool)
 | 0, _, _, _, _, _, _, _ => none
 | k + 1, x48, x678000, x678001, x678002, x695000, x695001, x695002 => if x48 = true then (some false) else ((laws_toBoard.f k x678000 x678001 x678002).bind fun bt699 => ((laws_eqBoard.f k x695000 x695001 x695002 bt699.1 bt699.2.1 bt699.2.2).bind fun t704 => (if t704 = true then (some true) else (some false))))
def laws_FnExactCountRoutes.f (k : Nat) (a0_0 : Int) (a0_1 : Int) (l0_2 : List Int) (a1_0 : Int) (a1_1 : Int) (a2 : Int) (a3 : Int) : Option (Bool) := (laws_szBoard.f a0_0 a0_1 l0_2 1048576).bind fun t679 => (if t679 < 0 then (some true) else ((laws_toBoard.f k a0_0 a0_1 l0_2).bind fun bt680 => ((laws_toLeaper.f a1_0 a1_1).bind fun bt685 => ((spec_CountRoutes.f k bt680.1 bt680.2.1 bt680.2.2 bt685.1 bt685.2 a2 a3).bind fun bt687 => ((laws_toBoard.f k a0_0 a0_1 l0_2).bind fun bt689 => ((laws_toLeaper.f a1_0 a1_1).bind fun bt695 => ((impl_CountRoutes.f k bt689.1 bt689.2.1 bt689.2.2 bt695.1 bt695.2 a2 a3).bind fun bt697 => (if bt697.1 = bt687.1 then (laws_FnExactCountRoutes.j0 k (bt697.2 != bt687.2) a0_0 a0_1 l0_2 bt689.1 bt689.2.1 bt689.2.2) else (laws_FnExactCountRoutes.j0 k true a0_0 a0_1 l0_2 bt689.1 bt689.2.1 bt689.2.2)))))))))
def laws_FnExactCountRoutes.T5 : Bool × List (List Nat × List Nat) := (true, [([], []), ([0], [0]), ([], []), ([2, 1], [2]), ([], []), ([], []), ([1, 3, 4, 5, 3], [1, 3, 4, 5]), ([6], [6]), ([7], [7]), ([7], [7]), ([8, 6, 0, 1, 2, 3, 4, 5, 6, 7, 8], [8]), ([9, 10, 0, 1, 2, 3, 4, 5, 6, 7, 8, 9, 10], [9])])
def laws_FnExactCountRoutes.B5 : List Nat := [0, 1, 0, 7, 0, 0, 63, 127, 255, 255, 511, 2047]
theorem laws_FnExactCountRoutes.tab5 : rtab .any (opsOf Try.f6 5) = laws_FnExactCountRoutes.T5 := by kernel_rfl
theorem laws_FnExactCountRoutes.bits5 : waitsOk laws_FnExactCountRoutes.T5.2 laws_FnExactCountRoutes.B5 = true := by kernel_rfl
def laws_FnExactCountRoutes.T7 : Bool × List (List Nat × List Nat) := (true, [([], []), ([], []), ([1], [1]), ([], []), ([], []), ([0, 2, 3, 4, 2], [0, 2, 3, 4]), ([5], [5]), ([6], [6]), ([6], [6]), ([7, 5, 0, 1, 2, 3, 4, 5, 6, 7], [7]), ([8, 9, 0, 1, 2, 3, 4, 5, 6, 7, 8, 9], [8])])
def laws_FnExactCountRoutes.B7 : List Nat := [0, 0, 2, 0, 0, 31, 63, 127, 127, 255, 1023]
theorem laws_FnExactCountRoutes.tab7 : rtab .any (opsOf Try.f6 7) = laws_FnExactCountRoutes.T7 := by kernel_rfl
theorem laws_FnExactCountRoutes.bits7 : waitsOk laws_FnExactCountRoutes.T7.2 laws_FnExactCountRoutes.B7 = true := by kernel_rfl
set_option maxHeartbeats 8000000 in
set_option maxRecDepth 100000 in
theorem laws_FnExactCountRoutes.calls (k : Nat) (a0_0 : Int) (a0_1 : Int) (A0_2 : Option Addr) (c0_2 : Nat) (l0_2 : List Int) (a1_0 : Int) (a1_1 : Int) (a2 : Int) (a3 : Int) (r : Bool) (w : World) (hr0_2 : Kd.C (Kd.int .i64) w A0_2 l0_2.length l0_2) (hc0_2 : l0_2.length ≤ c0_2) (h : laws_FnExactCountRoutes.f k a0_0 a0_1 l0_2 a1_0 a1_1 a2 a3 = some r) :
  Calls Try.prog 6 #[.agg #[.int .i64 a0_0, .int .i64 a0_1, .slice A0_2 l0_2.length c0_2], .agg #[.int .i64 a1_0, .int .i64 a1_1], .int .i64 a2, .int .i64 a3] w fun e w' => e = .returned (.bool r) ∧ Below w.heap.size w w' := by
 have hu24 := Try.underlying24
 have hu26 := Try.underlying26
 have hu30 := Try.underlying30
 have HR0_2 := Aside0.mk hr0_2
 have HC0_2 := Aside0.mk hc0_2
 clear hr0_2 hc0_2
 have HB := Aside0.mk (Below.refl w.heap.size w)
 have H : ((laws_szBoard.f a0_0 a0_1 l0_2 1048576).bind fun t679 => (if t679 < 0 then (some true) else ((laws_toBoard.f k a0_0 a0_1 l0_2).bind fun bt680 => ((laws_toLeaper.f a1_0 a1_1).bind fun bt685 => ((spec_CountRoutes.f k bt680.1 bt680.2.1 bt680.2.2 bt685.1 bt685.2 a2 a3).bind fun bt687 => ((laws_toBoard.f k a0_0 a0_1 l0_2).bind fun bt689 => ((laws_toLeaper.f a1_0 a1_1).bind fun bt695 => ((impl_CountRoutes.f k bt689.1 bt689.2.1 bt689.2.2 bt695.1 bt695.2 a2 a3).bind fun bt697 => (if bt697.1 = bt687.1 then (laws_FnExactCountRoutes.j0 k (bt697.2 != bt687.2) a0_0 a0_1 l0_2 bt689.1 bt689.2.1 bt689.2.2) else (laws_FnExactCountRoutes.j0 k true a0_0 a0_1 l0_2 bt689.1 bt689.2.1 bt689.2.2)))))))))) = some r := h
 clear h
 replace H := Option.bind_eq_some_iff.mp H
 obtain ⟨t679, A50, H⟩ := H
 replace H : (if t679 < 0 then (some true) else ((laws_toBoard.f k a0_0 a0_1 l0_2).bind fun bt680 => ((laws_toLeaper.f a1_0 a1_1).bind fun bt685 => ((spec_CountRoutes.f k bt680.1 bt680.2.1 bt680.2.2 bt685.1 bt685.2 a2 a3).bind fun bt687 => ((laws_toBoard.f k a0_0 a0_1 l0_2).bind fun bt689 => ((laws_toLeaper.f a1_0 a1_1).bind fun bt695 => ((impl_CountRoutes.f k bt689.1 bt689.2.1 bt689.2.2 bt695.1 bt695.2 a2 a3).bind fun bt697 => (if bt697.1 = bt687.1 then (laws_FnExactCountRoutes.j0 k (bt697.2 != bt687.2) a0_0 a0_1 l0_2 bt689.1 bt689.2.1 bt689.2.2) else (laws_FnExactCountRoutes.j0 k true a0_0 a0_1 l0_2 bt689.1 bt689.2.1 bt689.2.2))))))))) = some r := H
 have A5 := Aside0.mk A50
 clear A50
 by_cases c6 : t679 < 0
 ·rw [if_pos c6] at H
  have c6b0 : decide (t679 < 0) = true := decide_eq_true c6
  clear c6
  obtain rfl := Option.some.inj H
  go_enter Try.func6, Try.ntmps6
  go_wp2_with (first | ((with_reducible refine gate_dst (N := 4) rfl ?_); refine box_event ?hg (N := 4) ?hd (cs := #[.int .i64 a0_0, .int .i64 a0_1, .slice A0_2 l0_2.length c0_2]) (t := 24) ?hr ?_; (case hd => rfl); (case hg => rfl); (case hr => first | (go_simp; done) | (go_simp; rfl)); intro gb677 hg w7 hbox hb; have n0_ := Aside0.mk (below_step zab10 hb); have n1_ := Aside0.mk (hbox); have n2_ := Aside0.mk ((by rw [hg]; exact (below_size zab10) : w.heap.size ≤ gb677)); have n3_ := Aside0.mk ((by rw [hg]; exact (below_size zab10) : w.heap.size ≤ gb677)); clear HB; have HB := n0_; have BK677 := n1_; have GW677 := n2_; have GE677 := n3_; clear n0_ n1_ n2_ n3_; clear hb hbox hg) | ((with_reducible refine gate_dst (N := 5) rfl ?_); refine box_event ?hg (N := 5) ?hd (cs := #[.int .i64 a1_0, .int .i64 a1_1]) (t := 26) ?hr ?_; (case hd => rfl); (case hg => rfl); (case hr => first | (go_simp; done) | (go_simp; rfl)); intro gb678 hg w8 hbox hb; have n0_ := Aside0.mk (blk_below (g := gb677) (o := .cells #[.int .i64 a0_0, .int .i64 a0_1, .slice A0_2 l0_2.length c0_2] 24 (0, 0)) zab2 hb); have n1_ := Aside0.mk (below_step zab8 hb); have n2_ := Aside0.mk (hbox); have n3_ := Aside0.mk ((by rw [hg]; exact (below_size zab8) : w.heap.size ≤ gb678)); have n4_ := Aside0.mk ((by rw [hg]; exact (below_size zab8) : w.heap.size ≤ gb678)); have n5_ := Aside0.mk ((zab18 : gb677 ≠ gb678)); have n6_ := Aside0.mk ((zab19 : gb678 ≠ gb677)); clear BK677; clear HB; have BK677 := n0_; have HB := n1_; have BK678 := n2_; have GW678 := n3_; have GE678 := n4_; have NB677_678 := n5_; have NB678_677 := n6_; clear n0_ n1_ n2_ n3_ n4_ n5_ n6_; clear hb hbox hg; have hnb9 := NB677_678.out; have hnc9 := NB678_677.out; have hcz10_0 : w8.cell? ⟨gb677, 0, none⟩ = some (.int .i64 a0_0) := (blk_cell BK677.out 0).trans rfl; have hcz10_1 : w8.cell? ⟨gb677, 1, none⟩ = some (.int .i64 a0_1) := (blk_cell BK677.out 1).trans rfl; have hcz10_2 : w8.cell? ⟨gb677, 2, none⟩ = some (.slice A0_2 l0_2.length c0_2) := (blk_cell BK677.out 2).trans rfl; have hfz10_0 := blk_frozen BK677.out 0; have hfz10_1 := blk_frozen BK677.out 1; have hfz10_2 := blk_frozen BK677.out 2) | ((with_reducible refine gate_callee (f := 15) rfl ?_); refine goesL_ (some 17) rfl rfl Try.func15 (by kernel_rfl) rfl #[.agg #[.int .i64 a0_0, .int .i64 a0_1, .slice A0_2 l0_2.length c0_2], .int .i64 1048576] rfl zab6 ?_; (with_reducible refine (laws_szBoard.calls a0_0 a0_1 _ _ l0_2 1048576 t679 _ ?side1 ?side2 A5.out).mono ?_); (case side1 => exact zab7); (case side2 => exact HC0_2.out); rintro e w11 ⟨rfl, hb⟩; refine ⟨_, rfl, ?_⟩; have n0_ := Aside0.mk (blk_below (g := gb677) (o := .cells #[.int .i64 a0_0, .int .i64 a0_1, .slice A0_2 l0_2.length c0_2] 24 (0, 0)) zab2 hb); have n1_ := Aside0.mk (blk_below (g := gb678) (o := .cells #[.int .i64 a1_0, .int .i64 a1_1] 26 (0, 0)) zab5 hb); have n2_ := Aside0.mk (below_step zab3 hb); clear BK677; clear BK678; clear HB; have BK677 := n0_; have BK678 := n1_; have HB := n2_; clear n0_ n1_ n2_; (try clear hb); (try clear hb2); (try clear hk); (try clear hi); (try clear hna_); (try clear hnb_)))
  go_ret
  exact ⟨zab13, zab3⟩
 rw [if_neg c6] at H
 have c6b0 : decide (t679 < 0) = false := decide_eq_false c6
 clear c6
 replace H := Option.bind_eq_some_iff.mp H
 obtain ⟨⟨t680, t681, t682⟩, A120, H⟩ := H
 replace H : ((laws_toLeaper.f a1_0 a1_1).bind fun bt685 => ((spec_CountRoutes.f k t680 t681 t682 bt685.1 bt685.2 a2 a3).bind fun bt687 => ((laws_toBoard.f k a0_0 a0_1 l0_2).bind fun bt689 => ((laws_toLeaper.f a1_0 a1_1).bind fun bt695 => ((impl_CountRoutes.f k bt689.1 bt689.2.1 bt689.2.2 bt695.1 bt695.2 a2 a3).bind fun bt697 => (if bt697.1 = bt687.1 then (laws_FnExactCountRoutes.j0 k (bt697.2 != bt687.2) a0_0 a0_1 l0_2 bt689.1 bt689.2.1 bt689.2.2) else (laws_FnExactCountRoutes.j0 k true a0_0 a0_1 l0_2 bt689.1 bt689.2.1 bt689.2.2))))))) = some r := H
 have A12 := Aside0.mk A120
 clear A120
 replace H := Option.bind_eq_some_iff.mp H
 obtain ⟨⟨t685, t686⟩, A130, H⟩ := H
 replace H : ((spec_CountRoutes.f k t680 t681 t682 t685 t686 a2 a3).bind fun bt687 => ((laws_toBoard.f k a0_0 a0_1 l0_2).bind fun bt689 => ((laws_toLeaper.f a1_0 a1_1).bind fun bt695 => ((impl_CountRoutes.f k bt689.1 bt689.2.1 bt689.2.2 bt695.1 bt695.2 a2 a3).bind fun bt697 => (if bt697.1 = bt687.1 then (laws_FnExactCountRoutes.j0 k (bt697.2 != bt687.2) a0_0 a0_1 l0_2 bt689.1 bt689.2.1 bt689.2.2) else (laws_FnExactCountRoutes.j0 k true a0_0 a0_1 l0_2 bt689.1 bt689.2.1 bt689.2.2)))))) = some r := H
 have A13 := Aside0.mk A130
 clear A130
 replace H := Option.bind_eq_some_iff.mp H
 obtain ⟨⟨t687, t688⟩, A140, H⟩ := H
 replace H : ((laws_toBoard.f k a0_0 a0_1 l0_2).bind fun bt689 => ((laws_toLeaper.f a1_0 a1_1).bind fun bt695 => ((impl_CountRoutes.f k bt689.1 bt689.2.1 bt689.2.2 bt695.1 bt695.2 a2 a3).bind fun bt697 => (if bt697.1 = t687 then (laws_FnExactCountRoutes.j0 k (bt697.2 != t688) a0_0 a0_1 l0_2 bt689.1 bt689.2.1 bt689.2.2) else (laws_FnExactCountRoutes.j0 k true a0_0 a0_1 l0_2 bt689.1 bt689.2.1 bt689.2.2))))) = some r := H
 have A14 := Aside0.mk A140
 clear A140
 replace H := Option.bind_eq_some_iff.mp H
 obtain ⟨⟨t689, t690, t691⟩, A150, H⟩ := H
 replace H : ((laws_toLeaper.f a1_0 a1_1).bind fun bt695 => ((impl_CountRoutes.f k t689 t690 t691 bt695.1 bt695.2 a2 a3).bind fun bt697 => (if bt697.1 = t687 then (laws_FnExactCountRoutes.j0 k (bt697.2 != t688) a0_0 a0_1 l0_2 t689 t690 t691) else (laws_FnExactCountRoutes.j0 k true a0_0 a0_1 l0_2 t689 t690 t691)))) = some r := H
 have A15 := Aside0.mk A150
 clear A150
 replace H := Option.bind_eq_some_iff.mp H
 obtain ⟨⟨t695, t696⟩, A160, H⟩ := H
 replace H : ((impl_CountRoutes.f k t689 t690 t691 t695 t696 a2 a3).bind fun bt697 => (if bt697.1 = t687 then (laws_FnExactCountRoutes.j0 k (bt697.2 != t688) a0_0 a0_1 l0_2 t689 t690 t691) else (laws_FnExactCountRoutes.j0 k true a0_0 a0_1 l0_2 t689 t690 t691))) = some r := H
 have A16 := Aside0.mk A160
 clear A160
 replace H := Option.bind_eq_some_iff.mp H
 obtain ⟨⟨t697, t698⟩, A170, H⟩ := H
 replace H : (if t697 = t687 then (laws_FnExactCountRoutes.j0 k (t698 != t688) a0_0 a0_1 l0_2 t689 t690 t691) else (laws_FnExactCountRoutes.j0 k true a0_0 a0_1 l0_2 t689 t690 t691)) = some r := H
 have A17 := Aside0.mk A170
 clear A170
 have HC18 := Aside0.mk H
 clear H
 go_enter Try.func6, Try.ntmps6
 try go_wp2_with (first | ((with_reducible refine gate_dst (N := 4) rfl ?_); refine box_event ?hg (N := 4) ?hd (cs := #[.int .i64 a0_0, .int .i64 a0_1, .slice A0_2 l0_2.length c0_2]) (t := 24) ?hr ?_; (case hd => rfl); (case hg => rfl); (case hr => first | (go_simp; done) | (go_simp; rfl)); intro gb677 hg w19 hbox hb; have n0_ := Aside0.mk (below_step zab10 hb); have n1_ := Aside0.mk (hbox); have n2_ := Aside0.mk ((by rw [hg]; exact (below_size zab10) : w.heap.size ≤ gb677)); have n3_ := Aside0.mk ((by rw [hg]; exact (below_size zab10) : w.heap.size ≤ gb677)); clear HB; have HB := n0_; have BK677 := n1_; have GW677 := n2_; have GE677 := n3_; clear n0_ n1_ n2_ n3_; clear hb hbox hg) | ((with_reducible refine gate_dst (N := 5) rfl ?_); refine box_event ?hg (N := 5) ?hd (cs := #[.int .i64 a1_0, .int .i64 a1_1]) (t := 26) ?hr ?_; (case hd => rfl); (case hg => rfl); (case hr => first | (go_simp; done) | (go_simp; rfl)); intro gb678 hg w20 hbox hb; have n0_ := Aside0.mk (blk_below (g := gb677) (o := .cells #[.int .i64 a0_0, .int .i64 a0_1, .slice A0_2 l0_2.length c0_2] 24 (0, 0)) zab2 hb); have n1_ := Aside0.mk (below_step zab8 hb); have n2_ := Aside0.mk (hbox); have n3_ := Aside0.mk ((by rw [hg]; exact (below_size zab8) : w.heap.size ≤ gb678)); have n4_ := Aside0.mk ((by rw [hg]; exact (below_size zab8) : w.heap.size ≤ gb678)); have n5_ := Aside0.mk ((zab18 : gb677 ≠ gb678)); have n6_ := Aside0.mk ((zab19 : gb678 ≠ gb677)); clear BK677; clear HB; have BK677 := n0_; have HB := n1_; have BK678 := n2_; have GW678 := n3_; have GE678 := n4_; have NB677_678 := n5_; have NB678_677 := n6_; clear n0_ n1_ n2_ n3_ n4_ n5_ n6_; clear hb hbox hg; have hnb21 := NB677_678.out; have hnc21 := NB678_677.out; have hcz22_0 : w20.cell? ⟨gb677, 0, none⟩ = some (.int .i64 a0_0) := (blk_cell BK677.out 0).trans rfl; have hcz22_1 : w20.cell? ⟨gb677, 1, none⟩ = some (.int .i64 a0_1) := (blk_cell BK677.out 1).trans rfl; have hcz22_2 : w20.cell? ⟨gb677, 2, none⟩ = some (.slice A0_2 l0_2.length c0_2) := (blk_cell BK677.out 2).trans rfl; have hfz22_0 := blk_frozen BK677.out 0; have hfz22_1 := blk_frozen BK677.out 1; have hfz22_2 := blk_frozen BK677.out 2) | ((with_reducible refine gate_callee (f := 15) rfl ?_); refine goesL_ (some 17) rfl rfl Try.func15 (by kernel_rfl) rfl #[.agg #[.int .i64 a0_0, .int .i64 a0_1, .slice A0_2 l0_2.length c0_2], .int .i64 1048576] rfl zab6 ?_; (with_reducible refine (laws_szBoard.calls a0_0 a0_1 _ _ l0_2 1048576 t679 _ ?side1 ?side2 A5.out).mono ?_); (case side1 => exact zab7); (case side2 => exact HC0_2.out); rintro e w23 ⟨rfl, hb⟩; refine ⟨_, rfl, ?_⟩; have n0_ := Aside0.mk (blk_below (g := gb677) (o := .cells #[.int .i64 a0_0, .int .i64 a0_1, .slice A0_2 l0_2.length c0_2] 24 (0, 0)) zab2 hb); have n1_ := Aside0.mk (blk_below (g := gb678) (o := .cells #[.int .i64 a1_0, .int .i64 a1_1] 26 (0, 0)) zab5 hb); have n2_ := Aside0.mk (below_step zab3 hb); clear BK677; clear BK678; clear HB; have BK677 := n0_; have BK678 := n1_; have HB := n2_; clear n0_ n1_ n2_; (try clear hb); (try clear hb2); (try clear hk); (try clear hi); (try clear hna_); (try clear hnb_)))
 have n0_ := Aside0.mk (blk_drew BK677.out)
 have n1_ := Aside0.mk (blk_drew BK678.out)
 have n2_ := Aside0.mk (below_drew1 HB.out)
 clear BK677
 clear BK678
 clear HB
 have BK677 := n0_
 have BK678 := n1_
 have HB := n2_
 clear n0_ n1_ n2_
 refine start_ (n := 12) (S := fun w' => w'.cell? ⟨gb677, 0, none⟩ = some (.int .i64 a0_0) ∧ w'.cell? ⟨gb677, 1, none⟩ = some (.int .i64 a0_1) ∧ w'.cell? ⟨gb677, 2, none⟩ = some (.slice A0_2 l0_2.length c0_2) ∧ w'.cell? ⟨gb678, 0, none⟩ = some (.int .i64 a1_0) ∧ w'.cell? ⟨gb678, 1, none⟩ = some (.int .i64 a1_1)) (ds := []) #[false, false, false, false, false, false, false, false, false, false, false, false] (by kernel_rfl) rfl rfl ⟨(blk_cell BK677.out 0).trans rfl, (blk_cell BK677.out 1).trans rfl, (blk_cell BK677.out 2).trans rfl, (blk_cell BK678.out 0).trans rfl, (blk_cell BK678.out 1).trans rfl⟩ (fun hHeld => ?_); refine with_tabW laws_FnExactCountRoutes.tab5 laws_FnExactCountRoutes.bits5 (fun HT_ HW_ => ?_)
 generalize w23.drew = w24 at BK677 BK678 HB hHeld ⊢
 refine pure_ (i := 4) (N := some 25) (v := ?_) (a' := ?_) #[false, false, false, false, true, false, false, false, false, false, false, false] rfl rfl (any_of HT_.out (by kernel_rfl)) (fun _ _ _ h => h) (Or.inl ⟨by rfl, ?_⟩) ?_ ?_
 rotate_left
 ·intro w'
  go_simp
  with_reducible rfl
 rotate_left
 ·simp only [Act.put, List.setIfInBounds_toArray, List.set_cons_zero, List.set_cons_succ, i64_w, i32_w]
  rfl
 refine pure_ (i := 5) (N := some 26) (v := ?_) (a' := ?_) #[false, false, false, false, true, true, false, false, false, false, false, false] rfl rfl (any_of HT_.out (by kernel_rfl)) (fun _ _ _ h => h) (Or.inl ⟨by rfl, ?_⟩) ?_ ?_
 rotate_left
 ·intro w'
  go_simp
  with_reducible rfl
 rotate_left
 ·simp only [Act.put, List.setIfInBounds_toArray, List.set_cons_zero, List.set_cons_succ, i64_w, i32_w]
  rfl
 refine take_ (i := 0) (N := some 21) (v := ?_) (a' := ?_) #[true, false, false, false, true, true, false, false, false, false, false, false] rfl rfl (take_ofW HT_.out HW_.out (by kernel_rfl)) (fun _ _ _ h => h) (Or.inl ⟨by rfl, ?_⟩) hHeld ?_ ?_
 rotate_left
 ·rintro w' ⟨s0, s1, s2, s3, s4⟩
  go_simp
  with_reducible rfl
 rotate_left
 ·simp only [Act.put, List.setIfInBounds_toArray, List.set_cons_zero, List.set_cons_succ, i64_w, i32_w]
  rfl
 refine take_ (i := 2) (N := some 23) (v := ?_) (a' := ?_) #[true, false, true, false, true, true, false, false, false, false, false, false] rfl rfl (take_ofW HT_.out HW_.out (by kernel_rfl)) (fun _ _ _ h => h) (Or.inl ⟨by rfl, ?_⟩) hHeld ?_ ?_
 rotate_left
 ·rintro w' ⟨s0, s1, s2, s3, s4⟩
  go_simp
  with_reducible rfl
 rotate_left
 ·simp only [Act.put, List.setIfInBounds_toArray, List.set_cons_zero, List.set_cons_succ, i64_w, i32_w]
  rfl
 refine one_ (i := 1) (N := some 22) #[true, true, true, false, true, true, false, false, false, false, false, false] rfl rfl (one_of HT_.out (by kernel_rfl)) (by decide) (fun K hK => ?_)
 refine goes_ Try.func17 (by kernel_rfl) rfl #[.agg #[.int .i64 a0_0, .int .i64 a0_1, .slice A0_2 l0_2.length c0_2]] (by rfl) rfl rfl zab6 ?_
 with_reducible refine (laws_toBoard.calls k a0_0 a0_1 _ _ l0_2 t680 t681 t682 _ ?side1 ?side2 A12.out).mono ?_
 (case side1 => exact zab7)
 (case side2 => exact HC0_2.out)
 rintro e w25 ⟨v683, rfl, ho0, hb⟩
 refine ⟨_, rfl, ?_⟩
 have n0_ := Aside0.mk (Kd.R_lower ho0 (below_size zab3))
 have n1_ := Aside0.mk (blk_below (g := gb677) (o := .cells #[.int .i64 a0_0, .int .i64 a0_1, .slice A0_2 l0_2.length c0_2] 24 (0, 0)) zab2 hb)
 have n2_ := Aside0.mk (blk_below (g := gb678) (o := .cells #[.int .i64 a1_0, .int .i64 a1_1] 26 (0, 0)) zab5 hb)
 have n3_ := Aside0.mk (below_step zab3 hb)
 clear BK677
 clear BK678
 clear HB
 have HO684 := n0_
 have BK677 := n1_
 have BK678 := n2_
 have HB := n3_
 clear n0_ n1_ n2_ n3_
 (try clear hb)
 (try clear hb2)
 (try clear hk)
 (try clear hi)
 (try clear ho0)
 (try clear hna_)
 (try clear hnb_)
 refine hK.out _ _ ⟨(blk_cell BK677.out 0).trans rfl, (blk_cell BK677.out 1).trans rfl, (blk_cell BK677.out 2).trans rfl, (blk_cell BK678.out 0).trans rfl, (blk_cell BK678.out 1).trans rfl⟩ (fun hHeld => ?_)
 clear hK K
 refine norm_ (a' := ?_) ?_ ?_
 rotate_left
 ·show Act.put _ (some 22) _ = _
  simp only [Act.put, List.setIfInBounds_toArray, List.set_cons_zero, List.set_cons_succ, i64_w, i32_w]
  rfl
 refine one_ (i := 3) (N := some 24) #[true, true, true, true, true, true, false, false, false, false, false, false] rfl rfl (one_of HT_.out (by kernel_rfl)) (by decide) (fun K hK => ?_)
 refine goes_ Try.func18 (by kernel_rfl) rfl #[.agg #[.int .i64 a1_0, .int .i64 a1_1]] (by rfl) rfl rfl zab6 ?_
 with_reducible refine (laws_toLeaper.calls a1_0 a1_1 t685 t686 _ A13.out).mono ?_
 rintro e w26 ⟨rfl, hb⟩
 refine ⟨_, rfl, ?_⟩
 have n0_ := Aside0.mk (Kd.R_below zab11 hb)
 have n1_ := Aside0.mk (blk_below (g := gb677) (o := .cells #[.int .i64 a0_0, .int .i64 a0_1, .slice A0_2 l0_2.length c0_2] 24 (0, 0)) zab2 hb)
 have n2_ := Aside0.mk (blk_below (g := gb678) (o := .cells #[.int .i64 a1_0, .int .i64 a1_1] 26 (0, 0)) zab5 hb)
 have n3_ := Aside0.mk (below_step zab3 hb)
 clear HO684
 clear BK677
 clear BK678
 clear HB
 have HO684 := n0_
 have BK677 := n1_
 have BK678 := n2_
 have HB := n3_
 clear n0_ n1_ n2_ n3_
 (try clear hb)
 (try clear hb2)
 (try clear hk)
 (try clear hi)
 (try clear hna_)
 (try clear hnb_)
 obtain ⟨Ao27, co27, eo27⟩ := Kd.R_slice HO684.out
 (first | subst eo27 | (injection eo27 with f1_ f2_ f3_; have f4_ := f1_.symm; have f5_ := f3_.symm; clear f1_ f2_ f3_; subst f4_; subst f5_))
 refine hK.out _ _ ⟨(blk_cell BK677.out 0).trans rfl, (blk_cell BK677.out 1).trans rfl, (blk_cell BK677.out 2).trans rfl, (blk_cell BK678.out 0).trans rfl, (blk_cell BK678.out 1).trans rfl⟩ (fun hHeld => ?_)
 clear hK K
 refine norm_ (a' := ?_) ?_ ?_
 rotate_left
 ·show Act.put _ (some 24) _ = _
  simp only [Act.put, List.setIfInBounds_toArray, List.set_cons_zero, List.set_cons_succ, i64_w, i32_w]
  rfl
 refine one_ (i := 6) (N := some 27) #[true, true, true, true, true, true, true, false, false, false, false, false] rfl rfl (one_of HT_.out (by kernel_rfl)) (by decide) (fun K hK => ?_)
 refine goes_ Try.func30 (by kernel_rfl) rfl #[.agg #[.int .i64 t680, .int .i64 t681, .slice Ao27 t682.length co27], .agg #[.int .i64 t685, .int .i64 t686], .int .i64 a2, .int .i64 a3] (by rfl) rfl rfl zab6 ?_
 with_reducible refine (spec_CountRoutes.calls k t680 t681 _ _ t682 t685 t686 a2 a3 t687 t688 _ ?side1 ?side2 A14.out).mono ?_
 (case side1 => repeat (first | exact (Kd.R_reads' HO684.out).2.2 | (with_reducible refine Kd.C_alloc ?_ _) | (with_reducible refine Kd.C_drewN ?_ _) | (with_reducible refine Kd.C_drew ?_)))
 (case side2 => exact (Kd.R_reads' HO684.out).2.1)
 rintro e w28 ⟨rfl, hb⟩
 refine ⟨_, rfl, ?_⟩
 have n0_ := Aside0.mk (Kd.R_below zab11 hb)
 have n1_ := Aside0.mk (blk_below (g := gb677) (o := .cells #[.int .i64 a0_0, .int .i64 a0_1, .slice A0_2 l0_2.length c0_2] 24 (0, 0)) zab2 hb)
 have n2_ := Aside0.mk (blk_below (g := gb678) (o := .cells #[.int .i64 a1_0, .int .i64 a1_1] 26 (0, 0)) zab5 hb)
 have n3_ := Aside0.mk (below_step zab3 hb)
 clear HO684
 clear BK677
 clear BK678
 clear HB
 have HO684 := n0_
 have BK677 := n1_
 have BK678 := n2_
 have HB := n3_
 clear n0_ n1_ n2_ n3_
 (try clear hb)
 (try clear hb2)
 (try clear hk)
 (try clear hi)
 (try clear hna_)
 (try clear hnb_)
 refine hK.out _ _ ⟨(blk_cell BK677.out 0).trans rfl, (blk_cell BK677.out 1).trans rfl, (blk_cell BK677.out 2).trans rfl, (blk_cell BK678.out 0).trans rfl, (blk_cell BK678.out 1).trans rfl⟩ (fun hHeld => ?_)
 clear hK K
 refine norm_ (a' := ?_) ?_ ?_
 rotate_left
 ·show Act.put _ (some 27) _ = _
  simp only [Act.put, List.setIfInBounds_toArray, List.set_cons_zero, List.set_cons_succ, i64_w, i32_w]
  rfl
 refine pure_ (i := 7) (N := some 20) (v := ?_) (a' := ?_) #[true, true, true, true, true, true, true, true, false, false, false, false] rfl rfl (any_of HT_.out (by kernel_rfl)) (fun _ _ _ h => h) (Or.inl ⟨by rfl, ?_⟩) ?_ ?_
 rotate_left
 ·intro w'
  go_simp
  with_reducible rfl
 rotate_left
 ·simp only [Act.put, List.setIfInBounds_toArray, List.set_cons_zero, List.set_cons_succ, i64_w, i32_w]
  rfl
 refine pure_ (i := 8) (N := some 28) (v := ?_) (a' := ?_) #[true, true, true, true, true, true, true, true, true, false, false, false] rfl rfl (any_of HT_.out (by kernel_rfl)) (fun _ _ _ h => h) (Or.inl ⟨by rfl, ?_⟩) ?_ ?_
 rotate_left
 ·intro w'
  go_simp
  with_reducible rfl
 rotate_left
 ·simp only [Act.put, List.setIfInBounds_toArray, List.set_cons_zero, List.set_cons_succ, i64_w, i32_w]
  rfl
 refine pure_ (i := 9) (N := some 29) (v := ?_) (a' := ?_) #[true, true, true, true, true, true, true, true, true, true, false, false] rfl rfl (any_of HT_.out (by kernel_rfl)) (fun _ _ _ h => h) (Or.inl ⟨by rfl, ?_⟩) ?_ ?_
 rotate_left
 ·intro w'
  go_simp
  with_reducible rfl
 rotate_left
 ·simp only [Act.put, List.setIfInBounds_toArray, List.set_cons_zero, List.set_cons_succ, i64_w, i32_w]
  rfl
 refine pure_ (i := 10) (N := some 10) (v := ?_) (a' := ?_) #[true, true, true, true, true, true, true, true, true, true, true, false] rfl rfl (any_of HT_.out (by kernel_rfl)) (fun _ _ _ h => h) (Or.inl ⟨by rfl, ?_⟩) ?_ ?_
 rotate_left
 ·intro w'
  go_simp
  with_reducible rfl
 rotate_left
 ·simp only [Act.put, List.setIfInBounds_toArray, List.set_cons_zero, List.set_cons_succ, i64_w, i32_w]
  rfl
 refine pure_ (i := 11) (N := some 11) (v := ?_) (a' := ?_) #[true, true, true, true, true, true, true, true, true, true, true, true] rfl rfl (any_of HT_.out (by kernel_rfl)) (fun _ _ _ h => h) (Or.inl ⟨by rfl, ?_⟩) ?_ ?_
 rotate_left
 ·intro w'
  go_simp
  with_reducible rfl
 rotate_left
 ·simp only [Act.put, List.setIfInBounds_toArray, List.set_cons_zero, List.set_cons_succ, i64_w, i32_w]
  rfl
 refine done_ (done_of HT_.out (by kernel_rfl)) ?_
 have hcz29_0 : w28.cell? ⟨gb677, 0, none⟩ = some (.int .i64 a0_0) := (blk_cell BK677.out 0).trans rfl
 have hcz29_1 : w28.cell? ⟨gb677, 1, none⟩ = some (.int .i64 a0_1) := (blk_cell BK677.out 1).trans rfl
 have hcz29_2 : w28.cell? ⟨gb677, 2, none⟩ = some (.slice A0_2 l0_2.length c0_2) := (blk_cell BK677.out 2).trans rfl
 have hfz29_0 := blk_frozen BK677.out 0
 have hfz29_1 := blk_frozen BK677.out 1
 have hfz29_2 := blk_frozen BK677.out 2
 try go_wp2_with (first | ((with_reducible refine gate_callee (f := 17) rfl ?_); refine goesL_ (some 31) rfl rfl Try.func17 (by kernel_rfl) rfl #[.agg #[.int .i64 a0_0, .int .i64 a0_1, .slice A0_2 l0_2.length c0_2]] rfl zab6 ?_; (with_reducible refine (laws_toBoard.calls k a0_0 a0_1 _ _ l0_2 t689 t690 t691 _ ?side1 ?side2 A15.out).mono ?_); (case side1 => exact zab7); (case side2 => exact HC0_2.out); rintro e w30 ⟨v692, rfl, ho0, hb⟩; refine ⟨_, rfl, ?_⟩; have n0_ := Aside0.mk (Kd.R_elder' zab11 (Kd.R_base ho0) hb); have n1_ := Aside0.mk (Kd.R_lower (Kd.R_new' ho0 (Kd.R_lt zab11)) (below_size zab3)); have n2_ := Aside0.mk (blk_below (g := gb677) (o := .cells #[.int .i64 a0_0, .int .i64 a0_1, .slice A0_2 l0_2.length c0_2] 24 (0, 0)) zab2 hb); have n3_ := Aside0.mk (blk_below (g := gb678) (o := .cells #[.int .i64 a1_0, .int .i64 a1_1] 26 (0, 0)) zab5 hb); have n4_ := Aside0.mk (below_step zab3 hb); clear HO684; clear BK677; clear BK678; clear HB; have HO684 := n0_; have HO693 := n1_; have BK677 := n2_; have BK678 := n3_; have HB := n4_; clear n0_ n1_ n2_ n3_ n4_; (try clear hb); (try clear hb2); (try clear hk); (try clear hi); (try clear ho0); (try clear hna_); (try clear hnb_)) | ((with_reducible refine gate_dst (N := 12) rfl ?_); refine box_event ?hg (N := 12) ?hd (cs := #[.int .i64 0, .int .i64 0, .slice none 0 0]) (t := 30) ?hr ?_; (case hd => rfl); (case hg => rfl); (case hr => first | (go_simp; done) | (go_simp; rfl)); intro gb694 hg w31 hbox hb; have n0_ := Aside0.mk (Kd.R_below zab11 hb); have n1_ := Aside0.mk (Kd.R_below zab14 hb); have n2_ := Aside0.mk (blk_below (g := gb677) (o := .cells #[.int .i64 a0_0, .int .i64 a0_1, .slice A0_2 l0_2.length c0_2] 24 (0, 0)) zab2 hb); have n3_ := Aside0.mk (blk_below (g := gb678) (o := .cells #[.int .i64 a1_0, .int .i64 a1_1] 26 (0, 0)) zab5 hb); have n4_ := Aside0.mk (below_step zab3 hb); have n5_ := Aside0.mk (hbox); have n6_ := Aside0.mk ((by rw [hg]; exact (below_size zab3) : w.heap.size ≤ gb694)); have n7_ := Aside0.mk ((by rw [hg]; exact (below_size zab3) : w.heap.size ≤ gb694)); have n8_ := Aside0.mk ((zab18 : gb677 ≠ gb694)); have n9_ := Aside0.mk ((zab19 : gb694 ≠ gb677)); have n10_ := Aside0.mk ((by rw [hg]; exact Nat.ne_of_lt (blk_lt (g := gb678) (o := .cells #[.int .i64 a1_0, .int .i64 a1_1] 26 (0, 0)) zab5) : gb678 ≠ gb694)); have n11_ := Aside0.mk ((by rw [hg]; exact Nat.ne_of_gt (blk_lt (g := gb678) (o := .cells #[.int .i64 a1_0, .int .i64 a1_1] 26 (0, 0)) zab5) : gb694 ≠ gb678)); clear HO684; clear HO693; clear BK677; clear BK678; clear HB; have HO684 := n0_; have HO693 := n1_; have BK677 := n2_; have BK678 := n3_; have HB := n4_; have BK694 := n5_; have GW694 := n6_; have GE694 := n7_; have NB677_694 := n8_; have NB694_677 := n9_; have NB678_694 := n10_; have NB694_678 := n11_; clear n0_ n1_ n2_ n3_ n4_ n5_ n6_ n7_ n8_ n9_ n10_ n11_; clear hb hbox hg; have hnb32 := NB694_677.out; have hnc32 := NB677_694.out; have hnb33 := NB694_678.out; have hnc33 := NB678_694.out; have hcz34_0 : w31.cell? ⟨gb694, 0, none⟩ = some (.int .i64 0) := (blk_cell BK694.out 0).trans rfl; have hcz34_1 : w31.cell? ⟨gb694, 1, none⟩ = some (.int .i64 0) := (blk_cell BK694.out 1).trans rfl; have hcz34_2 : w31.cell? ⟨gb694, 2, none⟩ = some (.slice none 0 0) := (blk_cell BK694.out 2).trans rfl; have hfz34_0 := blk_frozen BK694.out 0; have hfz34_1 := blk_frozen BK694.out 1; have hfz34_2 := blk_frozen BK694.out 2; obtain ⟨Ao35, co35, eo35⟩ := Kd.R_slice HO693.out; subst eo35))
 have n0_ : Aside0 (Kd.R (Kd.int .i64) 3 (((w31.setCell ⟨gb694, 0, none⟩ (.int .i64 t689)).setCell ⟨gb694, 1, none⟩ (.int .i64 t690)).setCell ⟨gb694, 2, none⟩ (.slice Ao35 t691.length co35)) w.heap.size (fun k_ => some k_ ≠ (.slice Ao35 t691.length co35 : Value).ownBlock) (.slice Ao27 t682.length co27) t682) := ⟨by (with_reducible repeat (first | apply Kd.R_alloc | apply Kd.R_drewN | apply Kd.R_drew)); exact Kd.R_mono (Kd.R_far (p := ⟨gb694, 2, none⟩) (Kd.R_far (p := ⟨gb694, 1, none⟩) (Kd.R_far (p := ⟨gb694, 0, none⟩) (Kd.R_types HO684.out BK694.out (by decide)) (fun _ hk => hk.2) (.int .i64 t689)) (fun _ hk => hk.2) (.int .i64 t690)) (fun _ hk => hk.2) (.slice Ao35 t691.length co35)) (fun _ hk => hk.1.2)⟩
 have n1_ : Aside0 (Kd.R (Kd.int .i64) 3 (((w31.setCell ⟨gb694, 0, none⟩ (.int .i64 t689)).setCell ⟨gb694, 1, none⟩ (.int .i64 t690)).setCell ⟨gb694, 2, none⟩ (.slice Ao35 t691.length co35)) w.heap.size (fun k_ => some k_ ≠ (.slice Ao27 t682.length co27 : Value).ownBlock) (.slice Ao35 t691.length co35) t691) := ⟨by (with_reducible repeat (first | apply Kd.R_alloc | apply Kd.R_drewN | apply Kd.R_drew)); exact Kd.R_mono (Kd.R_far (p := ⟨gb694, 2, none⟩) (Kd.R_far (p := ⟨gb694, 1, none⟩) (Kd.R_far (p := ⟨gb694, 0, none⟩) (Kd.R_types HO693.out BK694.out (by decide)) (fun _ hk => hk.2) (.int .i64 t689)) (fun _ hk => hk.2) (.int .i64 t690)) (fun _ hk => hk.2) (.slice Ao35 t691.length co35)) (fun _ hk => hk.1.2)⟩
 have n2_ : Aside0 ((((w31.setCell ⟨gb694, 0, none⟩ (.int .i64 t689)).setCell ⟨gb694, 1, none⟩ (.int .i64 t690)).setCell ⟨gb694, 2, none⟩ (.slice Ao35 t691.length co35)).heap[gb677]? = some (.cells #[.int .i64 a0_0, .int .i64 a0_1, .slice A0_2 l0_2.length c0_2] 24 (0, 0))) := ⟨by (with_reducible repeat (first | refine blk_drewN ?_ _ | refine blk_drew ?_ | refine blk_alloc ?_ _)); refine blk_far ?_ NB677_694.out _; (with_reducible repeat (first | refine blk_drewN ?_ _ | refine blk_drew ?_ | refine blk_alloc ?_ _)); refine blk_far ?_ NB677_694.out _; (with_reducible repeat (first | refine blk_drewN ?_ _ | refine blk_drew ?_ | refine blk_alloc ?_ _)); refine blk_far ?_ NB677_694.out _; (with_reducible repeat (first | refine blk_drewN ?_ _ | refine blk_drew ?_ | refine blk_alloc ?_ _)); exact BK677.out⟩
 have n3_ : Aside0 ((((w31.setCell ⟨gb694, 0, none⟩ (.int .i64 t689)).setCell ⟨gb694, 1, none⟩ (.int .i64 t690)).setCell ⟨gb694, 2, none⟩ (.slice Ao35 t691.length co35)).heap[gb678]? = some (.cells #[.int .i64 a1_0, .int .i64 a1_1] 26 (0, 0))) := ⟨by (with_reducible repeat (first | refine blk_drewN ?_ _ | refine blk_drew ?_ | refine blk_alloc ?_ _)); refine blk_far ?_ NB678_694.out _; (with_reducible repeat (first | refine blk_drewN ?_ _ | refine blk_drew ?_ | refine blk_alloc ?_ _)); refine blk_far ?_ NB678_694.out _; (with_reducible repeat (first | refine blk_drewN ?_ _ | refine blk_drew ?_ | refine blk_alloc ?_ _)); refine blk_far ?_ NB678_694.out _; (with_reducible repeat (first | refine blk_drewN ?_ _ | refine blk_drew ?_ | refine blk_alloc ?_ _)); exact BK678.out⟩
 have n4_ : Aside0 ((((w31.setCell ⟨gb694, 0, none⟩ (.int .i64 t689)).setCell ⟨gb694, 1, none⟩ (.int .i64 t690)).setCell ⟨gb694, 2, none⟩ (.slice Ao35 t691.length co35)).heap[gb694]? = some (.cells #[.int .i64 t689, .int .i64 t690, .slice Ao35 t691.length co35] 30 (0, 0))) := ⟨by (with_reducible repeat (first | refine blk_drewN ?_ _ | refine blk_drew ?_ | refine blk_alloc ?_ _)); refine blk_put (cs := #[.int .i64 t689, .int .i64 t690, .slice none 0 0]) ?_ 2 _ rfl; (with_reducible repeat (first | refine blk_drewN ?_ _ | refine blk_drew ?_ | refine blk_alloc ?_ _)); refine blk_put (cs := #[.int .i64 t689, .int .i64 0, .slice none 0 0]) ?_ 1 _ rfl; (with_reducible repeat (first | refine blk_drewN ?_ _ | refine blk_drew ?_ | refine blk_alloc ?_ _)); refine blk_put (cs := #[.int .i64 0, .int .i64 0, .slice none 0 0]) ?_ 0 _ rfl; (with_reducible repeat (first | refine blk_drewN ?_ _ | refine blk_drew ?_ | refine blk_alloc ?_ _)); exact BK694.out⟩
 have n5_ : Aside0 (Below w.heap.size w (((w31.setCell ⟨gb694, 0, none⟩ (.int .i64 t689)).setCell ⟨gb694, 1, none⟩ (.int .i64 t690)).setCell ⟨gb694, 2, none⟩ (.slice Ao35 t691.length co35))) := ⟨zab1⟩
 (try clear HO684)
 (try clear HO693)
 (try clear BK677)
 (try clear BK678)
 (try clear BK694)
 (try clear HB)
 generalize (((w31.setCell ⟨gb694, 0, none⟩ (.int .i64 t689)).setCell ⟨gb694, 1, none⟩ (.int .i64 t690)).setCell ⟨gb694, 2, none⟩ (.slice Ao35 t691.length co35)) = w36 at n0_ n1_ n2_ n3_ n4_ n5_ ⊢
 have HO684 := n0_
 have HO693 := n1_
 have BK677 := n2_
 have BK678 := n3_
 have BK694 := n4_
 have HB := n5_
 clear n0_ n1_ n2_ n3_ n4_ n5_
 have n0_ := Aside0.mk (Kd.R_drew HO684.out)
 have n1_ := Aside0.mk (Kd.R_drew HO693.out)
 have n2_ := Aside0.mk (blk_drew BK677.out)
 have n3_ := Aside0.mk (blk_drew BK678.out)
 have n4_ := Aside0.mk (blk_drew BK694.out)
 have n5_ := Aside0.mk (below_drew1 HB.out)
 clear HO684
 clear HO693
 clear BK677
 clear BK678
 clear BK694
 clear HB
 have HO684 := n0_
 have HO693 := n1_
 have BK677 := n2_
 have BK678 := n3_
 have BK694 := n4_
 have HB := n5_
 clear n0_ n1_ n2_ n3_ n4_ n5_
 refine start_ (n := 11) (S := fun w' => w'.cell? ⟨gb694, 0, none⟩ = some (.int .i64 t689) ∧ w'.cell? ⟨gb694, 1, none⟩ = some (.int .i64 t690) ∧ w'.cell? ⟨gb694, 2, none⟩ = some (.slice Ao35 t691.length co35) ∧ w'.cell? ⟨gb678, 0, none⟩ = some (.int .i64 a1_0) ∧ w'.cell? ⟨gb678, 1, none⟩ = some (.int .i64 a1_1)) (ds := []) #[false, false, false, false, false, false, false, false, false, false, false] (by kernel_rfl) rfl rfl ⟨(blk_cell BK694.out 0).trans rfl, (blk_cell BK694.out 1).trans rfl, (blk_cell BK694.out 2).trans rfl, (blk_cell BK678.out 0).trans rfl, (blk_cell BK678.out 1).trans rfl⟩ (fun hHeld => ?_); refine with_tabW laws_FnExactCountRoutes.tab7 laws_FnExactCountRoutes.bits7 (fun HT_ HW_ => ?_)
 generalize w36.drew = w37 at HO684 HO693 BK677 BK678 BK694 HB hHeld ⊢
 refine pure_ (i := 3) (N := some 36) (v := ?_) (a' := ?_) #[false, false, false, true, false, false, false, false, false, false, false] rfl rfl (any_of HT_.out (by kernel_rfl)) (fun _ _ _ h => h) (Or.inl ⟨by rfl, ?_⟩) ?_ ?_
 rotate_left
 ·intro w'
  go_simp
  with_reducible rfl
 rotate_left
 ·simp only [Act.put, List.setIfInBounds_toArray, List.set_cons_zero, List.set_cons_succ, i64_w, i32_w]
  rfl
 refine pure_ (i := 4) (N := some 37) (v := ?_) (a' := ?_) #[false, false, false, true, true, false, false, false, false, false, false] rfl rfl (any_of HT_.out (by kernel_rfl)) (fun _ _ _ h => h) (Or.inl ⟨by rfl, ?_⟩) ?_ ?_
 rotate_left
 ·intro w'
  go_simp
  with_reducible rfl
 rotate_left
 ·simp only [Act.put, List.setIfInBounds_toArray, List.set_cons_zero, List.set_cons_succ, i64_w, i32_w]
  rfl
 refine take_ (i := 0) (N := some 33) (v := ?_) (a' := ?_) #[true, false, false, true, true, false, false, false, false, false, false] rfl rfl (take_ofW HT_.out HW_.out (by kernel_rfl)) (fun _ _ _ h => h) (Or.inl ⟨by rfl, ?_⟩) hHeld ?_ ?_
 rotate_left
 ·rintro w' ⟨s0, s1, s2, s3, s4⟩
  go_simp
  with_reducible rfl
 rotate_left
 ·simp only [Act.put, List.setIfInBounds_toArray, List.set_cons_zero, List.set_cons_succ, i64_w, i32_w]
  rfl
 refine take_ (i := 1) (N := some 34) (v := ?_) (a' := ?_) #[true, true, false, true, true, false, false, false, false, false, false] rfl rfl (take_ofW HT_.out HW_.out (by kernel_rfl)) (fun _ _ _ h => h) (Or.inl ⟨by rfl, ?_⟩) hHeld ?_ ?_
 rotate_left
 ·rintro w' ⟨s0, s1, s2, s3, s4⟩
  go_simp
  with_reducible rfl
 rotate_left
 ·simp only [Act.put, List.setIfInBounds_toArray, List.set_cons_zero, List.set_cons_succ, i64_w, i32_w]
  rfl
 refine one_ (i := 2) (N := some 35) #[true, true, true, true, true, false, false, false, false, false, false] rfl rfl (one_of HT_.out (by kernel_rfl)) (by decide) (fun K hK => ?_)
 refine goes_ Try.func18 (by kernel_rfl) rfl #[.agg #[.int .i64 a1_0, .int .i64 a1_1]] (by rfl) rfl rfl zab6 ?_
 with_reducible refine (laws_toLeaper.calls a1_0 a1_1 t695 t696 _ A16.out).mono ?_
 rintro e w38 ⟨rfl, hb⟩
 refine ⟨_, rfl, ?_⟩
 have n0_ := Aside0.mk (Kd.R_below zab11 hb)
 have n1_ := Aside0.mk (Kd.R_below zab14 hb)
 have n2_ := Aside0.mk (blk_below (g := gb677) (o := .cells #[.int .i64 a0_0, .int .i64 a0_1, .slice A0_2 l0_2.length c0_2] 24 (0, 0)) zab2 hb)
 have n3_ := Aside0.mk (blk_below (g := gb678) (o := .cells #[.int .i64 a1_0, .int .i64 a1_1] 26 (0, 0)) zab5 hb)
 have n4_ := Aside0.mk (blk_below (g := gb694) (o := .cells #[.int .i64 t689, .int .i64 t690, .slice Ao35 t691.length co35] 30 (0, 0)) zab9 hb)
 have n5_ := Aside0.mk (below_step zab1 hb)
 clear HO684
 clear HO693
 clear BK677
 clear BK678
 clear BK694
 clear HB
 have HO684 := n0_
 have HO693 := n1_
 have BK677 := n2_
 have BK678 := n3_
 have BK694 := n4_
 have HB := n5_
 clear n0_ n1_ n2_ n3_ n4_ n5_
 (try clear hb)
 (try clear hb2)
 (try clear hk)
 (try clear hi)
 (try clear hna_)
 (try clear hnb_)
 refine hK.out _ _ ⟨(blk_cell BK694.out 0).trans rfl, (blk_cell BK694.out 1).trans rfl, (blk_cell BK694.out 2).trans rfl, (blk_cell BK678.out 0).trans rfl, (blk_cell BK678.out 1).trans rfl⟩ (fun hHeld => ?_)
 clear hK K
 refine norm_ (a' := ?_) ?_ ?_
 rotate_left
 ·show Act.put _ (some 35) _ = _
  simp only [Act.put, List.setIfInBounds_toArray, List.set_cons_zero, List.set_cons_succ, i64_w, i32_w]
  rfl
 refine one_ (i := 5) (N := some 38) #[true, true, true, true, true, true, false, false, false, false, false] rfl rfl (one_of HT_.out (by kernel_rfl)) (by decide) (fun K hK => ?_)
 refine goes_ Try.func31 (by kernel_rfl) rfl #[.agg #[.int .i64 t689, .int .i64 t690, .slice Ao35 t691.length co35], .agg #[.int .i64 t695, .int .i64 t696], .int .i64 a2, .int .i64 a3] (by rfl) rfl rfl zab6 ?_
 with_reducible refine (impl_CountRoutes.calls k t689 t690 _ _ t691 t695 t696 a2 a3 t697 t698 _ ?side1 ?side2 A17.out).mono ?_
 (case side1 => repeat (first | exact (Kd.R_reads' HO693.out).2.2 | (with_reducible refine Kd.C_alloc ?_ _) | (with_reducible refine Kd.C_drewN ?_ _) | (with_reducible refine Kd.C_drew ?_)))
 (case side2 => exact (Kd.R_reads' HO693.out).2.1)
 rintro e w39 ⟨rfl, hb⟩
 refine ⟨_, rfl, ?_⟩
 have n0_ := Aside0.mk (Kd.R_below zab11 hb)
 have n1_ := Aside0.mk (Kd.R_below zab14 hb)
 have n2_ := Aside0.mk (blk_below (g := gb677) (o := .cells #[.int .i64 a0_0, .int .i64 a0_1, .slice A0_2 l0_2.length c0_2] 24 (0, 0)) zab2 hb)
 have n3_ := Aside0.mk (blk_below (g := gb678) (o := .cells #[.int .i64 a1_0, .int .i64 a1_1] 26 (0, 0)) zab5 hb)
 have n4_ := Aside0.mk (blk_below (g := gb694) (o := .cells #[.int .i64 t689, .int .i64 t690, .slice Ao35 t691.length co35] 30 (0, 0)) zab9 hb)
 have n5_ := Aside0.mk (below_step zab1 hb)
 clear HO684
 clear HO693
 clear BK677
 clear BK678
 clear BK694
 clear HB
 have HO684 := n0_
 have HO693 := n1_
 have BK677 := n2_
 have BK678 := n3_
 have BK694 := n4_
 have HB := n5_
 clear n0_ n1_ n2_ n3_ n4_ n5_
 (try clear hb)
 (try clear hb2)
 (try clear hk)
 (try clear hi)
 (try clear hna_)
 (try clear hnb_)
 refine hK.out _ _ ⟨(blk_cell BK694.out 0).trans rfl, (blk_cell BK694.out 1).trans rfl, (blk_cell BK694.out 2).trans rfl, (blk_cell BK678.out 0).trans rfl, (blk_cell BK678.out 1).trans rfl⟩ (fun hHeld => ?_)
 clear hK K
 refine norm_ (a' := ?_) ?_ ?_
 rotate_left
 ·show Act.put _ (some 38) _ = _
  simp only [Act.put, List.setIfInBounds_toArray, List.set_cons_zero, List.set_cons_succ, i64_w, i32_w]
  rfl
 refine pure_ (i := 6) (N := some 32) (v := ?_) (a' := ?_) #[true, true, true, true, true, true, true, false, false, false, false] rfl rfl (any_of HT_.out (by kernel_rfl)) (fun _ _ _ h => h) (Or.inl ⟨by rfl, ?_⟩) ?_ ?_
 rotate_left
 ·intro w'
  go_simp
  with_reducible rfl
 rotate_left
 ·simp only [Act.put, List.setIfInBounds_toArray, List.set_cons_zero, List.set_cons_succ, i64_w, i32_w]
  rfl
 refine pure_ (i := 7) (N := some 39) (v := ?_) (a' := ?_) #[true, true, true, true, true, true, true, true, false, false, false] rfl rfl (any_of HT_.out (by kernel_rfl)) (fun _ _ _ h => h) (Or.inl ⟨by rfl, ?_⟩) ?_ ?_
 rotate_left
 ·intro w'
  go_simp
  with_reducible rfl
 rotate_left
 ·simp only [Act.put, List.setIfInBounds_toArray, List.set_cons_zero, List.set_cons_succ, i64_w, i32_w]
  rfl
 refine pure_ (i := 8) (N := some 40) (v := ?_) (a' := ?_) #[true, true, true, true, true, true, true, true, true, false, false] rfl rfl (any_of HT_.out (by kernel_rfl)) (fun _ _ _ h => h) (Or.inl ⟨by rfl, ?_⟩) ?_ ?_
 rotate_left
 ·intro w'
  go_simp
  with_reducible rfl
 rotate_left
 ·simp only [Act.put, List.setIfInBounds_toArray, List.set_cons_zero, List.set_cons_succ, i64_w, i32_w]
  rfl
 refine pure_ (i := 9) (N := some 13) (v := ?_) (a' := ?_) #[true, true, true, true, true, true, true, true, true, true, false] rfl rfl (any_of HT_.out (by kernel_rfl)) (fun _ _ _ h => h) (Or.inl ⟨by rfl, ?_⟩) ?_ ?_
 rotate_left
 ·intro w'
  go_simp
  with_reducible rfl
 rotate_left
 ·simp only [Act.put, List.setIfInBounds_toArray, List.set_cons_zero, List.set_cons_succ, i64_w, i32_w]
  rfl
 refine pure_ (i := 10) (N := some 14) (v := ?_) (a' := ?_) #[true, true, true, true, true, true, true, true, true, true, true] rfl rfl (any_of HT_.out (by kernel_rfl)) (fun _ _ _ h => h) (Or.inl ⟨by rfl, ?_⟩) ?_ ?_
 rotate_left
 ·intro w'
  go_simp
  with_reducible rfl
 rotate_left
 ·simp only [Act.put, List.setIfInBounds_toArray, List.set_cons_zero, List.set_cons_succ, i64_w, i32_w]
  rfl
 refine done_ (done_of HT_.out (by kernel_rfl)) ?_
 go_upto_region 8 with (fail)
 go_cut [48] (fun v48 wc => ∃ (kq : Nat) (x48_17 : Bool), v48 = .bool x48_17 ∧ Aside0 (laws_FnExactCountRoutes.j0 kq x48_17 a0_0 a0_1 l0_2 t689 t690 t691 = some r) ∧ Aside0 (kq ≤ k) ∧ Aside0 (Kd.R (Kd.int .i64) 3 wc w.heap.size (fun _ => True) (.slice Ao35 t691.length co35) t691) ∧ Aside0 (wc.heap[gb677]? = some (.cells #[.int .i64 a0_0, .int .i64 a0_1, (.slice A0_2 l0_2.length c0_2)] 24 (0, 0))) ∧ Aside0 (wc.heap[gb678]? = some (.cells #[.int .i64 a1_0, .int .i64 a1_1] 26 (0, 0))) ∧ Aside0 (wc.heap[gb694]? = some (.cells #[.int .i64 t689, .int .i64 t690, (.slice Ao35 t691.length co35)] 30 (0, 0))) ∧ Aside0 (Below w.heap.size w wc))
 case first =>
  have H := HC18.out
  clear HC18
  by_cases c40 : t697 = t687
  rotate_left
  ·rw [if_neg c40] at H
   have c40b0 : (t697 == t687) = false := beq_eq_false_iff_ne.mpr c40
   have c40b1 : (t697 != t687) = true := bne_iff_ne.mpr c40
   (first | rw [c40b0] | (simp only [i64_w, i32_w]; rw [c40b0]) | skip)
   have H' := Aside0.mk H
   clear H
   go_wp2
   go_meet
   case rel => exact ⟨_, (true), (by first | rfl | (simp; done) | (simp [*]; done)), H', ⟨by first | omega | exact Nat.le_refl _⟩, ⟨zab17⟩, ⟨zab2⟩, ⟨zab5⟩, ⟨zab9⟩, ⟨zab1⟩⟩
  rw [if_pos c40] at H
  have c40b0 : (t697 == t687) = true := beq_iff_eq.mpr c40
  have c40b1 : (t697 != t687) = false := bne_eq_false_iff_eq.mpr c40
  clear c40
  (first | rw [c40b0] | (simp only [i64_w, i32_w]; rw [c40b0]) | skip)
  have H' := Aside0.mk H
  clear H
  go_wp2
  go_meet
  case rel => exact ⟨_, ((t698 != t688)), (by first | rfl | (simp; done) | (simp [*]; done)), H', ⟨by first | omega | exact Nat.le_refl _⟩, ⟨zab17⟩, ⟨zab2⟩, ⟨zab5⟩, ⟨zab9⟩, ⟨zab1⟩⟩
 case rest =>
  clear HC18
  try clear c1; try clear c2; try clear p2; try clear c3; try clear c4; try clear c6; try clear c6b0; try clear c9; try clear c15; try clear c17; try clear c18; try clear c21; try clear c30; try clear c31; try clear c32; try clear c33; try clear c40; try clear c40b0; try clear c40b1; try clear hcz10_0; try clear hcz10_1; try clear hcz10_2; try clear hcz22_0; try clear hcz22_1; try clear hcz22_2; try clear hcz29_0; try clear hcz29_1; try clear hcz29_2; try clear hcz34_0; try clear hcz34_1; try clear hcz34_2; try clear hfz10_0; try clear hfz10_1; try clear hfz10_2; try clear hfz22_0; try clear hfz22_1
  try clear hfz22_2; try clear hfz29_0; try clear hfz29_1; try clear hfz29_2; try clear hfz34_0; try clear hfz34_1; try clear hfz34_2
  obtain ⟨kq, x48_17, rfl, HA, HJ17, HO_695002, BK677, BK678, BK694, HB⟩ := hcut
  cases kq with
  | zero => exact absurd HA.out (by simp [laws_FnExactCountRoutes.j0])
  | succ kj17 =>
   have H := HA.out
   clear HA
   simp only [laws_FnExactCountRoutes.j0] at H
   by_cases c41 : x48_17 = true
   ·subst c41
    have H1 : (some false) = some r := by rw [if_pos rfl] at H; exact H
    clear H
    have H := H1
    clear H1
    obtain rfl := Option.some.inj H
    go_wp2
    go_ret
    exact ⟨zab13, zab1⟩
   replace c41 := Bool.eq_false_iff.mpr c41
   subst c41
   have H1 : ((laws_toBoard.f kj17 a0_0 a0_1 l0_2).bind fun bt699 => ((laws_eqBoard.f kj17 t689 t690 t691 bt699.1 bt699.2.1 bt699.2.2).bind fun t704 => (if t704 = true then (some true) else (some false)))) = some r := by rw [if_neg (show ¬ (false = true) by decide)] at H; exact H
   clear H
   have H := H1
   clear H1
   replace H := Option.bind_eq_some_iff.mp H
   obtain ⟨⟨t699, t700, t701⟩, A420, H⟩ := H
   replace H : ((laws_eqBoard.f kj17 t689 t690 t691 t699 t700 t701).bind fun t704 => (if t704 = true then (some true) else (some false))) = some r := H
   have A42 := Aside0.mk A420
   clear A420
   replace H := Option.bind_eq_some_iff.mp H
   obtain ⟨t704, A430, H⟩ := H
   replace H : (if t704 = true then (some true) else (some false)) = some r := H
   have A43 := Aside0.mk A430
   clear A430
   by_cases c44 : t704 = true
   ·subst c44
    have H1 : (some true) = some r := by rw [if_pos rfl] at H; exact H
    clear H
    have H := H1
    clear H1
    obtain rfl := Option.some.inj H
    try go_wp2
    have n0_ := Aside0.mk (Kd.R_drew HO_695002.out)
    have n1_ := Aside0.mk (blk_drew BK677.out)
    have n2_ := Aside0.mk (blk_drew BK678.out)
    have n3_ := Aside0.mk (blk_drew BK694.out)
    have n4_ := Aside0.mk (below_drew1 HB.out)
    clear HO_695002
    clear BK677
    clear BK678
    clear BK694
    clear HB
    have HO_695002 := n0_
    have BK677 := n1_
    have BK678 := n2_
    have BK694 := n3_
    have HB := n4_
    clear n0_ n1_ n2_ n3_ n4_
    refine start_ (n := 5) (S := fun w' => w'.cell? ⟨gb694, 0, none⟩ = some (.int .i64 t689) ∧ w'.cell? ⟨gb694, 1, none⟩ = some (.int .i64 t690) ∧ w'.cell? ⟨gb694, 2, none⟩ = some (.slice Ao35 t691.length co35) ∧ w'.cell? ⟨gb677, 0, none⟩ = some (.int .i64 a0_0) ∧ w'.cell? ⟨gb677, 1, none⟩ = some (.int .i64 a0_1) ∧ w'.cell? ⟨gb677, 2, none⟩ = some (.slice A0_2 l0_2.length c0_2)) (ds := []) #[false, false, false, false, false] (by kernel_rfl) rfl rfl ⟨(blk_cell BK694.out 0).trans rfl, (blk_cell BK694.out 1).trans rfl, (blk_cell BK694.out 2).trans rfl, (blk_cell BK677.out 0).trans rfl, (blk_cell BK677.out 1).trans rfl, (blk_cell BK677.out 2).trans rfl⟩ (fun hHeld => ?_)
    generalize wc.drew = w45 at HO_695002 BK677 BK678 BK694 HB hHeld ⊢
    refine take_ (i := 0) (N := some 49) (v := ?_) (a' := ?_) #[true, false, false, false, false] rfl rfl (by kernel_rfl) (fun _ _ _ h => h) (Or.inl ⟨by rfl, ?_⟩) hHeld ?_ ?_
    rotate_left
    ·rintro w' ⟨s0, s1, s2, s3, s4, s5⟩
     go_simp
     with_reducible rfl
    rotate_left
    ·simp only [Act.put, List.setIfInBounds_toArray, List.set_cons_zero, List.set_cons_succ, i64_w, i32_w]
     rfl
    refine take_ (i := 1) (N := some 50) (v := ?_) (a' := ?_) #[true, true, false, false, false] rfl rfl (by kernel_rfl) (fun _ _ _ h => h) (Or.inl ⟨by rfl, ?_⟩) hHeld ?_ ?_
    rotate_left
    ·rintro w' ⟨s0, s1, s2, s3, s4, s5⟩
     go_simp
     with_reducible rfl
    rotate_left
    ·simp only [Act.put, List.setIfInBounds_toArray, List.set_cons_zero, List.set_cons_succ, i64_w, i32_w]
     rfl
    refine one_ (i := 2) (N := some 51) #[true, true, true, false, false] rfl rfl (by kernel_rfl) (by decide) (fun K hK => ?_)
    refine goes_ Try.func17 (by kernel_rfl) rfl #[.agg #[.int .i64 a0_0, .int .i64 a0_1, .slice A0_2 l0_2.length c0_2]] (by rfl) rfl rfl zab6 ?_
    with_reducible refine (laws_toBoard.calls kj17 a0_0 a0_1 _ _ l0_2 t699 t700 t701 _ ?side1 ?side2 A42.out).mono ?_
    (case side1 => exact zab7)
    (case side2 => exact HC0_2.out)
    rintro e w46 ⟨v702, rfl, ho0, hb⟩
    refine ⟨_, rfl, ?_⟩
    have n0_ := Aside0.mk (Kd.R_elder' zab12 (Kd.R_base ho0) hb)
    have n1_ := Aside0.mk (Kd.R_lower (Kd.R_new' ho0 (Kd.R_lt zab12)) (below_size zab1))
    have n2_ := Aside0.mk (blk_below (g := gb677) (o := .cells #[.int .i64 a0_0, .int .i64 a0_1, .slice A0_2 l0_2.length c0_2] 24 (0, 0)) zab2 hb)
    have n3_ := Aside0.mk (blk_below (g := gb678) (o := .cells #[.int .i64 a1_0, .int .i64 a1_1] 26 (0, 0)) zab5 hb)
    have n4_ := Aside0.mk (blk_below (g := gb694) (o := .cells #[.int .i64 t689, .int .i64 t690, .slice Ao35 t691.length co35] 30 (0, 0)) zab9 hb)
    have n5_ := Aside0.mk (below_step zab1 hb)
    clear HO_695002
    clear BK677
    clear BK678
    clear BK694
    clear HB
    have HO_695002 := n0_
    have HO703 := n1_
    have BK677 := n2_
    have BK678 := n3_
    have BK694 := n4_
    have HB := n5_
    clear n0_ n1_ n2_ n3_ n4_ n5_
    (try clear hb)
    (try clear hb2)
    (try clear hk)
    (try clear hi)
    (try clear ho0)
    (try clear hna_)
    (try clear hnb_)
    obtain ⟨Ao47, co47, eo47⟩ := Kd.R_slice HO703.out
    (first | subst eo47 | (injection eo47 with f1_ f2_ f3_; have f4_ := f1_.symm; have f5_ := f3_.symm; clear f1_ f2_ f3_; subst f4_; subst f5_))
    refine hK.out _ _ ⟨(blk_cell BK694.out 0).trans rfl, (blk_cell BK694.out 1).trans rfl, (blk_cell BK694.out 2).trans rfl, (blk_cell BK677.out 0).trans rfl, (blk_cell BK677.out 1).trans rfl, (blk_cell BK677.out 2).trans rfl⟩ (fun hHeld => ?_)
    clear hK K
    refine norm_ (a' := ?_) ?_ ?_
    rotate_left
    ·show Act.put _ (some 51) _ = _
     simp only [Act.put, List.setIfInBounds_toArray, List.set_cons_zero, List.set_cons_succ, i64_w, i32_w]
     rfl
    refine one_ (i := 3) (N := some 52) #[true, true, true, true, false] rfl rfl (by kernel_rfl) (by decide) (fun K hK => ?_)
    refine goes_ Try.func22 (by kernel_rfl) rfl #[.agg #[.int .i64 t689, .int .i64 t690, .slice Ao35 t691.length co35], .agg #[.int .i64 t699, .int .i64 t700, .slice Ao47 t701.length co47]] (by rfl) rfl rfl zab6 ?_
    with_reducible refine (laws_eqBoard.calls kj17 t689 t690 _ _ t691 t699 t700 _ _ t701 true _ ?side1 ?side2 ?side3 ?side4 A43.out).mono ?_
    (case side1 => exact zab15)
    (case side2 => exact (Kd.R_reads' HO_695002.out).2.1)
    (case side3 => exact zab16)
    (case side4 => exact (Kd.R_reads' HO703.out).2.1)
    rintro e w48 ⟨rfl, hb⟩
    refine ⟨_, rfl, ?_⟩
    have n0_ := Aside0.mk (Kd.R_below zab12 hb)
    have n1_ := Aside0.mk (Kd.R_below (by (with_reducible repeat (first | apply Kd.R_alloc | apply Kd.R_drewN | apply Kd.R_drew)); exact HO703.out) hb)
    have n2_ := Aside0.mk (blk_below (g := gb677) (o := .cells #[.int .i64 a0_0, .int .i64 a0_1, .slice A0_2 l0_2.length c0_2] 24 (0, 0)) zab2 hb)
    have n3_ := Aside0.mk (blk_below (g := gb678) (o := .cells #[.int .i64 a1_0, .int .i64 a1_1] 26 (0, 0)) zab5 hb)
    have n4_ := Aside0.mk (blk_below (g := gb694) (o := .cells #[.int .i64 t689, .int .i64 t690, .slice Ao35 t691.length co35] 30 (0, 0)) zab9 hb)
    have n5_ := Aside0.mk (below_step zab1 hb)
    clear HO_695002
    clear HO703
    clear BK677
    clear BK678
    clear BK694
    clear HB
    have HO_695002 := n0_
    have HO703 := n1_
    have BK677 := n2_
    have BK678 := n3_
    have BK694 := n4_
    have HB := n5_
    clear n0_ n1_ n2_ n3_ n4_ n5_
    (try clear hb)
    (try clear hb2)
    (try clear hk)
    (try clear hi)
    (try clear hna_)
    (try clear hnb_)
    refine hK.out _ _ ⟨(blk_cell BK694.out 0).trans rfl, (blk_cell BK694.out 1).trans rfl, (blk_cell BK694.out 2).trans rfl, (blk_cell BK677.out 0).trans rfl, (blk_cell BK677.out 1).trans rfl, (blk_cell BK677.out 2).trans rfl⟩ (fun hHeld => ?_)
    clear hK K
    refine norm_ (a' := ?_) ?_ ?_
    rotate_left
    ·show Act.put _ (some 52) _ = _
     simp only [Act.put, List.setIfInBounds_toArray, List.set_cons_zero, List.set_cons_succ, i64_w, i32_w]
     rfl
    refine pure_ (i := 4) (N := some 53) (v := ?_) (a' := ?_) #[true, true, true, true, true] rfl rfl (by kernel_rfl) (fun _ _ _ h => h) (Or.inl ⟨by rfl, ?_⟩) ?_ ?_
    rotate_left
    ·intro w'
     go_simp
     with_reducible rfl
    rotate_left
    ·simp only [Act.put, List.setIfInBounds_toArray, List.set_cons_zero, List.set_cons_succ, i64_w, i32_w]
     rfl
    refine done_ (by kernel_rfl) ?_
    try go_wp2
    go_ret
    exact ⟨zab13, zab1⟩
   replace c44 := Bool.eq_false_iff.mpr c44
   subst c44
   have H1 : (some false) = some r := by rw [if_neg (show ¬ (false = true) by decide)] at H; exact H
   clear H
   have H := H1
   clear H1
   obtain rfl := Option.some.inj H
   try go_wp2
   have n0_ := Aside0.mk (Kd.R_drew HO_695002.out)
   have n1_ := Aside0.mk (blk_drew BK677.out)
   have n2_ := Aside0.mk (blk_drew BK678.out)
   have n3_ := Aside0.mk (blk_drew BK694.out)
   have n4_ := Aside0.mk (below_drew1 HB.out)
   clear HO_695002
   clear BK677
   clear BK678
   clear BK694
   clear HB
   have HO_695002 := n0_
   have BK677 := n1_
   have BK678 := n2_
   have BK694 := n3_
   have HB := n4_
   clear n0_ n1_ n2_ n3_ n4_
   refine start_ (n := 5) (S := fun w' => w'.cell? ⟨gb694, 0, none⟩ = some (.int .i64 t689) ∧ w'.cell? ⟨gb694, 1, none⟩ = some (.int .i64 t690) ∧ w'.cell? ⟨gb694, 2, none⟩ = some (.slice Ao35 t691.length co35) ∧ w'.cell? ⟨gb677, 0, none⟩ = some (.int .i64 a0_0) ∧ w'.cell? ⟨gb677, 1, none⟩ = some (.int .i64 a0_1) ∧ w'.cell? ⟨gb677, 2, none⟩ = some (.slice A0_2 l0_2.length c0_2)) (ds := []) #[false, false, false, false, false] (by kernel_rfl) rfl rfl ⟨(blk_cell BK694.out 0).trans rfl, (blk_cell BK694.out 1).trans rfl, (blk_cell BK694.out 2).trans rfl, (blk_cell BK677.out 0).trans rfl, (blk_cell BK677.out 1).trans rfl, (blk_cell BK677.out 2).trans rfl⟩ (fun hHeld => ?_)
   generalize wc.drew = w49 at HO_695002 BK677 BK678 BK694 HB hHeld ⊢
   refine take_ (i := 0) (N := some 49) (v := ?_) (a' := ?_) #[true, false, false, false, false] rfl rfl (by kernel_rfl) (fun _ _ _ h => h) (Or.inl ⟨by rfl, ?_⟩) hHeld ?_ ?_
   rotate_left
   ·rintro w' ⟨s0, s1, s2, s3, s4, s5⟩
    go_simp
    with_reducible rfl
   rotate_left
   ·simp only [Act.put, List.setIfInBounds_toArray, List.set_cons_zero, List.set_cons_succ, i64_w, i32_w]
    rfl
   refine take_ (i := 1) (N := some 50) (v := ?_) (a' := ?_) #[true, true, false, false, false] rfl rfl (by kernel_rfl) (fun _ _ _ h => h) (Or.inl ⟨by rfl, ?_⟩) hHeld ?_ ?_
   rotate_left
   ·rintro w' ⟨s0, s1, s2, s3, s4, s5⟩
    go_simp
    with_reducible rfl
   rotate_left
   ·simp only [Act.put, List.setIfInBounds_toArray, List.set_cons_zero, List.set_cons_succ, i64_w, i32_w]
    rfl
   refine one_ (i := 2) (N := some 51) #[true, true, true, false, false] rfl rfl (by kernel_rfl) (by decide) (fun K hK => ?_)
   refine goes_ Try.func17 (by kernel_rfl) rfl #[.agg #[.int .i64 a0_0, .int .i64 a0_1, .slice A0_2 l0_2.length c0_2]] (by rfl) rfl rfl zab6 ?_
   with_reducible refine (laws_toBoard.calls kj17 a0_0 a0_1 _ _ l0_2 t699 t700 t701 _ ?side1 ?side2 A42.out).mono ?_
   (case side1 => exact zab7)
   (case side2 => exact HC0_2.out)
   rintro e w50 ⟨v702, rfl, ho0, hb⟩
   refine ⟨_, rfl, ?_⟩
   have n0_ := Aside0.mk (Kd.R_elder' zab12 (Kd.R_base ho0) hb)
   have n1_ := Aside0.mk (Kd.R_lower (Kd.R_new' ho0 (Kd.R_lt zab12)) (below_size zab1))
   have n2_ := Aside0.mk (blk_below (g := gb677) (o := .cells #[.int .i64 a0_0, .int .i64 a0_1, .slice A0_2 l0_2.length c0_2] 24 (0, 0)) zab2 hb)
   have n3_ := Aside0.mk (blk_below (g := gb678) (o := .cells #[.int .i64 a1_0, .int .i64 a1_1] 26 (0, 0)) zab5 hb)
   have n4_ := Aside0.mk (blk_below (g := gb694) (o := .cells #[.int .i64 t689, .int .i64 t690, .slice Ao35 t691.length co35] 30 (0, 0)) zab9 hb)
   have n5_ := Aside0.mk (below_step zab1 hb)
   clear HO_695002
   clear BK677
   clear BK678
   clear BK694
   clear HB
   have HO_695002 := n0_
   have HO703 := n1_
   have BK677 := n2_
   have BK678 := n3_
   have BK694 := n4_
   have HB := n5_
   clear n0_ n1_ n2_ n3_ n4_ n5_
   (try clear hb)
   (try clear hb2)
   (try clear hk)
   (try clear hi)
   (try clear ho0)
   (try clear hna_)
   (try clear hnb_)
   obtain ⟨Ao51, co51, eo51⟩ := Kd.R_slice HO703.out
   (first | subst eo51 | (injection eo51 with f1_ f2_ f3_; have f4_ := f1_.symm; have f5_ := f3_.symm; clear f1_ f2_ f3_; subst f4_; subst f5_))
   refine hK.out _ _ ⟨(blk_cell BK694.out 0).trans rfl, (blk_cell BK694.out 1).trans rfl, (blk_cell BK694.out 2).trans rfl, (blk_cell BK677.out 0).trans rfl, (blk_cell BK677.out 1).trans rfl, (blk_cell BK677.out 2).trans rfl⟩ (fun hHeld => ?_)
   clear hK K
   refine norm_ (a' := ?_) ?_ ?_
   rotate_left
   ·show Act.put _ (some 51) _ = _
    simp only [Act.put, List.setIfInBounds_toArray, List.set_cons_zero, List.set_cons_succ, i64_w, i32_w]
    rfl
   refine one_ (i := 3) (N := some 52) #[true, true, true, true, false] rfl rfl (by kernel_rfl) (by decide) (fun K hK => ?_)
   refine goes_ Try.func22 (by kernel_rfl) rfl #[.agg #[.int .i64 t689, .int .i64 t690, .slice Ao35 t691.length co35], .agg #[.int .i64 t699, .int .i64 t700, .slice Ao51 t701.length co51]] (by rfl) rfl rfl zab6 ?_
   with_reducible refine (laws_eqBoard.calls kj17 t689 t690 _ _ t691 t699 t700 _ _ t701 false _ ?side1 ?side2 ?side3 ?side4 A43.out).mono ?_
   (case side1 => exact zab15)
   (case side2 => exact (Kd.R_reads' HO_695002.out).2.1)
   (case side3 => exact zab16)
   (case side4 => exact (Kd.R_reads' HO703.out).2.1)
   rintro e w52 ⟨rfl, hb⟩
   refine ⟨_, rfl, ?_⟩
   have n0_ := Aside0.mk (Kd.R_below zab12 hb)
   have n1_ := Aside0.mk (Kd.R_below (by (with_reducible repeat (first | apply Kd.R_alloc | apply Kd.R_drewN | apply Kd.R_drew)); exact HO703.out) hb)
   have n2_ := Aside0.mk (blk_below (g := gb677) (o := .cells #[.int .i64 a0_0, .int .i64 a0_1, .slice A0_2 l0_2.length c0_2] 24 (0, 0)) zab2 hb)
   have n3_ := Aside0.mk (blk_below (g := gb678) (o := .cells #[.int .i64 a1_0, .int .i64 a1_1] 26 (0, 0)) zab5 hb)
   have n4_ := Aside0.mk (blk_below (g := gb694) (o := .cells #[.int .i64 t689, .int .i64 t690, .slice Ao35 t691.length co35] 30 (0, 0)) zab9 hb)
   have n5_ := Aside0.mk (below_step zab1 hb)
   clear HO_695002
   clear HO703
   clear BK677
   clear BK678
   clear BK694
   clear HB
   have HO_695002 := n0_
   have HO703 := n1_
   have BK677 := n2_
   have BK678 := n3_
   have BK694 := n4_
   have HB := n5_
   clear n0_ n1_ n2_ n3_ n4_ n5_
   (try clear hb)
   (try clear hb2)
   (try clear hk)
   (try clear hi)
   (try clear hna_)
   (try clear hnb_)
   refine hK.out _ _ ⟨(blk_cell BK694.out 0).trans rfl, (blk_cell BK694.out 1).trans rfl, (blk_cell BK694.out 2).trans rfl, (blk_cell BK677.out 0).trans rfl, (blk_cell BK677.out 1).trans rfl, (blk_cell BK677.out 2).trans rfl⟩ (fun hHeld => ?_)
   clear hK K
   refine norm_ (a' := ?_) ?_ ?_
   rotate_left
   ·show Act.put _ (some 52) _ = _
    simp only [Act.put, List.setIfInBounds_toArray, List.set_cons_zero, List.set_cons_succ, i64_w, i32_w]
    rfl
   refine pure_ (i := 4) (N := some 53) (v := ?_) (a' := ?_) #[true, true, true, true, true] rfl rfl (by kernel_rfl) (fun _ _ _ h => h) (Or.inl ⟨by rfl, ?_⟩) ?_ ?_
   rotate_left
   ·intro w'
    go_simp
    with_reducible rfl
   rotate_left
   ·simp only [Act.put, List.setIfInBounds_toArray, List.set_cons_zero, List.set_cons_succ, i64_w, i32_w]
    rfl
   refine done_ (by kernel_rfl) ?_
   try go_wp2
   go_ret
   exact ⟨zab13, zab1⟩

end Go.Proofs.Ytjeongckkfkehaa.Q
